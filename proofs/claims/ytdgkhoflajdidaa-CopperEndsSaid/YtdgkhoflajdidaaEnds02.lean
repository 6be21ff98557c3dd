/- Lemmas for the law's proof: Pa, Pb, Pc, Pd, Pe, Wa, Q0. -/
import Derived.Test.YtdgkhoflajdidaaEnds01
import Derived.Test.YtdgkhoflajdidaaCore16
import Derived.Test.YtdgkhoflajdidaaCore10
import Derived.Test.YtdgkhoflajdidaaCore07
import Derived.Test.YtdgkhoflajdidaaCore15
import Derived.Test.YtdgkhoflajdidaaCore14
/- The truths by their numbers are all truths. -/
namespace Go.Proofs.Ytdgkhoflajdidaa
open Go.RowKit Go.Proofs.YtdgkhoflajdidaaW.PrintWords Go.Proofs.YtdgkhoflajdidaaW.PrintMore Go.Proofs.YtdgkhoflajdidaaW.PrintLast Go.Proofs.Ytdgkhoflajdidaa.Print
set_option linter.unusedVariables false
set_option linter.unusedSimpArgs false
def prodS (l : List S35) : Nat := l.foldr (fun r p => rsz r * p) 1
theorem nq_cons (r : S35) (l : List S35) (n : Nat) : ∀ k, nq (r :: l) n (k + 1) = nq l (n / rsz r) k
 | 0 => rfl
 | k + 1 => by
  show nq (r :: l) n (k + 1) / rsz (l.getD k z35) = nq l (n / rsz r) k / rsz (l.getD k z35)
  rw [nq_cons r l n k]
theorem nth_digits : ∀ (l : List S35), (∀ r ∈ l, 1 ≤ rsz r) → ∀ d : Nat → Nat, (∀ k, k < l.length → d k < rsz (l.getD k z35)) → ∃ n, n < prodS l ∧ ∀ k, k < l.length → nq l n k % rsz (l.getD k z35) = d k
 | [], _, _, _ => ⟨0, by decide, fun k hk => absurd hk (Nat.not_lt_zero k)⟩
 | r :: l, hl, d, hd => by
  obtain ⟨n, hn, hq⟩ := nth_digits l (fun q h => hl q (List.mem_cons_of_mem _ h)) (fun k => d (k + 1)) (fun k hk => hd (k + 1) (Nat.succ_lt_succ hk))
  have h0 : d 0 < rsz r := hd 0 (Nat.succ_pos _)
  refine ⟨d 0 + rsz r * n, ?_, fun k hk => ?_⟩
  ·show d 0 + rsz r * n < rsz r * prodS l
   have : rsz r * (n + 1) ≤ rsz r * prodS l := Nat.mul_le_mul_left _ hn
   rw [Nat.mul_add] at this
   omega
  ·cases k with
   | zero =>
    show (d 0 + rsz r * n) % rsz r = d 0
    rw [Nat.add_mul_mod_self_left]
    exact Nat.mod_eq_of_lt h0
   | succ k =>
    rw [nq_cons, Nat.add_mul_div_left _ _ (by omega), Nat.div_eq_of_lt h0, Nat.zero_add]
    exact hq k (Nat.lt_of_succ_lt_succ hk)
theorem manyR_ge (l : List S35) (h : ∀ r ∈ l, 1 ≤ rsz r) : ∀ m : Int, 3000 ≤ m → 3000 ≤ manyR m l := by
 induction l with
 | nil => exact fun m hm => hm
 | cons r l ih =>
  intro m hm
  refine ih (fun q hq => h q (List.mem_cons_of_mem _ hq)) _ ?_
  have hr := h r (List.mem_cons_self ..)
  have hs : 1 ≤ r.f1 - r.f0 + 1 := by unfold rsz at hr; omega
  have := Int.mul_le_mul_of_nonneg_left hs (show 0 ≤ m by omega)
  show 3000 ≤ min 3000 (m * (r.f1 - r.f0 + 1))
  omega
theorem manyR_prod (l : List S35) (h : ∀ r ∈ l, 1 ≤ rsz r) : ∀ m : Nat, manyR m l ≤ 2000 → manyR m l = ((m * prodS l : Nat) : Int) := by
 induction l with
 | nil => intro m _; show (m : Int) = ((m * 1 : Nat) : Int); rw [Nat.mul_one]
 | cons r l ih =>
  intro m hm
  have hr := h r (List.mem_cons_self ..)
  have hl := fun q hq => h q (List.mem_cons_of_mem r hq)
  have hs : r.f1 - r.f0 + 1 = ((rsz r : Nat) : Int) := by unfold rsz at hr ⊢; omega
  have e0 : manyR m (r :: l) = manyR (min 3000 (m * (r.f1 - r.f0 + 1))) l := rfl
  rw [e0] at hm ⊢
  by_cases hb : (m : Int) * (r.f1 - r.f0 + 1) < 3000
  ·have e1 : min 3000 ((m : Int) * (r.f1 - r.f0 + 1)) = ((m * rsz r : Nat) : Int) := by rw [Int.min_eq_right (by omega), hs]; rfl
   rw [e1] at hm ⊢
   rw [ih hl _ hm]
   show ((m * rsz r * prodS l : Nat) : Int) = ((m * (rsz r * prodS l) : Nat) : Int)
   rw [Nat.mul_assoc]
  ·exfalso
   have := manyR_ge l hl (min 3000 (m * (r.f1 - r.f0 + 1))) (by omega)
   omega
variable {x : S38}
theorem Valid.rsz (hV : Valid x) : ∀ r ∈ x.f8, 1 ≤ rsz r := fun r hr => by have := hV.lossV r hr; unfold Go.Proofs.Ytdgkhoflajdidaa.rsz; omega
theorem Valid.inside7 (hV : Valid x) : inside x.f7 99 = true := inside_iff.2 ⟨hV.heat0, hV.heat1, hV.heat2⟩
theorem Valid.inside8 (hV : Valid x) : x.f8.all (fun r => inside r 99) = true := List.all_eq_true.2 fun r hr => inside_iff.2 (hV.lossV r hr)
theorem manyX_ok (hV : Valid x) : 0 ≤ manyX x ∧ manyX x ≤ 2000 ∧ (manyX x).toNat = Go.Proofs.Ytdgkhoflajdidaa.rsz x.f7 * prodS x.f8 := by
 have h1 := manyX_sizes hV.inside7 hV.inside8
 have h2 := hV.many
 have h3 : manyX x ≤ 2000 ∧ 0 ≤ manyX x := by omega
 have hs : x.f7.f1 - x.f7.f0 + 1 = ((Go.Proofs.Ytdgkhoflajdidaa.rsz x.f7 : Nat) : Int) := by have := hV.heat1; unfold Go.Proofs.Ytdgkhoflajdidaa.rsz; omega
 have h4 : manyX x = ((Go.Proofs.Ytdgkhoflajdidaa.rsz x.f7 * prodS x.f8 : Nat) : Int) := by
  unfold manyX at h3 ⊢
  rw [hs] at h3 ⊢
  exact manyR_prod _ hV.rsz _ h3.1
 exact ⟨h3.2, h3.1, by rw [h4]; exact Int.toNat_natCast _⟩
theorem nthX_len (n : Nat) : (nthX x n).f1.length = x.f8.length := by simp [nthX, nls]
theorem nthX_loss (hV : Valid x) (n : Nat) {k : Nat} (hk : k < x.f8.length) : (toSc (nthX x n)).loss k = nl x.f8 (n / Go.Proofs.Ytdgkhoflajdidaa.rsz x.f7) k := by
 have h1 := hV.lossN
 have h2 := hV.last1
 have h4 : (toSc (nthX x n)).loss k = (nthX x n).f1.getD k 0 := mkSc_loss _ _ k (by omega)
 rw [h4]
 simp [nthX, nls, hk]
theorem nthX_rest (hV : Valid x) (n : Nat) {k : Nat} (hk : ¬ k < x.f8.length) : (toSc (nthX x n)).loss k = 0 := by
 by_cases h6 : k < 5
 ·have h4 : (toSc (nthX x n)).loss k = (nthX x n).f1.getD k 0 := mkSc_loss _ _ k h6
  rw [h4, List.getD_eq_getElem?_getD, List.getElem?_eq_none (by rw [nthX_len]; omega)]
  rfl
 ·exact Sc.loss_far _ (by omega)
theorem nthX_in (hV : Valid x) (n : Nat) : InSc x (toSc (nthX x n)) := by
 have h1 := hV.lossN
 have hh : (toSc (nthX x n)).h = x.f7.f0 + ((n % Go.Proofs.Ytdgkhoflajdidaa.rsz x.f7 : Nat) : Int) := rfl
 refine ⟨?_, fun k hk => ?_, fun k hk => nthX_rest hV n (by omega)⟩
 ·rw [hh]
  have h2 := hV.heat1
  have h3 : Go.Proofs.Ytdgkhoflajdidaa.rsz x.f7 = (x.f7.f1 - x.f7.f0 + 1).toNat := rfl
  have := Nat.mod_lt n (show 0 < Go.Proofs.Ytdgkhoflajdidaa.rsz x.f7 by omega)
  omega
 ·have hlt : k < x.f8.length := by omega
  rw [nthX_loss hV n hlt]
  have hge : x.f8.getD k z35 = x.f8[k] := by simp [hlt]
  have h4 := hV.lossV _ (List.getElem_mem hlt)
  unfold nl
  rw [hge]
  have h3 : Go.Proofs.Ytdgkhoflajdidaa.rsz x.f8[k] = (x.f8[k].f1 - x.f8[k].f0 + 1).toNat := rfl
  have := Nat.mod_lt (nq x.f8 (n / Go.Proofs.Ytdgkhoflajdidaa.rsz x.f7) k) (show 0 < Go.Proofs.Ytdgkhoflajdidaa.rsz x.f8[k] by omega)
  omega
theorem nthX_onto (hV : Valid x) {s : Sc} (hs : InSc x s) : ∃ n, n < (manyX x).toNat ∧ toSc (nthX x n) = s := by
 have h1 := hV.lossN
 have hsz : Go.Proofs.Ytdgkhoflajdidaa.rsz x.f7 = (x.f7.f1 - x.f7.f0 + 1).toNat := rfl
 have hh := hs.heat
 obtain ⟨m, hm, hq⟩ := nth_digits x.f8 hV.rsz (fun k => (s.loss k - (x.f8.getD k z35).f0).toNat) (fun k hk => by
  have := hs.loss k (by omega)
  show _ < (_ : Int).toNat
  omega)
 have hd0 : (s.h - x.f7.f0).toNat < Go.Proofs.Ytdgkhoflajdidaa.rsz x.f7 := by omega
 have hdiv : ((s.h - x.f7.f0).toNat + Go.Proofs.Ytdgkhoflajdidaa.rsz x.f7 * m) / Go.Proofs.Ytdgkhoflajdidaa.rsz x.f7 = m := by rw [Nat.add_mul_div_left _ _ (by omega), Nat.div_eq_of_lt hd0, Nat.zero_add]
 have hmod : ((s.h - x.f7.f0).toNat + Go.Proofs.Ytdgkhoflajdidaa.rsz x.f7 * m) % Go.Proofs.Ytdgkhoflajdidaa.rsz x.f7 = (s.h - x.f7.f0).toNat := by rw [Nat.add_mul_mod_self_left]; exact Nat.mod_eq_of_lt hd0
 refine ⟨(s.h - x.f7.f0).toNat + Go.Proofs.Ytdgkhoflajdidaa.rsz x.f7 * m, ?_, Sc.ext' ?_ fun k hk => ?_⟩
 ·rw [(manyX_ok hV).2.2]
  have : Go.Proofs.Ytdgkhoflajdidaa.rsz x.f7 * (m + 1) ≤ Go.Proofs.Ytdgkhoflajdidaa.rsz x.f7 * prodS x.f8 := Nat.mul_le_mul_left _ hm
  rw [Nat.mul_add] at this
  omega
 ·show x.f7.f0 + (((((s.h - x.f7.f0).toNat + Go.Proofs.Ytdgkhoflajdidaa.rsz x.f7 * m) % Go.Proofs.Ytdgkhoflajdidaa.rsz x.f7 : Nat)) : Int) = s.h
  rw [hmod]
  omega
 ·by_cases hlt : k < x.f8.length
  ·rw [nthX_loss hV _ hlt, hdiv]
   unfold nl
   rw [hq k hlt]
   have := hs.loss k (by omega)
   omega
  ·rw [nthX_rest hV _ hlt, hs.rest k (by omega)]
/-- The truths as the reference lists them. -/
def trs (x : S38) (n : Nat) : List S75 := ((List.range n).map (nthX x)).filter fun t => rightB x (toSc t) []
def truthsX (x : S38) : List S75 := trs x (manyX x).toNat
theorem trs_snoc (n : Nat) : trs x (n + 1) = if rightB x (toSc (nthX x n)) [] = true then trs x n ++ [nthX x n] else trs x n := by
 unfold trs
 rw [List.range_succ, List.map_append, List.filter_append]
 by_cases h : rightB x (toSc (nthX x n)) [] = true <;> simp [h]
theorem trs_len (n : Nat) : (trs x n).length ≤ n := Nat.le_trans (List.length_filter_le ..) (by simp)
theorem trs_in (hV : Valid x) {n : Nat} {t : S75} (h : t ∈ trs x n) : InSc x (toSc t) ∧ t.f1.length = x.f8.length := by
 unfold trs at h
 rw [List.mem_filter, List.mem_map] at h
 obtain ⟨⟨m, _, rfl⟩, _⟩ := h
 exact ⟨nthX_in hV m, nthX_len m⟩
theorem mem_truthsX (hV : Valid x) {s : Sc} : s ∈ truthL x ↔ ∃ t ∈ truthsX x, toSc t = s := by
 rw [mem_truthL, mem_allSc hV]
 constructor
 ·rintro ⟨h1, h2⟩
  obtain ⟨n, hn, rfl⟩ := nthX_onto hV h1
  exact ⟨nthX x n, List.mem_filter.2 ⟨List.mem_map.2 ⟨n, List.mem_range.2 hn, rfl⟩, h2⟩, rfl⟩
 ·rintro ⟨t, ht, rfl⟩
  exact ⟨(trs_in hV ht).1, (List.mem_filter.1 ht).2⟩
theorem truthsX_nil (hV : Valid x) : truthsX x = [] ↔ truthL x = [] := by
 rw [List.eq_nil_iff_forall_not_mem, List.eq_nil_iff_forall_not_mem]
 constructor
 ·intro h s hs
  obtain ⟨t, ht, _⟩ := (mem_truthsX hV).1 hs
  exact h t ht
 ·intro h t ht
  exact h _ ((mem_truthsX hV).2 ⟨t, ht, rfl⟩)
end Go.Proofs.Ytdgkhoflajdidaa
/- Truths: all truths of coppers. -/
namespace Go.Proofs.Ytdgkhoflajdidaa
open Go.RowKit Go.Proofs.YtdgkhoflajdidaaW.PrintWords Go.Proofs.YtdgkhoflajdidaaW.PrintMore Go.Proofs.YtdgkhoflajdidaaW.PrintLast Go.Proofs.Ytdgkhoflajdidaa.Print
set_option linter.unusedVariables false
set_option linter.unusedSimpArgs false
set_option maxRecDepth 100000
set_option maxHeartbeats 4000000
/-- Truths' cells in a row; each has a row of its own for Loss. -/
def trCells (L : List (S75 × Option Addr × Nat)) : List Value := L.flatMap fun q => [.int .i64 q.1.f0, .slice q.2.1 q.1.f1.length q.2.2]
theorem trCells_snoc (L : List (S75 × Option Addr × Nat)) (q : S75 × Option Addr × Nat) : trCells (L ++ [q]) = trCells L ++ [.int .i64 q.1.f0, .slice q.2.1 q.1.f1.length q.2.2] := by simp [trCells]
def TrOwn (L : List (S75 × Option Addr × Nat)) (base : Nat) (W : World) : Prop := ∀ q ∈ L, W.ownsRow base 3 1 (.slice q.2.1 q.1.f1.length q.2.2) q.1.f1.length (nums .i64 q.1.f1)
theorem TrOwn.reps {L : List (S75 × Option Addr × Nat)} {base : Nat} {W : World} (h : TrOwn L base W) : Reps (k75.K W) 2 (L.map (·.1)) (trCells L) := by
 have key : ∀ (l acc : List (S75 × Option Addr × Nat)), TrOwn l base W → Reps (k75.K W) 2 (acc.map (·.1)) (trCells acc) → Reps (k75.K W) 2 ((acc ++ l).map (·.1)) (trCells (acc ++ l)) := by
  intro l
  induction l with
  | nil => intro acc _ h; simpa using h
  | cons q r ih =>
   intro acc hl h
   rw [show acc ++ q :: r = (acc ++ [q]) ++ r by simp]
   refine ih _ (fun p hp => hl p (List.mem_cons_of_mem _ hp)) ?_
   rw [trCells_snoc, List.map_append]
   have ho := hl q (List.mem_cons_self ..)
   obtain ⟨A5, c5, e5, _, g5⟩ := own_C (Kd.int .i64) (.int .i64) rfl (fun _ _ => rfl) (xs := q.1.f1) rfl (by simp [nums]) ho
   simp only [Value.slice.injEq, true_and] at e5
   obtain ⟨e6, e7⟩ := e5
   refine Reps.snoc h ?_ rfl
   rw [e6, e7]
   exact k75_mk W q.1 (by have := own_cap ho; rw [e7] at this; exact this) g5
 have := key L [] h (Reps.none _ _)
 simpa using this
theorem tr_own_C {w : World} {base n : Nat} {v : Value} {L : List (S75 × Option Addr × Nat)} (h : w.ownsRow base 66 2 v n (trCells L)) (ho : TrOwn L base w) (hn : L.length = n) : ∃ A c, v = .slice A (L.map (·.1)).length c ∧ Kd.C k75 w A (L.map (·.1)).length (L.map (·.1)) := by
 subst hn
 rw [List.length_map]
 exact own_reads_row h ho.reps (by simp)
/-- The state of Truths' loop. -/
structure TrSt (w : World) (B : Array Value) (L : List (S75 × Option Addr × Nat)) (v : Value) (W : World) : Prop where
 bel : Below w.heap.size w W
 box : Blk W w.heap.size B 28
 r : W.ownsRow w.heap.size 66 2 v L.length (trCells L)
 own : TrOwn L w.heap.size W
theorem oneT (a : Int) (A : Option Addr) (n c : Nat) : ∀ u ∈ [Value.int .i64 a, Value.slice A n c], u.oneCell' = true := fun u hu => by
 simp only [List.mem_cons, List.mem_nil_iff, or_false] at hu
 rcases hu with rfl | rfl <;> rfl
theorem cells2T {W : World} {p : Nat} {a b : Value} {t : TypeId} (h : Blk W p #[a, b] t) : ∀ j u, [a, b][j]? = some u → W.cell? (Addr.add ⟨p, 0, none⟩ j) = some u := fun j u hj => by
 match j, hj with
 | 0, hj => simp at hj; subst hj; exact h.cell 0 _ rfl
 | 1, hj => simp at hj; subst hj; exact h.cell 1 _ rfl
variable {x : S38} {w W V : World} {B : Array Value} {L : List (S75 × Option Addr × Nat)} {v v' : Value}
theorem TrSt.below (s : TrSt w B L v W) (hb : Below W.heap.size W V) : TrSt w B L v V := ⟨bel2 s.bel hb, s.box.below hb, own_bel s.r hb, fun q hq => own_bel (s.own q hq) hb⟩
theorem TrSt.app (s : TrSt w B L v W) (q : S75 × Option Addr × Nat) (hq : W.ownsRow w.heap.size 3 1 (.slice q.2.1 q.1.f1.length q.2.2) q.1.f1.length (nums .i64 q.1.f1)) (ho : V.ownsRow w.heap.size 66 2 v' (L.length + 1) (trCells L ++ [.int .i64 q.1.f0, .slice q.2.1 q.1.f1.length q.2.2])) (hg : W.grownBy V v.ownBlock) : TrSt w B (L ++ [q]) v' V := by
 refine ⟨s.bel.grown hg s.bel.size (own_base s.r), s.box.grown hg (blk_row s.box s.r (by decide)), ?_, fun p hp => ?_⟩
 ·rw [trCells_snoc, List.length_append]; exact ho
 ·rcases List.mem_append.1 hp with h | h
  ·exact own_other (s.own p h) hg (row_row (s.own p h) s.r (by decide))
  ·rw [List.mem_singleton.1 h]
   exact own_other hq hg (row_row hq s.r (by decide))
theorem right_full (hV : Valid x) (s : Sc) : (rbits (okAt x s []) x.f9.length == 2 ^ x.f9.length - 1) = rightB x s [] := rbits_full _ _ hV.rdN
/-- What Truths leaves. -/
def TrPost (x : S38) (w : World) (e : Ending) (w' : World) : Prop := ∃ A c, e = .returned (.slice A (truthsX x).length c) ∧ Below w.heap.size w w' ∧ Kd.C k75 w' A (truthsX x).length (truthsX x)
theorem rTruths_calls (x : S38) (cs : List Value) (w : World) (hx : k38.K w x cs) (hV : Valid x) : Calls Try.prog 42 #[.agg cs.toArray] w (TrPost x w) := by
 have HX := Aside0.mk hx
 have HC := fun V (hb : Below w.heap.size w V) => And.intro (rMany_calls x cs V (k38.K_below hb hx) hV.inside7 hV.inside8) (And.intro (fun n hn => rNth_calls x cs n V (k38.K_below hb hx) hV.inside7 hV.inside8 hn (by have := hV.lossN; have := hV.last1; omega)) (rFull_calls x cs V (k38.K_below hb hx) hV.rdN))
 have HRT := fun V (hb : Below w.heap.size w V) (t : S75) (ts : List Value) (ht : k75.K V t ts) (hi : InSc x (toSc t)) (hn : (t.f1.length : Int) = x.f0 + 1) => rRight_calls (k38.K_below hb hx) ht hV (hi.ok hV) hn
 obtain ⟨A5, c5, A6, c6, A9, c9, A10, c10, rfl, l5, g5, l6, g6, l9, g9, l10, g10⟩ := k38_open hx
 have HC := Aside0.mk HC
 have HRT := Aside0.mk HRT
 clear hx g5 g6 g9 g10 l5 l6 l9 l10
 have hu := Try.underlying28
 have hu2 := Try.underlying66
 have hmx := manyX_ok hV
 have HV := Aside0.mk hV
 clear hV
 obtain ⟨N, hN⟩ : ∃ N : Nat, manyX x = (N : Int) := ⟨(manyX x).toNat, by omega⟩
 have hN2 : N ≤ 2000 := by omega
 have HTX := Lib.hid (show truthsX x = trs x N by unfold truthsX; rw [hN]; rfl)
 rw [hN] at HC
 clear hmx hN
 have ZB := Aside0.mk (And.intro (below_alloc (Below.refl w.heap.size w) (.cells #[.int .i64 x.f0, .int .i64 x.f1, .int .i64 x.f2, .int .i64 x.f3, .int .i64 x.f4, .slice A5 x.f5.length c5, .slice A6 x.f6.length c6, .int .i64 x.f7.f0, .int .i64 x.f7.f1, .slice A9 x.f8.length c9, .slice A10 x.f9.length c10] 28)) (Blk.new w #[.int .i64 x.f0, .int .i64 x.f1, .int .i64 x.f2, .int .i64 x.f3, .int .i64 x.f4, .slice A5 x.f5.length c5, .slice A6 x.f6.length c6, .int .i64 x.f7.f0, .int .i64 x.f7.f1, .slice A9 x.f8.length c9, .slice A10 x.f9.length c10] 28 _ rfl))
 go_enter Try.func42, Try.ntmps42
 go_wp2
 generalize (w.alloc (.cells #[.int .i64 x.f0, .int .i64 x.f1, .int .i64 x.f2, .int .i64 x.f3, .int .i64 x.f4, .slice A5 x.f5.length c5, .slice A6 x.f6.length c6, .int .i64 x.f7.f0, .int .i64 x.f7.f1, .slice A9 x.f8.length c9, .slice A10 x.f9.length c10] 28)) = W at *
 go_loopw [3, 4] (fun s3 s4 wr => ∃ k : Nat, k ≤ N ∧ s4 = .int .i64 k ∧ Aside0 (∃ L, L.map (·.1) = trs x k ∧ TrSt w #[.int .i64 x.f0, .int .i64 x.f1, .int .i64 x.f2, .int .i64 x.f3, .int .i64 x.f4, .slice A5 x.f5.length c5, .slice A6 x.f6.length c6, .int .i64 x.f7.f0, .int .i64 x.f7.f1, .slice A9 x.f8.length c9, .slice A10 x.f9.length c10] L s3 wr)) (fun _ s4 _ => N - (intOf s4).toNat)
 case atStart => exact ⟨0, Nat.zero_le _, rfl, ⟨[], rfl, ZB.out.1, ZB.out.2, own_nil _ _ _ _, fun q hq => by cases hq⟩⟩
 case round =>
  obtain ⟨k, hk, rfl, HW⟩ := hrel
  obtain ⟨L, hL, hst⟩ := HW.out
  have HL := Lib.hid hL
  have HT := Aside0.mk hst
  clear HW hst hL
  have k0 := HT.out.box.cell 0 _ rfl
  have k1 := HT.out.box.cell 1 _ rfl
  have k2 := HT.out.box.cell 2 _ rfl
  have k3 := HT.out.box.cell 3 _ rfl
  have k4 := HT.out.box.cell 4 _ rfl
  have k5 := HT.out.box.cell 5 _ rfl
  have k6 := HT.out.box.cell 6 _ rfl
  have k7 := HT.out.box.cell 7 _ rfl
  have k8 := HT.out.box.cell 8 _ rfl
  have k9 := HT.out.box.cell 9 _ rfl
  have k10 := HT.out.box.cell 10 _ rfl
  go_wp2_with fail
  refine ((HC.out _ HT.out.bel).1).mono ?_
  rintro e w6 ⟨rfl, hb⟩
  have HT2 := Aside0.mk (HT.out.below hb)
  clear hb HT k0 k1 k2 k3 k4 k5 k6 k7 k8 k9 k10
  have k0 := HT2.out.box.cell 0 _ rfl
  have k1 := HT2.out.box.cell 1 _ rfl
  have k2 := HT2.out.box.cell 2 _ rfl
  have k3 := HT2.out.box.cell 3 _ rfl
  have k4 := HT2.out.box.cell 4 _ rfl
  have k5 := HT2.out.box.cell 5 _ rfl
  have k6 := HT2.out.box.cell 6 _ rfl
  have k7 := HT2.out.box.cell 7 _ rfl
  have k8 := HT2.out.box.cell 8 _ rfl
  have k9 := HT2.out.box.cell 9 _ rfl
  have k10 := HT2.out.box.cell 10 _ rfl
  by_cases hlt : k < N
  ·have hltz : (k : Int) < (N : Int) := by omega
   go_wp2_with fail
   refine ((HC.out _ HT2.out.bel).2.1 k (by omega)).mono ?_
   rintro e w7 ⟨T1, d1, rfl, hb7, ho7⟩
   have hin := nthX_in HV.out k
   have hn := nthX_len (x := x) k
   have hln := HV.out.lossN
   have hsn := trs_snoc (x := x) k
   have hrf := right_full HV.out (toSc (nthX x k))
   generalize nthX x k = t at *
   have HT3 := Aside0.mk (And.intro (HT2.out.below hb7) (own_weaken ho7 HT2.out.bel.size))
   have HIN := Aside0.mk (And.intro hin hn)
   have hnz : (t.f1.length : Int) = x.f0 + 1 := by omega
   clear hb7 HT2 hin hn hln ho7 k0 k1 k2 k3 k4 k5 k6 k7 k8 k9 k10
   have hlen : L.length ≤ k := by have := trs_len (x := x) k; rw [← HL.out] at this; simpa using this
   have HSN := Lib.hid hsn
   clear hsn
   have hbel9 : Below w7.heap.size w7 (w7.alloc (.cells #[.int .i64 t.f0, .slice T1 t.f1.length d1] 66)) := below_alloc (Below.refl _ _) _
   have H9 := Aside0.mk (And.intro hbel9 (And.intro (Blk.new w7 #[.int .i64 t.f0, .slice T1 t.f1.length d1] 66 _ rfl) (And.intro (HT3.out.1.below hbel9) (own_bel HT3.out.2 hbel9))))
   clear hbel9
   go_wp2
   generalize (w7.alloc (.cells #[.int .i64 t.f0, .slice T1 t.f1.length d1] 66)) = W9 at *
   have kt0 := H9.out.2.1.cell 0 _ rfl
   have kt1 := H9.out.2.1.cell 1 _ rfl
   have k0 := H9.out.2.2.1.box.cell 0 _ rfl
   have k1 := H9.out.2.2.1.box.cell 1 _ rfl
   have k2 := H9.out.2.2.1.box.cell 2 _ rfl
   have k3 := H9.out.2.2.1.box.cell 3 _ rfl
   have k4 := H9.out.2.2.1.box.cell 4 _ rfl
   have k5 := H9.out.2.2.1.box.cell 5 _ rfl
   have k6 := H9.out.2.2.1.box.cell 6 _ rfl
   have k7 := H9.out.2.2.1.box.cell 7 _ rfl
   have k8 := H9.out.2.2.1.box.cell 8 _ rfl
   have k9 := H9.out.2.2.1.box.cell 9 _ rfl
   have k10 := H9.out.2.2.1.box.cell 10 _ rfl
   obtain ⟨A5', c5', e5', _, gt9⟩ := own_C (Kd.int .i64) (.int .i64) rfl (fun _ _ => rfl) (xs := t.f1) rfl (by simp [nums]) H9.out.2.2.2
   simp only [Value.slice.injEq, true_and] at e5'
   have hkt : k75.K W9 t [.int .i64 t.f0, .slice T1 t.f1.length d1] := by
    rw [e5'.1, e5'.2]
    exact k75_mk W9 t (by have := own_cap H9.out.2.2.2; rw [e5'.2] at this; exact this) gt9
   have HRI := Aside0.mk (fun V (hb : Below W9.heap.size W9 V) => HRT.out V (bel2 H9.out.2.2.1.bel hb) t _ (k75.K_below hb hkt) HIN.out.1 hnz)
   have HFU := Aside0.mk (fun V (hb : Below W9.heap.size W9 V) => (HC.out V (bel2 H9.out.2.2.1.bel hb)).2.2)
   clear gt9 hkt e5' hnz
   generalize rbits (okAt x (toSc t) []) x.f9.length = rb at *
   generalize (2 : Int) ^ x.f9.length - 1 = fb at *
   refine start_ (n := 6) (S := fun w' => w'.cell? ⟨w.heap.size, 0, none⟩ = some (.int .i64 x.f0) ∧ w'.cell? ⟨w.heap.size, 1, none⟩ = some (.int .i64 x.f1) ∧ w'.cell? ⟨w.heap.size, 2, none⟩ = some (.int .i64 x.f2) ∧ w'.cell? ⟨w.heap.size, 3, none⟩ = some (.int .i64 x.f3) ∧ w'.cell? ⟨w.heap.size, 4, none⟩ = some (.int .i64 x.f4) ∧ w'.cell? ⟨w.heap.size, 5, none⟩ = some (.slice A5 x.f5.length c5) ∧ w'.cell? ⟨w.heap.size, 6, none⟩ = some (.slice A6 x.f6.length c6) ∧ w'.cell? ⟨w.heap.size, 7, none⟩ = some (.int .i64 x.f7.f0) ∧ w'.cell? ⟨w.heap.size, 8, none⟩ = some (.int .i64 x.f7.f1) ∧ w'.cell? ⟨w.heap.size, 9, none⟩ = some (.slice A9 x.f8.length c9) ∧ w'.cell? ⟨w.heap.size, 10, none⟩ = some (.slice A10 x.f9.length c10) ∧ w'.cell? ⟨w7.heap.size, 0, none⟩ = some (.int .i64 t.f0) ∧ w'.cell? ⟨w7.heap.size, 1, none⟩ = some (.slice T1 t.f1.length d1)) (ds := []) #[false, false, false, false, false, false] (by kernel_rfl) rfl rfl ⟨k0, k1, k2, k3, k4, k5, k6, k7, k8, k9, k10, kt0, kt1⟩ (fun hHeld => ?_)
   refine take_ (i := 0) (N := some 15) (v := ?_) (a' := ?_) (bs 6 1) rfl rfl (by kernel_rfl) (fun _ _ _ h => h) (Or.inl ⟨by rfl, ?_⟩) hHeld ?_ ?_
   rotate_left
   ·rintro w' ⟨s0, s1, s2, s3, s4, s5, s6, s7, s8, s9, s10, s11, s12⟩
    go_simp
    with_reducible rfl
   rotate_left
   ·simp only [Act.put, List.setIfInBounds_toArray, List.set_cons_zero, List.set_cons_succ, i64_w, i32_w]
    rfl
   refine take_ (i := 1) (N := some 16) (v := ?_) (a' := ?_) (bs 6 3) rfl rfl (by kernel_rfl) (fun _ _ _ h => h) (Or.inl ⟨by rfl, ?_⟩) hHeld ?_ ?_
   rotate_left
   ·rintro w' ⟨s0, s1, s2, s3, s4, s5, s6, s7, s8, s9, s10, s11, s12⟩
    go_simp
    with_reducible rfl
   rotate_left
   ·simp only [Act.put, List.setIfInBounds_toArray, List.set_cons_zero, List.set_cons_succ, i64_w, i32_w]
    rfl
   refine take_ (i := 3) (N := some 18) (v := ?_) (a' := ?_) (bs 6 11) rfl rfl (by kernel_rfl) (fun _ _ _ h => h) (Or.inl ⟨by rfl, ?_⟩) hHeld ?_ ?_
   rotate_left
   ·rintro w' ⟨s0, s1, s2, s3, s4, s5, s6, s7, s8, s9, s10, s11, s12⟩
    go_simp
    with_reducible rfl
   rotate_left
   ·simp only [Act.put, List.setIfInBounds_toArray, List.set_cons_zero, List.set_cons_succ, i64_w, i32_w]
    rfl
   refine one_ (i := 2) (N := some 17) (bs 6 15) rfl rfl (by kernel_rfl) (by decide) (fun K hK => ?_)
   refine goes_ Try.func92 (by kernel_rfl) rfl #[.agg #[.int .i64 x.f0, .int .i64 x.f1, .int .i64 x.f2, .int .i64 x.f3, .int .i64 x.f4, .slice A5 x.f5.length c5, .slice A6 x.f6.length c6, .int .i64 x.f7.f0, .int .i64 x.f7.f1, .slice A9 x.f8.length c9, .slice A10 x.f9.length c10], .agg #[.int .i64 t.f0, .slice T1 t.f1.length d1]] (by rfl) rfl rfl (by simp only [List.map_toArray, List.map_cons, List.map_nil]; rfl) ?_
   with_reducible refine (HRI.out _ (below_drew (Below.refl W9.heap.size W9))).mono ?_
   rintro e w3 ⟨rfl, hb3⟩
   refine ⟨_, rfl, ?_⟩
   refine hK.out _ _ ⟨pw_cell_below hb3 (hHeld.1), pw_cell_below hb3 (hHeld.2.1), pw_cell_below hb3 (hHeld.2.2.1), pw_cell_below hb3 (hHeld.2.2.2.1), pw_cell_below hb3 (hHeld.2.2.2.2.1), pw_cell_below hb3 (hHeld.2.2.2.2.2.1), pw_cell_below hb3 (hHeld.2.2.2.2.2.2.1), pw_cell_below hb3 (hHeld.2.2.2.2.2.2.2.1), pw_cell_below hb3 (hHeld.2.2.2.2.2.2.2.2.1), pw_cell_below hb3 (hHeld.2.2.2.2.2.2.2.2.2.1), pw_cell_below hb3 (hHeld.2.2.2.2.2.2.2.2.2.2.1), pw_cell_below hb3 (hHeld.2.2.2.2.2.2.2.2.2.2.2.1), pw_cell_below hb3 (hHeld.2.2.2.2.2.2.2.2.2.2.2.2)⟩ (fun hHeld => ?_)
   clear hK K
   refine norm_ (a' := ?_) ?_ ?_
   rotate_left
   ·show Act.put _ (some 17) _ = _
    simp only [Act.put, List.setIfInBounds_toArray, List.set_cons_zero, List.set_cons_succ, i64_w, i32_w]
    rfl
   refine one_ (i := 4) (N := some 19) (bs 6 31) rfl rfl (by kernel_rfl) (by decide) (fun K hK => ?_)
   refine goes_ Try.func54 (by kernel_rfl) rfl #[.agg #[.int .i64 x.f0, .int .i64 x.f1, .int .i64 x.f2, .int .i64 x.f3, .int .i64 x.f4, .slice A5 x.f5.length c5, .slice A6 x.f6.length c6, .int .i64 x.f7.f0, .int .i64 x.f7.f1, .slice A9 x.f8.length c9, .slice A10 x.f9.length c10]] (by rfl) rfl rfl (by simp only [List.map_toArray, List.map_cons, List.map_nil]; rfl) ?_
   with_reducible refine (HFU.out _ (bel2 (below_drew (Below.refl W9.heap.size W9)) hb3)).mono ?_
   rintro e w4 ⟨rfl, hb4⟩
   refine ⟨_, rfl, ?_⟩
   refine hK.out _ _ ⟨pw_cell_below hb4 (hHeld.1), pw_cell_below hb4 (hHeld.2.1), pw_cell_below hb4 (hHeld.2.2.1), pw_cell_below hb4 (hHeld.2.2.2.1), pw_cell_below hb4 (hHeld.2.2.2.2.1), pw_cell_below hb4 (hHeld.2.2.2.2.2.1), pw_cell_below hb4 (hHeld.2.2.2.2.2.2.1), pw_cell_below hb4 (hHeld.2.2.2.2.2.2.2.1), pw_cell_below hb4 (hHeld.2.2.2.2.2.2.2.2.1), pw_cell_below hb4 (hHeld.2.2.2.2.2.2.2.2.2.1), pw_cell_below hb4 (hHeld.2.2.2.2.2.2.2.2.2.2.1), pw_cell_below hb4 (hHeld.2.2.2.2.2.2.2.2.2.2.2.1), pw_cell_below hb4 (hHeld.2.2.2.2.2.2.2.2.2.2.2.2)⟩ (fun hHeld => ?_)
   clear hK K
   refine norm_ (a' := ?_) ?_ ?_
   rotate_left
   ·show Act.put _ (some 19) _ = _
    simp only [Act.put, List.setIfInBounds_toArray, List.set_cons_zero, List.set_cons_succ, i64_w, i32_w]
    rfl
   refine pure_ (i := 5) (N := some 20) (v := ?_) (a' := ?_) (bs 6 63) rfl rfl (by kernel_rfl) (fun _ _ _ h => h) (Or.inl ⟨by rfl, ?_⟩) ?_ ?_
   rotate_left
   ·intro w'
    go_simp
    with_reducible rfl
   rotate_left
   ·simp only [Act.put, List.setIfInBounds_toArray, List.set_cons_zero, List.set_cons_succ, i64_w, i32_w]
    rfl
   refine done_ (by kernel_rfl) ?_
   have hB : Below W9.heap.size W9 w4 := bel2 (bel2 (below_drew (Below.refl W9.heap.size W9)) hb3) hb4
   have H10 := Aside0.mk (And.intro (hB : Below W9.heap.size W9 _) (And.intro (H9.out.2.1.below hB) (And.intro (H9.out.2.2.1.below hB) (own_bel H9.out.2.2.2 hB))))
   clear hHeld hB kt0 kt1 k0 k1 k2 k3 k4 k5 k6 k7 k8 k9 k10
   have kt0 := H10.out.2.1.cell 0 _ rfl
   have kt1 := H10.out.2.1.cell 1 _ rfl
   cases hrt : rightB x (toSc t) [] with
   | true =>
    rw [hrt] at hrf HSN
    have e1 : trs x (k + 1) = trs x k ++ [t] := by rw [HSN.out]; rfl
    have E1 := Lib.hid e1
    clear e1
    go_wp2_with (at_builtin; refine append_list rfl (.tmp 21) (.tmp 23) 40 66 (.agg #[.int .i64 0, .slice none 0 0]) 2 32 rfl Try.underlying40 info66 rfl (by decide) (by decide) w.heap.size u3 L.length (trCells L) [.int .i64 t.f0, .slice T1 t.f1.length d1] w4.heap.size 1 rfl rfl (H10.out.2.2.1.r.alloc _) rfl (cells2T (Blk.new _ _ _ _ rfl)) (oneT _ _ _ _) (by omega) (by have h1 := H10.out.2.2.1.bel.size; simp; omega) ?_; intro v4 w4 ho4 hg4 hat4; have H4 := Aside0.mk ((H10.out.2.2.1.below (below_alloc (Below.refl _ _) _)).app (t, T1, d1) (own_bel H10.out.2.2.2 (below_alloc (Below.refl _ _) _)) ho4 hg4); clear ho4 hg4 hat4)
    go_roundw
    case rel => exact ⟨k + 1, hlt, by go_num, ⟨L ++ [(t, T1, d1)], by rw [E1.out, List.map_append, HL.out]; rfl, H4.out⟩⟩
    case measure => simp [intOf]; omega
   | false =>
    rw [hrt] at hrf HSN
    have e1 : trs x (k + 1) = trs x k := by rw [HSN.out]; rfl
    have E1 := Lib.hid e1
    clear e1
    go_wp2
    go_roundw
    case rel => exact ⟨k + 1, hlt, by go_num, ⟨L, by rw [E1.out, HL.out], H10.out.2.2.1⟩⟩
    case measure => simp [intOf]; omega
  ·obtain rfl : k = N := by omega
   have hltz : ¬ (k : Int) < (k : Int) := by omega
   obtain ⟨A, c, rfl, hC⟩ := tr_own_C HT2.out.r HT2.out.own rfl
   have HE := Aside0.mk (And.intro HT2.out.bel hC)
   clear hC HT2
   go_wp2
   refine bodyPost_ret (results_tmp rfl _ _ _) rfl ?_
   refine ⟨A, c, ?_, HE.out.1, ?_⟩
   ·rw [HTX.out, ← HL.out, List.length_map]; rfl
   ·rw [HTX.out, ← HL.out]; exact HE.out.2
end Go.Proofs.Ytdgkhoflajdidaa
/- sure: the error of coppers that have no truth, and all truths. -/
namespace Go.Proofs.Ytdgkhoflajdidaa
open Go.RowKit Go.Proofs.YtdgkhoflajdidaaW.PrintWords Go.Proofs.YtdgkhoflajdidaaW.PrintMore Go.Proofs.YtdgkhoflajdidaaW.PrintLast Go.Proofs.Ytdgkhoflajdidaa.Print
set_option linter.unusedVariables false
set_option linter.unusedSimpArgs false
set_option maxRecDepth 100000
set_option maxHeartbeats 4000000
theorem askE_t (x : S38) : askE x true = if faultC x = 0 then (if truthL x = [] then 11 else 0) else faultC x := by
 unfold askE
 by_cases h : faultC x = 0 <;> simp [h]
end Go.Proofs.Ytdgkhoflajdidaa
/- Bounds of the reference: of the hot buckets of an hour, and of the heat that is left. -/
namespace Go.Proofs.Ytdgkhoflajdidaa
open Go.RowKit Go.Proofs.YtdgkhoflajdidaaW.PrintWords Go.Proofs.YtdgkhoflajdidaaW.PrintMore Go.Proofs.YtdgkhoflajdidaaW.PrintLast Go.Proofs.Ytdgkhoflajdidaa.Print
set_option linter.unusedVariables false
set_option linter.unusedSimpArgs false
set_option maxRecDepth 100000
set_option maxHeartbeats 4000000
theorem row_at_tr {w : World} {A : Option Addr} {xs : List S75} (h : Kd.C k75 w A xs.length xs) (kk : Nat) (hk : kk < xs.length) : ∃ ad A1 c1, A = some ad ∧ w.cell? (ad.add (kk * 2)) = some (.int .i64 xs[kk].f0) ∧ w.cell? ⟨(ad.add (kk * 2)).block, (ad.add (kk * 2)).off + 1, none⟩ = some (.slice A1 xs[kk].f1.length c1) ∧ k75.K w xs[kk] [.int .i64 xs[kk].f0, .slice A1 xs[kk].f1.length c1] := by
 obtain ⟨ad, A1, c1, e, h1, h2, h3, h4⟩ := at_T75 h (kk : Int) (by omega) (by omega)
 have hx : rd_T75 xs (kk : Int) = xs[kk] := by simp [rd_T75, hk]
 rw [hx, Int.toNat_natCast] at h1 h2
 rw [hx] at h3 h4
 exact ⟨ad, A1, c1, e, h1, h2, k75_mk w _ h3 h4⟩
/-- The state of Bounds' loop. -/
structure BdSt (w : World) (B : Array Value) (p8 p9 : Nat) (a b : S35) (W : World) : Prop where
 bel : Below w.heap.size w W
 box : Blk W w.heap.size B 28
 r6 : Blk W (w.heap.size + 1) #[.int .i64 0, .int .i64 0] 24
 r7 : Blk W (w.heap.size + 1 + 1) #[.int .i64 0, .int .i64 0] 24
 b8 : Blk W p8 #[.int .i64 a.f0, .int .i64 a.f1] 24
 b9 : Blk W p9 #[.int .i64 b.f0, .int .i64 b.f1] 24
 h8 : w.heap.size + 2 < p8
 h9 : p8 < p9
variable {x : S38} {w W V : World} {B : Array Value} {p8 p9 : Nat} {a b a' b' : S35}
theorem BdSt.below (s : BdSt w B p8 p9 a b W) (hb : Below W.heap.size W V) : BdSt w B p8 p9 a b V := ⟨bel2 s.bel hb, s.box.below hb, s.r6.below hb, s.r7.below hb, s.b8.below hb, s.b9.below hb, s.h8, s.h9⟩
theorem BdSt.put (s : BdSt w B p8 p9 a b W) (a' b' : S35) : BdSt w B p8 p9 a' b' ((((W.setCell ⟨p8, 0, none⟩ (.int .i64 a'.f0)).setCell ⟨p8, 1, none⟩ (.int .i64 a'.f1)).setCell ⟨p9, 0, none⟩ (.int .i64 b'.f0)).setCell ⟨p9, 1, none⟩ (.int .i64 b'.f1)) := by
 have h8 := s.h8
 have h9 := s.h9
 have ne : ∀ q, q < p8 → ∀ cs t, Blk W q cs t → Blk ((((W.setCell ⟨p8, 0, none⟩ (.int .i64 a'.f0)).setCell ⟨p8, 1, none⟩ (.int .i64 a'.f1)).setCell ⟨p9, 0, none⟩ (.int .i64 b'.f0)).setCell ⟨p9, 1, none⟩ (.int .i64 b'.f1)) q cs t := fun q hq cs t h =>
  (((h.set_other (p := ⟨p8, 0, none⟩) (by show q ≠ p8; omega) _).set_other (p := ⟨p8, 1, none⟩) (by show q ≠ p8; omega) _).set_other (p := ⟨p9, 0, none⟩) (by show q ≠ p9; omega) _).set_other (p := ⟨p9, 1, none⟩) (by show q ≠ p9; omega) _
 refine ⟨(((s.bel.setCell (p := ⟨p8, 0, none⟩) (by show w.heap.size ≤ p8; omega) _).setCell (p := ⟨p8, 1, none⟩) (by show w.heap.size ≤ p8; omega) _).setCell (p := ⟨p9, 0, none⟩) (by show w.heap.size ≤ p9; omega) _).setCell (p := ⟨p9, 1, none⟩) (by show w.heap.size ≤ p9; omega) _, ne _ (by omega) _ _ s.box, ne _ (by omega) _ _ s.r6, ne _ (by omega) _ _ s.r7, ?_, ?_, h8, h9⟩
 ·exact (((s.b8.set 0 _).set 1 _).set_other (p := ⟨p9, 0, none⟩) (by show p8 ≠ p9; omega) _).set_other (p := ⟨p9, 1, none⟩) (by show p8 ≠ p9; omega) _
 ·exact (((s.b9.set_other (p := ⟨p8, 0, none⟩) (by show p9 ≠ p8; omega) _).set_other (p := ⟨p8, 1, none⟩) (by show p9 ≠ p8; omega) _).set 0 _).set 1 _
end Go.Proofs.Ytdgkhoflajdidaa
/- The bounds of copper are those of the reference. -/
namespace Go.Proofs.Ytdgkhoflajdidaa
open Go.RowKit Go.Proofs.YtdgkhoflajdidaaW.PrintWords Go.Proofs.YtdgkhoflajdidaaW.PrintMore Go.Proofs.YtdgkhoflajdidaaW.PrintLast Go.Proofs.Ytdgkhoflajdidaa.Print
set_option linter.unusedVariables false
set_option linter.unusedSimpArgs false
theorem ask_spec {x : S38} (hne : truthL x ≠ []) (val : S114 → Int) (wa : List Int) : (∀ s ∈ truthL x, (askB x wa val).f0 ≤ val (pastOf x s x.f5 wa) ∧ val (pastOf x s x.f5 wa) ≤ (askB x wa val).f1) ∧ (∃ s ∈ truthL x, val (pastOf x s x.f5 wa) = (askB x wa val).f0) ∧ ∃ s ∈ truthL x, val (pastOf x s x.f5 wa) = (askB x wa val).f1 := by
 have hl : 0 < (truthL x).length := List.length_pos_iff.2 hne
 obtain ⟨h1, ⟨j1, hj1, e1⟩, ⟨j2, hj2, e2⟩⟩ := bnd_spec (fun k => val (pastOf x ((truthL x).getD k zSc) x.f5 wa)) (truthL x).length hl
 have hg : ∀ k (hk : k < (truthL x).length), (truthL x).getD k zSc = (truthL x)[k] := fun k hk => by simp [hk]
 change val (pastOf x ((truthL x).getD j1 zSc) x.f5 wa) = _ at e1
 change val (pastOf x ((truthL x).getD j2 zSc) x.f5 wa) = _ at e2
 rw [hg j1 hj1] at e1
 rw [hg j2 hj2] at e2
 unfold askB
 refine ⟨fun s hs => ?_, ⟨_, List.getElem_mem hj1, e1⟩, ⟨_, List.getElem_mem hj2, e2⟩⟩
 obtain ⟨k, hk, rfl⟩ := List.getElem_of_mem hs
 have := h1 k hk
 change _ ≤ val (pastOf x ((truthL x).getD k zSc) x.f5 wa) ∧ val (pastOf x ((truthL x).getD k zSc) x.f5 wa) ≤ _ at this
 rw [hg k hk] at this
 exact this
end Go.Proofs.Ytdgkhoflajdidaa
/- ready, some. -/
namespace Go.Proofs.Ytdgkhoflajdidaa
open Go.RowKit Go.Proofs.YtdgkhoflajdidaaW.PrintWords Go.Proofs.YtdgkhoflajdidaaW.PrintMore Go.Proofs.YtdgkhoflajdidaaW.PrintLast Go.Proofs.Ytdgkhoflajdidaa.Print
set_option linter.unusedVariables false
set_option linter.unusedSimpArgs false
set_option maxRecDepth 100000
set_option maxHeartbeats 4000000
def readyB (x : S38) : Bool := thinB x && decide (faultC x = 0)
theorem readyB_iff (x : S38) : readyB x = true ↔ thinB x = true ∧ Valid x := by
 unfold readyB
 rw [Bool.and_eq_true, decide_eq_true_eq, valid_iff]
theorem ready_calls (x : S38) (cs : List Value) (w : World) (hx : k38.K w x cs) : Calls Try.prog 41 #[.agg cs.toArray] w fun e w' => e = .returned (.bool (readyB x)) ∧ Below w.heap.size w w' := by
 have HTH := Aside0.mk (fun W (hW : Below w.heap.size w W) => thin_calls x cs W (k38.K_below hW hx))
 have HFA := Aside0.mk (fun W (hW : Below w.heap.size w W) => lfault_calls x cs W (k38.K_below hW hx))
 have HS := Lib.hid (show readyB x = (thinB x && decide (faultC x = 0)) from rfl)
 obtain ⟨A5, c5, A6, c6, A9, c9, A10, c10, rfl, _⟩ := k38_open hx
 clear hx
 have hu := Try.underlying28
 have ZB := Aside0.mk (And.intro (below_alloc (Below.refl w.heap.size w) (.cells #[.int .i64 x.f0, .int .i64 x.f1, .int .i64 x.f2, .int .i64 x.f3, .int .i64 x.f4, .slice A5 x.f5.length c5, .slice A6 x.f6.length c6, .int .i64 x.f7.f0, .int .i64 x.f7.f1, .slice A9 x.f8.length c9, .slice A10 x.f9.length c10] 28)) (Blk.new w #[.int .i64 x.f0, .int .i64 x.f1, .int .i64 x.f2, .int .i64 x.f3, .int .i64 x.f4, .slice A5 x.f5.length c5, .slice A6 x.f6.length c6, .int .i64 x.f7.f0, .int .i64 x.f7.f1, .slice A9 x.f8.length c9, .slice A10 x.f9.length c10] 28 _ rfl))
 cases hq : thinB x with
 | false =>
  rw [hq] at HTH HS
  go_enter Try.func41, Try.ntmps41
  go_wp2_with fail
  refine (HTH.out _ ZB.out.1).mono ?_
  rintro e w1 ⟨rfl, hb⟩
  have H1 := Aside0.mk (bel2 ZB.out.1 hb)
  clear hb
  go_wp2
  go_ret
  exact ⟨ret_bool (by rw [HS.out]; rfl), H1.out⟩
 | true =>
  rw [hq] at HTH HS
  go_enter Try.func41, Try.ntmps41
  go_wp2_with fail
  refine (HTH.out _ ZB.out.1).mono ?_
  rintro e w1 ⟨rfl, hb⟩
  have H1 := Aside0.mk (And.intro (bel2 ZB.out.1 hb) (ZB.out.2.below hb))
  clear hb
  have k0 := H1.out.2.cell 0 _ rfl
  have k1 := H1.out.2.cell 1 _ rfl
  have k2 := H1.out.2.cell 2 _ rfl
  have k3 := H1.out.2.cell 3 _ rfl
  have k4 := H1.out.2.cell 4 _ rfl
  have k5 := H1.out.2.cell 5 _ rfl
  have k6 := H1.out.2.cell 6 _ rfl
  have k7 := H1.out.2.cell 7 _ rfl
  have k8 := H1.out.2.cell 8 _ rfl
  have k9 := H1.out.2.cell 9 _ rfl
  have k10 := H1.out.2.cell 10 _ rfl
  go_wp2_with fail
  refine (HFA.out _ H1.out.1).mono ?_
  rintro e w2 ⟨rfl, hb⟩
  have H2 := Aside0.mk (bel2 H1.out.1 hb)
  clear hb k0 k1 k2 k3 k4 k5 k6 k7 k8 k9 k10
  by_cases hf : faultC x = 0
  ·have hf2 : (faultC x == 0) = true := by simpa using hf
   have HF := Lib.hid hf
   clear hf
   generalize faultC x = fc at *
   go_wp2
   go_ret
   exact ⟨ret_bool (by rw [HS.out, decide_eq_true HF.out]; rfl), H2.out⟩
  ·have hf2 : (faultC x == 0) = false := by simpa using hf
   have HF := Lib.hid hf
   clear hf
   generalize faultC x = fc at *
   go_wp2
   go_ret
   exact ⟨ret_bool (by rw [HS.out, decide_eq_false HF.out]; rfl), H2.out⟩
/-- The state of some's loop. -/
structure SmSt (w : World) (B Z : Array Value) (B2 : Value → Array Value) (l : List S119) (v : Value) (W : World) : Prop where
 bel : Below w.heap.size w W
 box : Blk W w.heap.size B 28
 res : Blk W (w.heap.size + 1) Z 28
 blk : Blk W (w.heap.size + 2) (B2 v) 28
 row : W.ownsRow w.heap.size 96 3 v l.length (rdCells l)
section
variable {w W V : World} {B Z : Array Value} {B2 : Value → Array Value} {l : List S119} {v v' : Value}
theorem SmSt.below (h : SmSt w B Z B2 l v W) (hb : Below W.heap.size W V) : SmSt w B Z B2 l v V :=
 ⟨bel2 h.bel hb, h.box.below hb, h.res.below hb, h.blk.below hb, own_bel h.row hb⟩
theorem SmSt.app (h : SmSt w B Z B2 l v W) (r : S119) (hB2 : ∀ v v', (B2 v).setIfInBounds 10 v' = B2 v') (ho : V.ownsRow w.heap.size 96 3 v' (l.length + 1) (rdCells l ++ [.int .i64 r.f0, .int .i64 r.f1.f0, .int .i64 r.f1.f1])) (hg : W.grownBy V v.ownBlock) : SmSt w B Z B2 (l ++ [r]) v' (V.setCell ⟨w.heap.size + 2, 10, none⟩ v') := by
 have hblk := h.blk.grown hg (blk_row h.blk h.row (by decide))
 have hbox := h.box.grown hg (blk_row h.box h.row (by decide))
 have hres := h.res.grown hg (blk_row h.res h.row (by decide))
 refine ⟨(h.bel.grown hg h.bel.size (own_base h.row)).setCell (p := ⟨w.heap.size + 2, 10, none⟩) (by show w.heap.size ≤ w.heap.size + 2; omega) _, hbox.set_other (p := ⟨w.heap.size + 2, 10, none⟩) (by show w.heap.size ≠ w.heap.size + 2; omega) _, hres.set_other (p := ⟨w.heap.size + 2, 10, none⟩) (by show w.heap.size + 1 ≠ w.heap.size + 2; omega) _, by rw [← hB2 v v']; exact hblk.set 10 v', ?_⟩
 rw [List.length_append, rdCells_snoc]
 exact own_setCell ho (p := ⟨w.heap.size + 2, 10, none⟩) (blk_row hblk ho (by decide)) _
end
end Go.Proofs.Ytdgkhoflajdidaa
/- What a law keeps. -/
namespace Go.Proofs.Ytdgkhoflajdidaa
open Go.RowKit Go.Proofs.YtdgkhoflajdidaaW.PrintWords Go.Proofs.YtdgkhoflajdidaaW.PrintMore Go.Proofs.YtdgkhoflajdidaaW.PrintLast Go.Proofs.Ytdgkhoflajdidaa.Print
/-- What a law keeps: the box of the coppers, and what was returned. -/
structure LwSt (w : World) (B : Array Value) (P : World → Prop) (W : World) : Prop where
 bel : Below w.heap.size w W
 box : Blk W w.heap.size B 28
 rows : P W
theorem LwSt.step {w : World} {B : Array Value} {P : World → Prop} {W V : World} (h : LwSt w B P W) (hP : ∀ W V, P W → Below W.heap.size W V → P V) (hb : Below W.heap.size W V) : LwSt w B P V :=
 ⟨bel2 h.bel hb, h.box.below hb, hP _ _ h.rows hb⟩
end Go.Proofs.Ytdgkhoflajdidaa
