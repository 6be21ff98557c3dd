/- Lemmas for the law's proof: Mf, Oa, Pb, Pc, Pd, Sa, Pe, Sb, Xa, Va, Ta, Q0, We, Xb, Wf, Xc, Wa. -/
import Derived.Test.YtdgkhoflajdidaaCore16
import Derived.BigQuiet
import Derived.Test.YtdgkhoflajdidaaCore14
import Derived.Test.YtdgkhoflajdidaaCore10
import Derived.Test.YtdgkhoflajdidaaCore12
import Derived.Test.YtdgkhoflajdidaaCore07
import Derived.Test.YtdgkhoflajdidaaCore11
import Derived.Test.YtdgkhoflajdidaaCore15
/- Heat, Left, Hot, Kept: what is in an hour, as the reference reckons it. -/
namespace Go.Proofs.Ytdgkhoflajdidaa
open Go.RowKit Go.Proofs.YtdgkhoflajdidaaW.PrintWords Go.Proofs.YtdgkhoflajdidaaW.PrintMore Go.Proofs.YtdgkhoflajdidaaW.PrintLast Go.Proofs.Ytdgkhoflajdidaa.Print
set_option linter.unusedVariables false
set_option linter.unusedSimpArgs false
set_option maxRecDepth 100000
set_option maxHeartbeats 4000000
/-- What Heat, Left, Hot and Kept are handed. -/
structure HArgs (x : S38) (cs : List Value) (t : S75) (ts : List Value) (C D : Option Addr) (c d : Nat) (co wa : List Int) (w : World) : Prop where
 kx : k38.K w x cs
 kt : k75.K w t ts
 kc : Kd.C (Kd.int .i64) w C co.length co
 kw : Kd.C (Kd.int .i64) w D wa.length wa
 ok : PlayOk x (toSc t) co wa
 tn : (t.f1.length : Int) = x.f0 + 1
variable {x : S38} {cs : List Value} {t : S75} {ts : List Value} {C D : Option Addr} {c d : Nat} {co wa : List Int} {w V : World}
theorem HArgs.below (h : HArgs x cs t ts C D c d co wa w) (hb : Below w.heap.size w V) : HArgs x cs t ts C D c d co wa V :=
 ⟨k38.K_below hb h.kx, k75.K_below hb h.kt, Kd.C_below h.kc hb, Kd.C_below h.kw hb, h.ok, h.tn⟩
end Go.Proofs.Ytdgkhoflajdidaa
/- Nth: the truth with a number. -/
namespace Go.Proofs.Ytdgkhoflajdidaa
open Go.RowKit Go.Proofs.YtdgkhoflajdidaaW.PrintWords Go.Proofs.YtdgkhoflajdidaaW.PrintMore Go.Proofs.YtdgkhoflajdidaaW.PrintLast Go.Proofs.Ytdgkhoflajdidaa.Print
set_option linter.unusedVariables false
set_option linter.unusedSimpArgs false
set_option maxRecDepth 100000
set_option maxHeartbeats 4000000
theorem tmod_nat (n s : Nat) : ((n : Int).tmod (s : Int)) = ((n % s : Nat) : Int) := by
 rw [Int.tmod_eq_emod_of_nonneg (by omega)]
 exact (Int.natCast_emod n s).symm
theorem tdiv_nat (n s : Nat) : ((n : Int).tdiv (s : Int)) = ((n / s : Nat) : Int) := by
 rw [Int.tdiv_eq_ediv_of_nonneg (by omega)]
 exact (Int.natCast_ediv n s).symm
/-- The state of Nth's loop. -/
structure NtSt (x : S38) (w : World) (B : Array Value) (p : Nat) (h : Int) (l : List Int) (v : Value) (W : World) : Prop where
 bel : Below w.heap.size w W
 box : Blk W w.heap.size B 28
 res : Blk W (w.heap.size + 1) #[.int .i64 0, .slice none 0 0] 66
 blk : Blk W p #[.int .i64 h, v] 66
 r : W.ownsRow w.heap.size 3 1 v l.length (nums .i64 l)
 hp : w.heap.size + 1 < p
variable {x : S38} {w W V : World} {B : Array Value} {p : Nat} {h : Int} {l : List Int} {v v' : Value}
theorem NtSt.below (s : NtSt x w B p h l v W) (hb : Below W.heap.size W V) : NtSt x w B p h l v V := ⟨bel2 s.bel hb, s.box.below hb, s.res.below hb, s.blk.below hb, own_bel s.r hb, s.hp⟩
end Go.Proofs.Ytdgkhoflajdidaa
/- Truths: all truths of coppers. -/
namespace Go.Proofs.Ytdgkhoflajdidaa
open Go.RowKit Go.Proofs.YtdgkhoflajdidaaW.PrintWords Go.Proofs.YtdgkhoflajdidaaW.PrintMore Go.Proofs.YtdgkhoflajdidaaW.PrintLast Go.Proofs.Ytdgkhoflajdidaa.Print
set_option linter.unusedVariables false
set_option linter.unusedSimpArgs false
set_option maxRecDepth 100000
set_option maxHeartbeats 4000000
/-- Truths' cells in a row; each has a row of its own for Loss. -/
def trCells (L : List (S75 × Option Addr × Nat)) : List Value := L.flatMap fun q => [.int .i64 q.1.f0, .slice q.2.1 q.1.f1.length q.2.2]
def TrOwn (L : List (S75 × Option Addr × Nat)) (base : Nat) (W : World) : Prop := ∀ q ∈ L, W.ownsRow base 3 1 (.slice q.2.1 q.1.f1.length q.2.2) q.1.f1.length (nums .i64 q.1.f1)
/-- The state of Truths' loop. -/
structure TrSt (w : World) (B : Array Value) (L : List (S75 × Option Addr × Nat)) (v : Value) (W : World) : Prop where
 bel : Below w.heap.size w W
 box : Blk W w.heap.size B 28
 r : W.ownsRow w.heap.size 66 2 v L.length (trCells L)
 own : TrOwn L w.heap.size W
variable {x : S38} {w W V : World} {B : Array Value} {L : List (S75 × Option Addr × Nat)} {v v' : Value}
theorem TrSt.below (s : TrSt w B L v W) (hb : Below W.heap.size W V) : TrSt w B L v V := ⟨bel2 s.bel hb, s.box.below hb, own_bel s.r hb, fun q hq => own_bel (s.own q hq) hb⟩
end Go.Proofs.Ytdgkhoflajdidaa
/- sure: the error of coppers that have no truth, and all truths. -/
namespace Go.Proofs.Ytdgkhoflajdidaa
open Go.RowKit Go.Proofs.YtdgkhoflajdidaaW.PrintWords Go.Proofs.YtdgkhoflajdidaaW.PrintMore Go.Proofs.YtdgkhoflajdidaaW.PrintLast Go.Proofs.Ytdgkhoflajdidaa.Print
set_option linter.unusedVariables false
set_option linter.unusedSimpArgs false
set_option maxRecDepth 100000
set_option maxHeartbeats 4000000
theorem askE_t (x : S38) : askE x true = if faultC x = 0 then (if truthL x = [] then 11 else 0) else faultC x := by
 unfold askE
 by_cases h : faultC x = 0 <;> simp [h]
end Go.Proofs.Ytdgkhoflajdidaa
/- Bounds of the reference: of the hot buckets of an hour, and of the heat that is left. -/
namespace Go.Proofs.Ytdgkhoflajdidaa
open Go.RowKit Go.Proofs.YtdgkhoflajdidaaW.PrintWords Go.Proofs.YtdgkhoflajdidaaW.PrintMore Go.Proofs.YtdgkhoflajdidaaW.PrintLast Go.Proofs.Ytdgkhoflajdidaa.Print
set_option linter.unusedVariables false
set_option linter.unusedSimpArgs false
set_option maxRecDepth 100000
set_option maxHeartbeats 4000000
/-- The state of Bounds' loop. -/
structure BdSt (w : World) (B : Array Value) (p8 p9 : Nat) (a b : S35) (W : World) : Prop where
 bel : Below w.heap.size w W
 box : Blk W w.heap.size B 28
 r6 : Blk W (w.heap.size + 1) #[.int .i64 0, .int .i64 0] 24
 r7 : Blk W (w.heap.size + 1 + 1) #[.int .i64 0, .int .i64 0] 24
 b8 : Blk W p8 #[.int .i64 a.f0, .int .i64 a.f1] 24
 b9 : Blk W p9 #[.int .i64 b.f0, .int .i64 b.f1] 24
 h8 : w.heap.size + 2 < p8
 h9 : p8 < p9
variable {x : S38} {w W V : World} {B : Array Value} {p8 p9 : Nat} {a b a' b' : S35}
theorem BdSt.below (s : BdSt w B p8 p9 a b W) (hb : Below W.heap.size W V) : BdSt w B p8 p9 a b V := ⟨bel2 s.bel hb, s.box.below hb, s.r6.below hb, s.r7.below hb, s.b8.below hb, s.b9.below hb, s.h8, s.h9⟩
theorem BdSt.put (s : BdSt w B p8 p9 a b W) (a' b' : S35) : BdSt w B p8 p9 a' b' ((((W.setCell ⟨p8, 0, none⟩ (.int .i64 a'.f0)).setCell ⟨p8, 1, none⟩ (.int .i64 a'.f1)).setCell ⟨p9, 0, none⟩ (.int .i64 b'.f0)).setCell ⟨p9, 1, none⟩ (.int .i64 b'.f1)) := by
 have h8 := s.h8
 have h9 := s.h9
 have ne : ∀ q, q < p8 → ∀ cs t, Blk W q cs t → Blk ((((W.setCell ⟨p8, 0, none⟩ (.int .i64 a'.f0)).setCell ⟨p8, 1, none⟩ (.int .i64 a'.f1)).setCell ⟨p9, 0, none⟩ (.int .i64 b'.f0)).setCell ⟨p9, 1, none⟩ (.int .i64 b'.f1)) q cs t := fun q hq cs t h =>
  (((h.set_other (p := ⟨p8, 0, none⟩) (by show q ≠ p8; omega) _).set_other (p := ⟨p8, 1, none⟩) (by show q ≠ p8; omega) _).set_other (p := ⟨p9, 0, none⟩) (by show q ≠ p9; omega) _).set_other (p := ⟨p9, 1, none⟩) (by show q ≠ p9; omega) _
 refine ⟨(((s.bel.setCell (p := ⟨p8, 0, none⟩) (by show w.heap.size ≤ p8; omega) _).setCell (p := ⟨p8, 1, none⟩) (by show w.heap.size ≤ p8; omega) _).setCell (p := ⟨p9, 0, none⟩) (by show w.heap.size ≤ p9; omega) _).setCell (p := ⟨p9, 1, none⟩) (by show w.heap.size ≤ p9; omega) _, ne _ (by omega) _ _ s.box, ne _ (by omega) _ _ s.r6, ne _ (by omega) _ _ s.r7, ?_, ?_, h8, h9⟩
 ·exact (((s.b8.set 0 _).set 1 _).set_other (p := ⟨p9, 0, none⟩) (by show p8 ≠ p9; omega) _).set_other (p := ⟨p9, 1, none⟩) (by show p8 ≠ p9; omega) _
 ·exact (((s.b9.set_other (p := ⟨p8, 0, none⟩) (by show p9 ≠ p8; omega) _).set_other (p := ⟨p8, 1, none⟩) (by show p9 ≠ p8; omega) _).set 0 _).set 1 _
end Go.Proofs.Ytdgkhoflajdidaa
/- Keeps, Whole, Wholes of the reference: truths are counted. -/
namespace Go.Proofs.Ytdgkhoflajdidaa
open Go.RowKit Go.Proofs.YtdgkhoflajdidaaW.PrintWords Go.Proofs.YtdgkhoflajdidaaW.PrintMore Go.Proofs.YtdgkhoflajdidaaW.PrintLast Go.Proofs.Ytdgkhoflajdidaa.Print
set_option linter.unusedVariables false
set_option linter.unusedSimpArgs false
set_option maxRecDepth 100000
set_option maxHeartbeats 4000000
/-- What is handed to those that go through truths. -/
structure TrArgs (x : S38) (cs : List Value) (A C D : Option Addr) (L : List S75) (co wa : List Int) (w : World) : Prop where
 kx : k38.K w x cs
 kl : Kd.C k75 w A L.length L
 kc : Kd.C (Kd.int .i64) w C co.length co
 kw : Kd.C (Kd.int .i64) w D wa.length wa
 ok : ∀ t ∈ L, PlayOk x (toSc t) co wa ∧ (t.f1.length : Int) = x.f0 + 1
 len : L.length ≤ 3000
 l0 : 0 ≤ x.f0
 l1 : x.f0 ≤ 4
variable {x : S38} {cs ts : List Value} {A C D : Option Addr} {c d d' : Nat} {L : List S75} {t : S75} {co wa : List Int} {w V : World}
theorem TrArgs.below (h : TrArgs x cs A C D L co wa w) (hb : Below w.heap.size w V) : TrArgs x cs A C D L co wa V :=
 ⟨k38.K_below hb h.kx, Kd.C_below h.kl hb, Kd.C_below h.kc hb, Kd.C_below h.kw hb, h.ok, h.len, h.l0, h.l1⟩
def wholeR (x : S38) (s : Sc) (co wa : List Int) : Bool := (List.range (x.f0 + 1).toNat).all (keptAt x s co wa)
end Go.Proofs.Ytdgkhoflajdidaa
/- The bounds of copper are those of the reference. -/
namespace Go.Proofs.Ytdgkhoflajdidaa
open Go.RowKit Go.Proofs.YtdgkhoflajdidaaW.PrintWords Go.Proofs.YtdgkhoflajdidaaW.PrintMore Go.Proofs.YtdgkhoflajdidaaW.PrintLast Go.Proofs.Ytdgkhoflajdidaa.Print
set_option linter.unusedVariables false
set_option linter.unusedSimpArgs false
theorem ask_spec {x : S38} (hne : truthL x ≠ []) (val : S114 → Int) (wa : List Int) : (∀ s ∈ truthL x, (askB x wa val).f0 ≤ val (pastOf x s x.f5 wa) ∧ val (pastOf x s x.f5 wa) ≤ (askB x wa val).f1) ∧ (∃ s ∈ truthL x, val (pastOf x s x.f5 wa) = (askB x wa val).f0) ∧ ∃ s ∈ truthL x, val (pastOf x s x.f5 wa) = (askB x wa val).f1 := by
 have hl : 0 < (truthL x).length := List.length_pos_iff.2 hne
 obtain ⟨h1, ⟨j1, hj1, e1⟩, ⟨j2, hj2, e2⟩⟩ := bnd_spec (fun k => val (pastOf x ((truthL x).getD k zSc) x.f5 wa)) (truthL x).length hl
 have hg : ∀ k (hk : k < (truthL x).length), (truthL x).getD k zSc = (truthL x)[k] := fun k hk => by simp [hk]
 change val (pastOf x ((truthL x).getD j1 zSc) x.f5 wa) = _ at e1
 change val (pastOf x ((truthL x).getD j2 zSc) x.f5 wa) = _ at e2
 rw [hg j1 hj1] at e1
 rw [hg j2 hj2] at e2
 unfold askB
 refine ⟨fun s hs => ?_, ⟨_, List.getElem_mem hj1, e1⟩, ⟨_, List.getElem_mem hj2, e2⟩⟩
 obtain ⟨k, hk, rfl⟩ := List.getElem_of_mem hs
 have := h1 k hk
 change _ ≤ val (pastOf x ((truthL x).getD k zSc) x.f5 wa) ∧ val (pastOf x ((truthL x).getD k zSc) x.f5 wa) ≤ _ at this
 rw [hg k hk] at this
 exact this
end Go.Proofs.Ytdgkhoflajdidaa
/- The verdicts of copper are those of the reference; Lacks of the reference. -/
namespace Go.Proofs.Ytdgkhoflajdidaa
open Go.RowKit Go.Proofs.YtdgkhoflajdidaaW.PrintWords Go.Proofs.YtdgkhoflajdidaaW.PrintMore Go.Proofs.YtdgkhoflajdidaaW.PrintLast Go.Proofs.Ytdgkhoflajdidaa.Print
set_option linter.unusedVariables false
set_option linter.unusedSimpArgs false
set_option maxRecDepth 100000
set_option maxHeartbeats 4000000
def vB (a n : Bool) : Int := if a = true then 1 else if n = true then 2 else 3
variable {x : S38}
theorem vdict_ask (hne : truthL x ≠ []) (val : S114 → Int) (wa : List Int) (p : Sc → Bool) (hval : ∀ s ∈ truthL x, val (pastOf x s x.f5 wa) = if p s = true then 1 else 0) : vdict (askB x wa val) = vB ((truthL x).all p) ((truthL x).all fun s => !p s) := by
 obtain ⟨h1, ⟨s1, hs1, e1⟩, ⟨s2, hs2, e2⟩⟩ := ask_spec hne val wa
 rw [hval s1 hs1] at e1
 rw [hval s2 hs2] at e2
 have hb : ∀ s ∈ truthL x, (askB x wa val).f0 ≤ (if p s = true then 1 else 0) ∧ (if p s = true then 1 else 0) ≤ (askB x wa val).f1 := fun s hs => by rw [← hval s hs]; exact h1 s hs
 generalize askB x wa val = r at *
 unfold vdict vB
 have c1 : 0 < r.f0 ↔ (truthL x).all p = true := by
  rw [List.all_eq_true]
  constructor
  ·intro h s hs
   have := (hb s hs).1
   by_cases hp : p s = true
   ·exact hp
   ·rw [if_neg hp] at this; omega
  ·intro h
   rw [if_pos (h s1 hs1)] at e1
   omega
 have c2 : r.f1 = 0 ↔ (truthL x).all (fun s => !p s) = true := by
  rw [List.all_eq_true]
  constructor
  ·intro h s hs
   have := (hb s hs).2
   by_cases hp : p s = true
   ·rw [if_pos hp] at this; omega
   ·simpa using hp
  ·intro h
   have := h s2 hs2
   rw [if_neg (by simpa using this)] at e2
   omega
 by_cases d1 : (truthL x).all p = true
 ·rw [if_pos (c1.2 d1), if_pos d1]
 ·rw [if_neg (fun h => d1 (c1.1 h)), if_neg d1]
  by_cases d2 : (truthL x).all (fun s => !p s) = true
  ·rw [if_pos (c2.2 d2), if_pos d2]
  ·rw [if_neg (fun h => d2 (c2.1 h)), if_neg d2]
theorem whole_kepts (s : Sc) (co wa : List Int) : (kepts x s co wa (x.f0 + 1).toNat).all id = wholeR x s co wa := by simp [kepts, wholeR, List.all_map, Function.comp_def]
variable {cs : List Value} {A C D : Option Addr} {c : Nat} {L : List S75} {w : World}
end Go.Proofs.Ytdgkhoflajdidaa
/- With a greater Heat, smaller Loss, more Coal no hour is colder; with less promised none is. -/
namespace Go.Proofs.Ytdgkhoflajdidaa
open Go.RowKit Go.Proofs.YtdgkhoflajdidaaW.PrintWords Go.Proofs.YtdgkhoflajdidaaW.PrintMore Go.Proofs.YtdgkhoflajdidaaW.PrintLast Go.Proofs.Ytdgkhoflajdidaa.Print
set_option linter.unusedVariables false
set_option linter.unusedSimpArgs false
set_option maxRecDepth 100000
section
variable {x : S38} {s s' : Sc} {co co' wa wa' : List Int}
theorem preH_mono (h : PlayOk x s co wa) (h' : PlayOk x s' co' wa') (hh : s.h ≤ s'.h) (hl : ∀ k, s'.loss k ≤ s.loss k) (hc : ∀ k, co.getD k 0 ≤ co'.getD k 0) {a a' : Int} (ha : a ≤ a') (k : Nat) : preH x s co a k ≤ preH x s' co' a' k := by
 have h1 := h.coalG k
 have h2 := hc k
 have h3 := h.heat0
 have h4 := hl k
 have hm : co.getD k 0 * s.h ≤ co'.getD k 0 * s'.h := Int.le_trans (Int.mul_le_mul_of_nonneg_right h2 h3) (Int.mul_le_mul_of_nonneg_left hh (by omega))
 unfold preH
 rw [mx2_eq, mn2_eq, mx2_eq, mn2_eq]
 omega
/-- Less promised keeps what was kept. -/
theorem heat_less (h : PlayOk x s co wa) (h' : PlayOk x s co wa') (hw : ∀ k, wa'.getD k 0 ≤ wa.getD k 0) : ∀ k, (∀ j, j < k → keptAt x s co wa j = true) → heatAt x s co wa k ≤ heatAt x s co wa' k
 | 0, _ => Int.le_refl _
 | k + 1, hk => by
  have ih := heat_less h h' hw k fun j hj => hk j (by omega)
  have hp := preH_mono h h' (Int.le_refl _) (fun _ => Int.le_refl _) (fun _ => Int.le_refl _) ih k
  have hkk := hk k (by omega)
  show leftH x wa (preH x s co (heatAt x s co wa k) k) k ≤ leftH x wa' (preH x s co (heatAt x s co wa' k) k) k
  have hk1 : keptH x wa (preH x s co (heatAt x s co wa k) k) k = true := hkk
  have hk2 : keptH x wa' (preH x s co (heatAt x s co wa' k) k) k = true := by
   unfold keptH at hk1 ⊢
   rw [decide_eq_true_eq] at hk1 ⊢
   exact Int.le_trans (hw k) (Int.le_trans hk1 (Int.ediv_le_ediv (by have := h.per0; omega) hp))
  unfold leftH
  rw [if_pos hk1, if_pos hk2]
  have hm := Int.mul_le_mul_of_nonneg_right (hw k) (show 0 ≤ x.f3 by have := h.per0; omega)
  omega
theorem kept_less (h : PlayOk x s co wa) (h' : PlayOk x s co wa') (hw : ∀ k, wa'.getD k 0 ≤ wa.getD k 0) (k : Nat) (hk : ∀ j, j < k + 1 → keptAt x s co wa j = true) : keptAt x s co wa' k = true := by
 have ih := heat_less h h' hw k fun j hj => hk j (by omega)
 have hp := preH_mono h h' (Int.le_refl _) (fun _ => Int.le_refl _) (fun _ => Int.le_refl _) ih k
 have hkk := hk k (by omega)
 unfold keptAt keptH preAt at hkk ⊢
 rw [decide_eq_true_eq] at hkk ⊢
 exact Int.le_trans (hw k) (Int.le_trans hkk (Int.ediv_le_ediv (by have := h.per0; omega) hp))
theorem whole_less (h : PlayOk x s co wa) (h' : PlayOk x s co wa') (hw : ∀ k, wa'.getD k 0 ≤ wa.getD k 0) (hk : wholeR x s co wa = true) : wholeR x s co wa' = true := by
 unfold wholeR at hk ⊢
 rw [List.all_eq_true] at hk ⊢
 intro k hk2
 have hk2 := List.mem_range.1 hk2
 exact kept_less h h' hw k fun j hj => hk j (List.mem_range.2 (by omega))
end
end Go.Proofs.Ytdgkhoflajdidaa
/- Leave and First, without the program: the sets of readings by bits, in their order. -/
namespace Go.Proofs.Ytdgkhoflajdidaa
open Go.RowKit Go.Proofs.YtdgkhoflajdidaaW.PrintWords Go.Proofs.YtdgkhoflajdidaaW.PrintMore Go.Proofs.YtdgkhoflajdidaaW.PrintLast Go.Proofs.Ytdgkhoflajdidaa.Print
set_option linter.unusedVariables false
set_option linter.unusedSimpArgs false
set_option maxRecDepth 100000
def beforeL : List Int → List Int → Bool
 | a :: l, b :: m => if a = b then beforeL l m else decide (a < b)
 | [], _ :: _ => true
 | _, [] => false
/-- The sets of five, in their order: the shorter before the longer. -/
def orderL : List Nat := [0, 1, 2, 4, 8, 16, 3, 5, 9, 17, 6, 10, 18, 12, 20, 24, 7, 11, 19, 13, 21, 25, 14, 22, 26, 28, 15, 23, 27, 29, 30, 31]
def rank (b : Nat) : Nat := orderL.idxOf b
/-- The least of the sets that pass. -/
structure LeastS (n : Nat) (p : Nat → Bool) (b : Nat) : Prop where
 lt : b < 2 ^ n
 pass : p b = true
 least : ∀ c, c < 2 ^ n → p c = true → rank b ≤ rank c
end Go.Proofs.Ytdgkhoflajdidaa
/- Sum, Single, Spare of the reference. -/
namespace Go.Proofs.Ytdgkhoflajdidaa
open Go.RowKit Go.Proofs.YtdgkhoflajdidaaW.PrintWords Go.Proofs.YtdgkhoflajdidaaW.PrintMore Go.Proofs.YtdgkhoflajdidaaW.PrintLast Go.Proofs.Ytdgkhoflajdidaa.Print
set_option linter.unusedVariables false
set_option linter.unusedSimpArgs false
set_option maxRecDepth 100000
set_option maxHeartbeats 4000000
/-- The first k sums. -/
def sumTk (wa mo : List Int) (k : Nat) : List Int := (List.range k).map fun j => wa.getD j 0 + mo.getD j 0
theorem sumTk_all (wa mo : List Int) : sumTk wa mo wa.length = sumL wa mo := by
 unfold sumTk sumL addTo
 refine List.map_congr_left fun j hj => ?_
 rw [if_pos (List.mem_range.1 hj)]
/-- What a list of numbers is returned as. -/
def LiPost (l : List Int) (w : World) (e : Ending) (w' : World) : Prop := ∃ A c, e = .returned (.slice A l.length c) ∧ Kd.C (Kd.int .i64) w' A l.length l ∧ Below w.heap.size w w'
variable {x : S38} {cs : List Value} {A C D : Option Addr} {c : Nat} {L : List S75} {w : World}
theorem rSingle_calls (x : S38) (cs : List Value) (hour n : Int) (w : World) (hx : k38.K w x cs) (h0 : 0 ≤ hour) (h1 : hour ≤ x.f0) (h4 : x.f0 ≤ 4) : Calls Try.prog 72 #[.agg cs.toArray, .int .i64 hour, .int .i64 n] w (LiPost (singleL x hour n) w) := by
 obtain ⟨A5, c5, A6, c6, A9, c9, A10, c10, rfl, _⟩ := k38_open hx
 clear hx
 have hu := Try.underlying28
 obtain ⟨N, hN⟩ : ∃ N : Nat, x.f0 + 1 = (N : Int) := ⟨(x.f0 + 1).toNat, by omega⟩
 have hmk := print_make (P := Try.prog) 22 3 .i64 8 Try.underlying22 info3 (by decide) N (by omega)
 have hN2 : (x.f0 + 1).toNat = N := by omega
 have hsn : (singleL x hour n).length = N := by rw [singleL_len, hN2]
 generalize hw1 : w.alloc (.cells #[.int .i64 x.f0, .int .i64 x.f1, .int .i64 x.f2, .int .i64 x.f3, .int .i64 x.f4, .slice A5 x.f5.length c5, .slice A6 x.f6.length c6, .int .i64 x.f7.f0, .int .i64 x.f7.f1, .slice A9 x.f8.length c9, .slice A10 x.f9.length c10] 28) = w1
 have hb1 : Below w.heap.size w w1 := by rw [← hw1]; exact below_alloc (Below.refl _ _) _
 have k0 : w1.cell? ⟨w.heap.size, 0, none⟩ = some (.int .i64 x.f0) := by rw [← hw1]; exact (Blk.new w #[.int .i64 x.f0, .int .i64 x.f1, .int .i64 x.f2, .int .i64 x.f3, .int .i64 x.f4, .slice A5 x.f5.length c5, .slice A6 x.f6.length c6, .int .i64 x.f7.f0, .int .i64 x.f7.f1, .slice A9 x.f8.length c9, .slice A10 x.f9.length c10] 28 _ rfl).cell 0 _ rfl
 have hown0 := own_made w1 w.heap.size 3 .i64 N hb1.size (by omega)
 have hre : List.replicate N (0 : Int) = singleL x hour 0 := by
  unfold singleL
  rw [hN2]
  apply List.ext_getElem (by simp)
  intro i h1 h2
  simp [List.getElem_set]
 rw [hre] at hown0
 have hat := own_at hown0 hour h0 (by omega)
 have hst := own_store hown0 hour n
 rw [singleL_set] at hst
 obtain ⟨A', c', hv', _, hC⟩ := own_C (Kd.int .i64) (.int .i64) rfl (fun _ _ => rfl) (xs := singleL x hour n) rfl (by simp [nums, hsn]) hst.1
 rw [hsn] at hv'
 simp only [Value.slice.injEq, true_and] at hv'
 obtain ⟨e1, e2⟩ := hv'
 subst e1
 subst e2
 have hBn : Below w.heap.size w ((w1.alloc (.cells (madeCells #[.int .i64 0] N) 3)).setCell ⟨w1.heap.size, hour.toNat, none⟩ (.int .i64 n)) := (below_alloc hb1 _).setCell (p := ⟨w1.heap.size, hour.toNat, none⟩) hb1.size _
 have hwz : w1.heap.size = w.heap.size + 1 := by rw [← hw1]; simp
 rw [World.setCell_alloc_at _ _ _ _ _ rfl] at hC hBn
 rw [hwz] at hC hat
 have HE := Aside0.mk (And.intro hC hBn)
 have HS := Lib.hid hsn
 clear hst hC hBn hown0 hsn hb1 hwz
 subst hw1
 go_enter Try.func72, Try.ntmps72
 go_wp2
 refine bodyPost_ret (results_tmp rfl _ _ _) rfl ?_
 unfold LiPost
 rw [HS.out]
 refine ⟨_, _, rfl, ?_, HE.out.2⟩
 have := HE.out.1
 rw [HS.out] at this
 exact this
end Go.Proofs.Ytdgkhoflajdidaa
/- What a law keeps. -/
namespace Go.Proofs.Ytdgkhoflajdidaa
open Go.RowKit Go.Proofs.YtdgkhoflajdidaaW.PrintWords Go.Proofs.YtdgkhoflajdidaaW.PrintMore Go.Proofs.YtdgkhoflajdidaaW.PrintLast Go.Proofs.Ytdgkhoflajdidaa.Print
/-- What a law keeps: the box of the coppers, and what was returned. -/
structure LwSt (w : World) (B : Array Value) (P : World → Prop) (W : World) : Prop where
 bel : Below w.heap.size w W
 box : Blk W w.heap.size B 28
 rows : P W
theorem LwSt.step {w : World} {B : Array Value} {P : World → Prop} {W V : World} (h : LwSt w B P W) (hP : ∀ W V, P W → Below W.heap.size W V → P V) (hb : Below W.heap.size W V) : LwSt w B P V :=
 ⟨bel2 h.bel hb, h.box.below hb, hP _ _ h.rows hb⟩
end Go.Proofs.Ytdgkhoflajdidaa
/- Least of the reference. -/
namespace Go.Proofs.Ytdgkhoflajdidaa
open Go.RowKit Go.Proofs.YtdgkhoflajdidaaW.PrintWords Go.Proofs.YtdgkhoflajdidaaW.PrintMore Go.Proofs.YtdgkhoflajdidaaW.PrintLast Go.Proofs.Ytdgkhoflajdidaa.Print
set_option linter.unusedVariables false
set_option linter.unusedSimpArgs false
set_option maxRecDepth 100000
set_option maxHeartbeats 4000000
/-- The state of Least's loop. -/
structure LeSt (w : World) (B : Array Value) (best : Option (List Int)) (v6 v7 : Value) (W : World) : Prop where
 bel : Below w.heap.size w W
 box : Blk W w.heap.size B 28
 row : ∃ A c, v6 = .slice A (best.getD []).length c ∧ Kd.C (Kd.int .i64) W A (best.getD []).length (best.getD [])
 is : v7 = .bool best.isSome
 ok : ∀ l, best = some l → l.length ≤ 5 ∧ ∀ v ∈ l, 0 ≤ v ∧ v ≤ 3
theorem LeSt.below {w : World} {B : Array Value} {best : Option (List Int)} {v6 v7 : Value} {W V : World} (h : LeSt w B best v6 v7 W) (hb : Below W.heap.size W V) : LeSt w B best v6 v7 V :=
 ⟨bel2 h.bel hb, h.box.below hb, by obtain ⟨A, c, e, g⟩ := h.row; exact ⟨A, c, e, Kd.C_below g hb⟩, h.is, h.ok⟩
end Go.Proofs.Ytdgkhoflajdidaa
/- Least, outright: the plain law. -/
namespace Go.Proofs.Ytdgkhoflajdidaa
open Go.RowKit Go.Proofs.YtdgkhoflajdidaaW.PrintWords Go.Proofs.YtdgkhoflajdidaaW.PrintMore Go.Proofs.YtdgkhoflajdidaaW.PrintLast Go.Proofs.Ytdgkhoflajdidaa.Print
set_option linter.unusedVariables false
set_option linter.unusedSimpArgs false
set_option maxRecDepth 100000
theorem vB_one (a n : Bool) : vB a n = 1 ↔ a = true := by cases a <;> cases n <;> decide
theorem kept_vd {x : S38} (hne : truthL x ≠ []) {k : Nat} (hk : (k : Int) ≤ x.f0) : vdict (askB x x.f6 (valKept k)) = vB ((truthL x).all fun s => keptAt x s x.f5 x.f6 k) ((truthL x).all fun s => !keptAt x s x.f5 x.f6 k) :=
 vdict_ask hne (valKept k) x.f6 (fun s => keptAt x s x.f5 x.f6 k) fun s _ => kept_get hk
theorem sureB_iff {x : S38} {co : List Int} : sureB x co = true ↔ ∀ s ∈ truthL x, wholeR x s co x.f6 = true := by
 unfold sureB
 rw [List.all_eq_true]
 refine forall_congr' fun s => forall_congr' fun hs => ?_
 rw [← whole_kepts]
 rfl
theorem keeps_one {x : S38} (hV : Valid x) (hne : truthL x ≠ []) : fIdx notAlways (keepsL x (x.f0 + 1).toNat) < 0 ↔ sureB x x.f5 = true := by
 have h0 := hV.last0
 have h1 : fIdx notAlways (keepsL x (x.f0 + 1).toNat) < 0 ↔ (keepsL x (x.f0 + 1).toNat).any notAlways = false := by
  rw [← fIdx_nonneg, decide_eq_false_iff_not]
  omega
 rw [h1, List.any_eq_false, sureB_iff]
 unfold keepsL
 constructor
 ·intro h s hs
  unfold wholeR
  rw [List.all_eq_true]
  intro k hk
  have hk2 := List.mem_range.1 hk
  have := h _ (List.mem_map.2 ⟨k, hk, rfl⟩)
  rw [kept_vd hne (by omega)] at this
  have h3 : vB ((truthL x).all fun s => keptAt x s x.f5 x.f6 k) ((truthL x).all fun s => !keptAt x s x.f5 x.f6 k) = 1 := by
   unfold notAlways at this
   simpa using this
  rw [vB_one, List.all_eq_true] at h3
  exact h3 s hs
 ·intro h v hv
  obtain ⟨k, hk, rfl⟩ := List.mem_map.1 hv
  have hk2 := List.mem_range.1 hk
  rw [kept_vd hne (by omega)]
  have h3 : vB ((truthL x).all fun s => keptAt x s x.f5 x.f6 k) ((truthL x).all fun s => !keptAt x s x.f5 x.f6 k) = 1 := by
   rw [vB_one, List.all_eq_true]
   intro s hs
   have := h s hs
   unfold wholeR at this
   rw [List.all_eq_true] at this
   exact this k hk
  rw [h3]
  decide
theorem lacks_e {x : S38} (hV : Valid x) : (lacksF x).2 = if askE x true = 0 then (if sureB x x.f5 = true then 7 else 0) else askE x true := by
 have hk : keepsF x = if askE x true = 0 then (keepsL x (x.f0 + 1).toNat, 0) else ([], askE x true) := rfl
 have hl : lacksF x = if (keepsF x).2 = 0 then (if fIdx notAlways (keepsF x).1 < 0 then (0, 7) else (fIdx notAlways (keepsF x).1, 0)) else (0, (keepsF x).2) := rfl
 by_cases hE : askE x true = 0
 ·rw [if_pos hE] at hk
  rw [hk] at hl
  rw [hl, if_pos rfl, if_pos hE]
  have hne : truthL x ≠ [] := fun h => by
   have := (askE_nonneg hE).2.2
   rw [h] at this
   cases this
  by_cases hs : sureB x x.f5 = true
  ·rw [if_pos ((keeps_one hV hne).2 hs), if_pos hs]
  ·rw [if_neg (fun h => hs ((keeps_one hV hne).1 h)), if_neg hs]
 ·rw [if_neg hE] at hk
  rw [hk] at hl
  rw [hl, if_neg hE, if_neg hE]
/-- What NoLess asks. -/
structure NoLess (x : S38) (tr fu : List Int) : Prop where
 own : proveCF x x.f5 99 = decide ((lacksF x).2 = 7)
 lack : (lacksF x).2 = 0 ∨ (lacksF x).2 = 7 ∨ (lacksF x).2 = 11
 bad : (leastF x).2 = 0 ∨ (((leastF x).2 = 10 ∨ (leastF x).2 = 11) ∧ proveCF x tr 99 = false ∧ proveCF x x.f5 99 = false)
 good : (leastF x).2 = 0 → (((leastF x).1.length : Int) = x.f0 + 1 ∧ ∀ v ∈ (leastF x).1, 0 ≤ v ∧ v ≤ x.f4) ∧ proveCF x (leastF x).1 (leastF x).1.sum = true ∧ proveCF x fu 99 = true ∧ (proveCF x tr 99 = true → (leastF x).1.sum ≤ tr.sum ∧ (tr.sum = (leastF x).1.sum → beforeL tr (leastF x).1 = false))
end Go.Proofs.Ytdgkhoflajdidaa
/- word: one of some words. -/
namespace Go.Proofs.Ytdgkhoflajdidaa
open Go.RowKit Go.Proofs.YtdgkhoflajdidaaW.PrintWords Go.Proofs.YtdgkhoflajdidaaW.PrintMore Go.Proofs.YtdgkhoflajdidaaW.PrintLast Go.Proofs.Ytdgkhoflajdidaa.Print
set_option linter.unusedVariables false
set_option linter.unusedSimpArgs false
set_option maxRecDepth 100000
set_option maxHeartbeats 4000000
/-- A word. -/
abbrev Wd16 := Fin 65536
def kW : Kd Wd16 := Kd.scalar (fun q => Value.int .u16 (q.val : Int)) (fun _ => rfl)
theorem opens_u16 {H : Type} {enc : TypeId × Value → H} {W : World} : Opens enc W 70 kW := fun fuel cs x h => by
 obtain ⟨n, hc, _, hw⟩ := DataW.trod_int Try.underlying70 h
 have h2 : IntKind.u16.min ≤ n ∧ n ≤ IntKind.u16.max := by simpa only [Lit.wf, Bool.and_eq_true, decide_eq_true_eq] using hw
 have h3 : 0 ≤ n ∧ n ≤ 65535 := h2
 refine ⟨⟨n.toNat, by omega⟩, ?_⟩
 rw [hc]
 show [Value.int .u16 n] = [Value.int .u16 ((n.toNat : Nat) : Int)]
 rw [show ((n.toNat : Nat) : Int) = n by omega]
theorem row_at_w {w : World} {A : Option Addr} {xs : List Wd16} (h : Kd.C kW w A xs.length xs) (kk : Nat) (hk : kk < xs.length) : ∃ ad, A = some ad ∧ w.cell? (ad.add kk) = some (.int .u16 (xs[kk].val : Int)) := by
 obtain ⟨ad, c, e, hx, hK, hc⟩ := Kd.C_get h (0 : Wd16) (kk : Int) (by omega) (by omega)
 refine ⟨ad, e, ?_⟩
 have h1 : c = [Value.int .u16 (((xs.getD (kk : Int).toNat 0).val : Nat) : Int)] := hK
 have h2 := hc 0 (Value.int .u16 (((xs.getD (kk : Int).toNat 0).val : Nat) : Int)) (by rw [h1]; rfl)
 have h3 : kW.sz = 1 := rfl
 rw [h3] at h2
 simpa [hk] using h2
/-- One of some words, or 0. -/
def wordF (ws : List Wd16) (n : Nat) : Nat := if ws.length = 0 then 0 else (ws.getD (n % ws.length) 0).val
theorem wordF_lt (ws : List Wd16) (n : Nat) : wordF ws n < 65536 := by
 unfold wordF
 split
 ·decide
 ·exact (ws.getD (n % ws.length) 0).isLt
theorem word_calls (A : Option Addr) (c : Nat) (ws : List Wd16) (n : Nat) (w : World) (hl : Kd.C kW w A ws.length ws) (hn : n ≤ 100000) : Calls Try.prog 51 #[.slice A ws.length c, .int .i64 n] w fun e w' => e = .returned (.int .i64 (wordF ws n : Nat)) ∧ w = w' := by
 have HL := Aside0.mk hl
 have hlm := hl.2.1
 clear hl
 have HF := Lib.hid (show wordF ws n = if ws.length = 0 then 0 else (ws.getD (n % ws.length) 0).val from rfl)
 by_cases h0 : ws.length = 0
 ·have hz : ((ws.length : Int) == 0) = true := by simp [h0]
  have HZ := Lib.hid h0
  clear h0
  go_enter Try.func51, Try.ntmps51
  go_wp2
  go_ret
  exact ⟨by rw [HF.out, if_pos HZ.out]; rfl, rfl⟩
 ·have hz : ((ws.length : Int) == 0) = false := by simpa using h0
  have hmod := tmod_nat n ws.length
  have hlt : n % ws.length < ws.length := Nat.mod_lt _ (by omega)
  have hltz : ((n % ws.length : Nat) : Int) < (ws.length : Int) := by omega
  obtain ⟨aA, rfl, hc⟩ := row_at_w HL.out (n % ws.length) hlt
  have hge : ws.getD (n % ws.length) 0 = ws[n % ws.length] := by simp [hlt]
  have HG := Lib.hid hge
  have HZ := Lib.hid h0
  have hb := (ws[n % ws.length]).isLt
  generalize hv : ws[n % ws.length] = v at *
  generalize hm : n % ws.length = m at *
  have hvz : (v.val : Int) ≤ 65535 := by omega
  have hnz : (n : Int) ≤ 100000 := by omega
  have hl0 : ¬ (ws.length : Int) = 0 := by omega
  clear hv hge hb
  go_enter Try.func51, Try.ntmps51
  go_wp2
  go_ret
  exact ⟨by rw [HF.out, if_neg HZ.out, HG.out]; rfl, rfl⟩
end Go.Proofs.Ytdgkhoflajdidaa
/- Promised: the plain law. -/
namespace Go.Proofs.Ytdgkhoflajdidaa
open Go.RowKit Go.Proofs.YtdgkhoflajdidaaW.PrintWords Go.Proofs.YtdgkhoflajdidaaW.PrintMore Go.Proofs.YtdgkhoflajdidaaW.PrintLast Go.Proofs.Ytdgkhoflajdidaa.Print
set_option linter.unusedVariables false
set_option linter.unusedSimpArgs false
set_option maxRecDepth 100000
/-- Buckets promised by words: less, and more. -/
def lessW (ws : List Wd16) (n : Nat) : List Int := (List.range n).map fun i => ((wordF ws i % 3 : Nat) : Int)
def moreW (ws : List Wd16) (n : Nat) : List Int := (List.range n).map fun i => ((wordF ws i % 3 + wordF ws i / 8 % 2 : Nat) : Int)
theorem lessW_snoc (ws : List Wd16) (n : Nat) : lessW ws (n + 1) = lessW ws n ++ [((wordF ws n % 3 : Nat) : Int)] := by simp [lessW, List.range_succ]
theorem moreW_snoc (ws : List Wd16) (n : Nat) : moreW ws (n + 1) = moreW ws n ++ [((wordF ws n % 3 + wordF ws n / 8 % 2 : Nat) : Int)] := by simp [moreW, List.range_succ]
theorem lessW_len (ws : List Wd16) (n : Nat) : (lessW ws n).length = n := by simp [lessW]
theorem moreW_len (ws : List Wd16) (n : Nat) : (moreW ws n).length = n := by simp [moreW]
theorem lessW_val (ws : List Wd16) (n : Nat) : ∀ v ∈ lessW ws n, 0 ≤ v ∧ v ≤ 20 := fun v hv => by
 obtain ⟨i, _, rfl⟩ := List.mem_map.1 hv
 omega
theorem moreW_val (ws : List Wd16) (n : Nat) : ∀ v ∈ moreW ws n, 0 ≤ v ∧ v ≤ 20 := fun v hv => by
 obtain ⟨i, _, rfl⟩ := List.mem_map.1 hv
 omega
theorem less_more (ws : List Wd16) (n k : Nat) : (lessW ws n).getD k 0 ≤ (moreW ws n).getD k 0 := by
 by_cases hk : k < n
 ·simp [lessW, moreW, hk]; omega
 ·simp [lessW, moreW, hk]
theorem sumL_get (wa mo : List Int) (k : Nat) : (sumL wa mo).getD k 0 = if k < wa.length then wa.getD k 0 + mo.getD k 0 else 0 := by
 rw [← sumTk_all]
 unfold sumTk
 by_cases hk : k < wa.length
 ·rw [if_pos hk]; simp [hk]
 ·rw [if_neg hk]; simp [hk]
theorem sumL_mono {wa mo mo' : List Int} (h : ∀ k, mo'.getD k 0 ≤ mo.getD k 0) (k : Nat) : (sumL wa mo').getD k 0 ≤ (sumL wa mo).getD k 0 := by
 rw [sumL_get, sumL_get]
 have := h k
 split <;> omega
theorem singleL_get {x : S38} {hour n : Int} (k : Nat) : (singleL x hour n).getD k 0 = if k = hour.toNat ∧ k < (x.f0 + 1).toNat then n else 0 := by
 unfold singleL
 by_cases h2 : k < (x.f0 + 1).toNat
 ·by_cases h1 : hour.toNat = k
  ·rw [if_pos ⟨h1.symm, h2⟩, List.getD_eq_getElem?_getD, List.getElem?_set, if_pos h1]
   simp [h1, h2]
  ·rw [if_neg (fun h => h1 h.1.symm), List.getD_eq_getElem?_getD, List.getElem?_set, if_neg h1]
   simp [h2]
 ·rw [if_neg (fun h => h2 h.2), List.getD_eq_getElem?_getD, List.getElem?_eq_none (by simp; omega)]
  rfl
def zeroL (x : S38) : List Int := List.replicate (x.f0 + 1).toNat 0
theorem zero_get (x : S38) (k : Nat) : (zeroL x).getD k 0 = 0 := by
 unfold zeroL
 by_cases h : k < (x.f0 + 1).toNat <;> simp [h]
theorem single_zero (x : S38) (hour : Int) : singleL x hour 0 = zeroL x := by
 unfold singleL zeroL
 apply List.ext_getElem (by simp)
 intro i h1 h2
 simp [List.getElem_set]
theorem sum_zero {x : S38} (hV : Valid x) : sumL x.f6 (zeroL x) = x.f6 := by
 apply List.ext_getElem (by rw [← sumTk_all]; simp [sumTk])
 intro i h1 h2
 have e := sumL_get x.f6 (zeroL x) i
 rw [zero_get, if_pos h2] at e
 simpa [h1, h2] using e
theorem withF_vB {x : S38} (hne : truthL x ≠ []) (mo : List Int) : withF x mo = vB ((truthL x).all fun s => wholeR x s x.f5 (sumL x.f6 mo)) ((truthL x).all fun s => !wholeR x s x.f5 (sumL x.f6 mo)) :=
 vdict_ask hne valWhole (sumL x.f6 mo) (fun s => wholeR x s x.f5 (sumL x.f6 mo)) fun s _ => by
  unfold valWhole
  rw [show (pastOf x s x.f5 (sumL x.f6 mo)).f2 = kepts x s x.f5 (sumL x.f6 mo) (x.f0 + 1).toNat from rfl, whole_kepts]
theorem withF_one {x : S38} (hne : truthL x ≠ []) (mo : List Int) : withF x mo = 1 ↔ ∀ s ∈ truthL x, wholeR x s x.f5 (sumL x.f6 mo) = true := by
 rw [withF_vB hne, vB_one, List.all_eq_true]
theorem withF_two {x : S38} (hne : truthL x ≠ []) (mo : List Int) : withF x mo = 2 ↔ ∀ s ∈ truthL x, wholeR x s x.f5 (sumL x.f6 mo) = false := by
 rw [withF_vB hne]
 have h2 : ((truthL x).all fun s => !wholeR x s x.f5 (sumL x.f6 mo)) = true ↔ ∀ s ∈ truthL x, wholeR x s x.f5 (sumL x.f6 mo) = false := by
  rw [List.all_eq_true]
  refine forall_congr' fun s => forall_congr' fun _ => ?_
  simp
 rw [← h2]
 obtain ⟨s, hs⟩ := List.exists_mem_of_ne_nil _ hne
 have h3 : ¬ (((truthL x).all fun s => wholeR x s x.f5 (sumL x.f6 mo)) = true ∧ ((truthL x).all fun s => !wholeR x s x.f5 (sumL x.f6 mo)) = true) := by
  rintro ⟨a, b⟩
  have ha := List.all_eq_true.1 a s hs
  have hb := List.all_eq_true.1 b s hs
  rw [ha] at hb
  cases hb
 generalize ((truthL x).all fun s => wholeR x s x.f5 (sumL x.f6 mo)) = a at *
 generalize ((truthL x).all fun s => !wholeR x s x.f5 (sumL x.f6 mo)) = b at *
 cases a <;> cases b <;> first | decide | exact absurd ⟨rfl, rfl⟩ h3
theorem whole_ordered {x : S38} (hV : Valid x) {mo mo' : List Int} (hm : ∀ n ∈ mo, 0 ≤ n ∧ n ≤ 20) (hm' : ∀ n ∈ mo', 0 ≤ n ∧ n ≤ 20) (h : ∀ k, mo'.getD k 0 ≤ mo.getD k 0) {s : Sc} (hs : s ∈ truthL x) (hw : wholeR x s x.f5 (sumL x.f6 mo) = true) : wholeR x s x.f5 (sumL x.f6 mo') = true :=
 whole_less (sumL_ok hV hm hs) (sumL_ok hV hm' hs) (sumL_mono h) hw
theorem downF_some {p : Nat → Bool} : ∀ {m k : Nat}, downF p m = some k → k < m ∧ p k = true ∧ ∀ j, k < j → j < m → p j = false
 | 0, k, h => by cases h
 | m + 1, k, h => by
  unfold downF at h
  by_cases hp : p m = true
  ·rw [if_pos hp] at h
   cases h
   exact ⟨by omega, hp, fun j h1 h2 => by omega⟩
  ·rw [if_neg hp] at h
   obtain ⟨h1, h2, h3⟩ := downF_some h
   refine ⟨by omega, h2, fun j j1 j2 => ?_⟩
   by_cases hj : j = m
   ·rw [hj]; simpa using hp
   ·exact h3 j j1 (by omega)
theorem downF_no {p : Nat → Bool} : ∀ {m : Nat}, downF p m = none → ∀ j, j < m → p j = false
 | 0, _, j, hj => absurd hj (Nat.not_lt_zero j)
 | m + 1, h, j, hj => by
  unfold downF at h
  by_cases hp : p m = true
  ·rw [if_pos hp] at h; cases h
  ·rw [if_neg hp] at h
   by_cases hjm : j = m
   ·rw [hjm]; simpa using hp
   ·exact downF_no h j (by omega)
/-- What Promised asks, where there is a truth. -/
structure Promised (x : S38) (le mo : List Int) (k : Nat) (by_ : Nat) : Prop where
 eL : moreF x le = (withF x le, 0)
 eM : moreF x mo = (withF x mo, 0)
 eZ : moreF x (zeroL x) = (withF x (zeroL x), 0)
 c1 : withF x mo = 1 → withF x le = 1
 c2 : withF x le = 2 → withF x mo = 2
 c3 : (withF x (zeroL x) == 1) = ((lacksF x).2 == 7)
 sp : (spareF x k = (0, 10) ∧ withF x (zeroL x) ≠ 1) ∨ ∃ s : Nat, spareF x k = ((s : Int), 0) ∧ s ≤ 20 ∧ withF x (zeroL x) = 1 ∧ moreF x (singleL x k s) = (1, 0) ∧ (s + by_ ≤ 20 → ∃ y, moreF x (singleL x k ((s + by_ : Nat) : Int)) = (y, 0) ∧ y ≠ 1)
theorem more_ok {x : S38} (hV : Valid x) (hE : askE x true = 0) {mo : List Int} (hn : (mo.length : Int) = x.f0 + 1) (hm : ∀ n ∈ mo, 0 ≤ n ∧ n ≤ 20) : moreF x mo = (withF x mo, 0) := by
 unfold moreF
 rw [(forHours_iff hV.last0 hV.last1).2 ⟨hn, hm⟩, if_pos hE]
theorem promised {x : S38} (hV : Valid x) (hE : askE x true = 0) (ws : List Wd16) {k : Nat} (hk : (k : Int) ≤ x.f0) {by_ : Nat} (hb : 1 ≤ by_) : Promised x (lessW ws (x.f0 + 1).toNat) (moreW ws (x.f0 + 1).toNat) k by_ := by
 have h0 := hV.last0
 have hne : truthL x ≠ [] := fun h => by
  have := (askE_nonneg hE).2.2
  rw [h] at this
  cases this
 have hz20 : ∀ n ∈ zeroL x, 0 ≤ n ∧ n ≤ 20 := fun n hn => by
  rw [(List.mem_replicate.1 hn).2]; decide
 have hzn : ((zeroL x).length : Int) = x.f0 + 1 := by simp [zeroL]; omega
 have hsn : ∀ n : Int, ((singleL x k n).length : Int) = x.f0 + 1 := fun n => by rw [singleL_len]; omega
 refine ⟨more_ok hV hE (by rw [lessW_len]; omega) (lessW_val ws _), more_ok hV hE (by rw [moreW_len]; omega) (moreW_val ws _), more_ok hV hE hzn hz20, fun h => ?_, fun h => ?_, ?_, ?_⟩
 ·rw [withF_one hne] at h ⊢
  exact fun s hs => whole_ordered hV (moreW_val ws _) (lessW_val ws _) (less_more ws _) hs (h s hs)
 ·rw [withF_two hne] at h ⊢
  intro s hs
  have := h s hs
  cases hq : wholeR x s x.f5 (sumL x.f6 (moreW ws (x.f0 + 1).toNat)) with
  | false => rfl
  | true =>
   rw [whole_ordered hV (moreW_val ws _) (lessW_val ws _) (less_more ws _) hs hq] at this
   cases this
 ·rw [lacks_e hV, if_pos hE]
  have h1 := withF_one hne (zeroL x)
  rw [sum_zero hV] at h1
  by_cases hs : sureB x x.f5 = true
  ·rw [if_pos hs, h1.2 (sureB_iff.1 hs)]
   rfl
  ·rw [if_neg hs]
   have : ¬ withF x (zeroL x) = 1 := fun h => hs (sureB_iff.2 (h1.1 h))
   rw [show (withF x (zeroL x) == 1) = false by simpa using this]
   rfl
 ·have hsp : spareF x k = match downF (spareP x k) 21 with
    | some n => ((n : Int), 0)
    | none => (0, 10) := by
    unfold spareF
    rw [show inR (k : Int) 0 x.f0 = true by rw [inR_iff]; omega, if_pos hE]
    cases downF (spareP x k) 21 <;> rfl
  cases hd : downF (spareP x k) 21 with
  | none =>
   rw [hd] at hsp
   refine .inl ⟨hsp, ?_⟩
   have := downF_no hd 0 (by decide)
   unfold spareP at this
   rw [decide_eq_false_iff_not] at this
   rw [← single_zero x k]
   exact this
  | some s =>
   rw [hd] at hsp
   obtain ⟨h1, h2, h3⟩ := downF_some hd
   unfold spareP at h2
   rw [decide_eq_true_eq] at h2
   refine .inr ⟨s, hsp, by omega, ?_, ?_, fun hle => ?_⟩
   ·rw [withF_one hne] at h2 ⊢
    intro t ht
    refine whole_ordered hV (singleL_bd x k s (by omega) (by omega)) hz20 (fun j => ?_) ht (h2 t ht)
    rw [zero_get, singleL_get]
    split <;> omega
   ·rw [more_ok hV hE (hsn _) (singleL_bd x k s (by omega) (by omega)), h2]
   ·refine ⟨_, more_ok hV hE (hsn _) (singleL_bd x k _ (by omega) (by omega)), ?_⟩
    have := h3 (s + by_) (by omega) (by omega)
    unfold spareP at this
    rw [decide_eq_false_iff_not] at this
    exact this
theorem promised_bad {x : S38} (hV : Valid x) (hE : ¬ askE x true = 0) {mo : List Int} (hn : (mo.length : Int) = x.f0 + 1) (hm : ∀ n ∈ mo, 0 ≤ n ∧ n ≤ 20) : moreF x mo = (0, 11) := by
 have hE11 : askE x true = 11 := by
  rw [askE_t, if_pos ((valid_iff x).2 hV)] at hE ⊢
  by_cases h : truthL x = []
  ·rw [if_pos h]
  ·rw [if_neg h] at hE; exact absurd rfl hE
 unfold moreF
 rw [(forHours_iff hV.last0 hV.last1).2 ⟨hn, hm⟩, if_neg hE, hE11]
end Go.Proofs.Ytdgkhoflajdidaa
/- ready, some. -/
namespace Go.Proofs.Ytdgkhoflajdidaa
open Go.RowKit Go.Proofs.YtdgkhoflajdidaaW.PrintWords Go.Proofs.YtdgkhoflajdidaaW.PrintMore Go.Proofs.YtdgkhoflajdidaaW.PrintLast Go.Proofs.Ytdgkhoflajdidaa.Print
set_option linter.unusedVariables false
set_option linter.unusedSimpArgs false
set_option maxRecDepth 100000
set_option maxHeartbeats 4000000
def readyB (x : S38) : Bool := thinB x && decide (faultC x = 0)
theorem readyB_iff (x : S38) : readyB x = true ↔ thinB x = true ∧ Valid x := by
 unfold readyB
 rw [Bool.and_eq_true, decide_eq_true_eq, valid_iff]
theorem ready_calls (x : S38) (cs : List Value) (w : World) (hx : k38.K w x cs) : Calls Try.prog 41 #[.agg cs.toArray] w fun e w' => e = .returned (.bool (readyB x)) ∧ Below w.heap.size w w' := by
 have HTH := Aside0.mk (fun W (hW : Below w.heap.size w W) => thin_calls x cs W (k38.K_below hW hx))
 have HFA := Aside0.mk (fun W (hW : Below w.heap.size w W) => lfault_calls x cs W (k38.K_below hW hx))
 have HS := Lib.hid (show readyB x = (thinB x && decide (faultC x = 0)) from rfl)
 obtain ⟨A5, c5, A6, c6, A9, c9, A10, c10, rfl, _⟩ := k38_open hx
 clear hx
 have hu := Try.underlying28
 have ZB := Aside0.mk (And.intro (below_alloc (Below.refl w.heap.size w) (.cells #[.int .i64 x.f0, .int .i64 x.f1, .int .i64 x.f2, .int .i64 x.f3, .int .i64 x.f4, .slice A5 x.f5.length c5, .slice A6 x.f6.length c6, .int .i64 x.f7.f0, .int .i64 x.f7.f1, .slice A9 x.f8.length c9, .slice A10 x.f9.length c10] 28)) (Blk.new w #[.int .i64 x.f0, .int .i64 x.f1, .int .i64 x.f2, .int .i64 x.f3, .int .i64 x.f4, .slice A5 x.f5.length c5, .slice A6 x.f6.length c6, .int .i64 x.f7.f0, .int .i64 x.f7.f1, .slice A9 x.f8.length c9, .slice A10 x.f9.length c10] 28 _ rfl))
 cases hq : thinB x with
 | false =>
  rw [hq] at HTH HS
  go_enter Try.func41, Try.ntmps41
  go_wp2_with fail
  refine (HTH.out _ ZB.out.1).mono ?_
  rintro e w1 ⟨rfl, hb⟩
  have H1 := Aside0.mk (bel2 ZB.out.1 hb)
  clear hb
  go_wp2
  go_ret
  exact ⟨ret_bool (by rw [HS.out]; rfl), H1.out⟩
 | true =>
  rw [hq] at HTH HS
  go_enter Try.func41, Try.ntmps41
  go_wp2_with fail
  refine (HTH.out _ ZB.out.1).mono ?_
  rintro e w1 ⟨rfl, hb⟩
  have H1 := Aside0.mk (And.intro (bel2 ZB.out.1 hb) (ZB.out.2.below hb))
  clear hb
  have k0 := H1.out.2.cell 0 _ rfl
  have k1 := H1.out.2.cell 1 _ rfl
  have k2 := H1.out.2.cell 2 _ rfl
  have k3 := H1.out.2.cell 3 _ rfl
  have k4 := H1.out.2.cell 4 _ rfl
  have k5 := H1.out.2.cell 5 _ rfl
  have k6 := H1.out.2.cell 6 _ rfl
  have k7 := H1.out.2.cell 7 _ rfl
  have k8 := H1.out.2.cell 8 _ rfl
  have k9 := H1.out.2.cell 9 _ rfl
  have k10 := H1.out.2.cell 10 _ rfl
  go_wp2_with fail
  refine (HFA.out _ H1.out.1).mono ?_
  rintro e w2 ⟨rfl, hb⟩
  have H2 := Aside0.mk (bel2 H1.out.1 hb)
  clear hb k0 k1 k2 k3 k4 k5 k6 k7 k8 k9 k10
  by_cases hf : faultC x = 0
  ·have hf2 : (faultC x == 0) = true := by simpa using hf
   have HF := Lib.hid hf
   clear hf
   generalize faultC x = fc at *
   go_wp2
   go_ret
   exact ⟨ret_bool (by rw [HS.out, decide_eq_true HF.out]; rfl), H2.out⟩
  ·have hf2 : (faultC x == 0) = false := by simpa using hf
   have HF := Lib.hid hf
   clear hf
   generalize faultC x = fc at *
   go_wp2
   go_ret
   exact ⟨ret_bool (by rw [HS.out, decide_eq_false HF.out]; rfl), H2.out⟩
/-- The state of some's loop. -/
structure SmSt (w : World) (B Z : Array Value) (B2 : Value → Array Value) (l : List S119) (v : Value) (W : World) : Prop where
 bel : Below w.heap.size w W
 box : Blk W w.heap.size B 28
 res : Blk W (w.heap.size + 1) Z 28
 blk : Blk W (w.heap.size + 2) (B2 v) 28
 row : W.ownsRow w.heap.size 96 3 v l.length (rdCells l)
section
variable {w W V : World} {B Z : Array Value} {B2 : Value → Array Value} {l : List S119} {v v' : Value}
theorem SmSt.below (h : SmSt w B Z B2 l v W) (hb : Below W.heap.size W V) : SmSt w B Z B2 l v V :=
 ⟨bel2 h.bel hb, h.box.below hb, h.res.below hb, h.blk.below hb, own_bel h.row hb⟩
end
end Go.Proofs.Ytdgkhoflajdidaa
