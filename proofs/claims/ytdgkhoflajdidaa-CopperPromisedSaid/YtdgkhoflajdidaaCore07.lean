/- Lemmas for the laws' proofs: Fa, Fb, Fc, Ga. -/
import Derived.Test.YtdgkhoflajdidaaCore06
import Derived.Laws.CopyRow
/- First: the first wrong reading. -/
namespace Go.Proofs.Ytdgkhoflajdidaa
open Go.RowKit Go.Proofs.YtdgkhoflajdidaaW.PrintWords Go.Proofs.YtdgkhoflajdidaaW.PrintMore Go.Proofs.YtdgkhoflajdidaaW.PrintLast Go.Proofs.Ytdgkhoflajdidaa.Print
set_option linter.unusedVariables false
set_option linter.unusedSimpArgs false
/-- Is there a truth without some readings. -/
def posB (x : S38) (out : List Int) : Bool := (allSc x).any fun s => rightB x s out
/-- The coppers with the first n readings. -/
def cutR (x : S38) (n : Nat) : S38 := { x with f9 := x.f9.take n }
theorem Valid.cut {x : S38} (h : Valid x) (n : Nat) : Valid (cutR x n) :=
 ⟨h.last0, h.last1, h.start0, h.start1, h.most, h.per0, h.per1, h.sh0, h.sh1, h.coalN, h.coalV, h.wantN, h.wantV, h.heat0, h.heat1, h.heat2, h.lossN, h.lossV, by
  have := h.rdN; simp [cutR]; omega, fun r hr => h.rdV r (List.mem_of_mem_take hr), h.many⟩
/-- What First returns. -/
def firstF (x : S38) : Int × Int :=
 if faultC x = 0 then
  match (List.range x.f9.length).find? fun i => !posB (cutR x (i + 1)) [] with
  | some i => ((i : Int), 0)
  | none => (0, 7)
 else (0, faultC x)
theorem firstF_hit {x : S38} (hv : faultC x = 0) {i : Nat} (hi : i < x.f9.length) (h1 : posB (cutR x (i + 1)) [] = false) (h2 : ∀ j, j < i → posB (cutR x (j + 1)) [] = true) : firstF x = ((i : Int), 0) := by
 unfold firstF
 rw [if_pos hv]
 have : (List.range x.f9.length).find? (fun i => !posB (cutR x (i + 1)) []) = some i := by
  rw [List.find?_range_eq_some]
  exact ⟨by simp [h1], List.mem_range.2 hi, fun j hj => by simp [h2 j hj]⟩
 rw [this]
theorem firstF_miss {x : S38} (hv : faultC x = 0) (h2 : ∀ j, j < x.f9.length → posB (cutR x (j + 1)) [] = true) : firstF x = (0, 7) := by
 unfold firstF
 rw [if_pos hv]
 have : (List.range x.f9.length).find? (fun i => !posB (cutR x (i + 1)) []) = none := by
  rw [List.find?_eq_none]
  intro j hj
  simp [h2 j (List.mem_range.1 hj)]
 rw [this]
theorem firstF_bad {x : S38} (hv : ¬ faultC x = 0) : firstF x = (0, faultC x) := by unfold firstF; rw [if_neg hv]
theorem Kd.C_take {α : Type} {d : Kd α} {w : World} {A : Option Addr} {xs : List α} (h : Kd.C d w A xs.length xs) (n : Nat) (hn : n ≤ xs.length) : Kd.C d w A (xs.take n).length (xs.take n) := by
 refine ⟨rfl, by have := h.2.1; simp; omega, fun h0 => ?_⟩
 have h1 : n ≠ 0 := by intro e; subst e; simp at h0
 obtain ⟨ad, e, hc⟩ := h.2.2 (by omega)
 refine ⟨ad, e, fun j p hj => hc j p ?_⟩
 have hlt : j < n := by
  have := (List.getElem?_eq_some_iff.1 hj).1
  simp at this
  omega
 rw [← hj, List.getElem?_take_of_lt hlt]
theorem Kd.C_nil0 {α : Type} (d : Kd α) (w : World) (A : Option Addr) : Kd.C d w A ([] : List α).length [] := ⟨rfl, by simp, fun h => absurd h (by simp)⟩
theorem nil_int (w : World) : Kd.C (Kd.int .i64) w none ([] : List Int).length [] := Kd.C_nil0 _ _ _
set_option maxRecDepth 100000 in
set_option maxHeartbeats 4000000 in
theorem first_calls (x : S38) (cs : List Value) (w : World) (hx : k38.K w x cs) :
    Calls Try.prog 35 #[.agg cs.toArray] w fun e w' => e = .returned (.tuple #[.int .i64 (firstF x).1, .int .i64 (firstF x).2]) ∧ Below w.heap.size w w' := by
 obtain ⟨A5, c5, A6, c6, A9, c9, A10, c10, hcs, l5, g5, l6, g6, l9, g9, l10, g10⟩ := k38_open hx
 have hb0 := fun o => below_alloc (Below.refl w.heap.size w) o
 have hchk := fun o => check_calls x cs (w.alloc o) (k38.K_below (hb0 o) hx)
 have HX := Aside0.mk hx
 have G5 := Aside0.mk (And.intro l5 g5)
 have G6 := Aside0.mk (And.intro l6 g6)
 have G9 := Aside0.mk (And.intro l9 g9)
 have G10 := Aside0.mk (And.intro l10 g10)
 subst hcs
 clear hx g5 g6 g9 g10
 have hu := Try.underlying38
 by_cases hv : faultC x = 0
 ·have HV := Aside0.mk ((valid_iff x).1 hv)
  have HF := Lib.hid hv
  rw [hv] at hchk
  clear hv
  go_enter Try.func35, Try.ntmps35
  go_wp2_with (go_at_call 58; refine (hchk _).mono ?_; rintro e w1 ⟨rfl, hb1⟩; have hB := bel2 (hb0 _) hb1; have BC := (Blk.new w _ 38 _ rfl).below hb1; have hlz := BC.lt; have kc0 := BC.cell 0 _ rfl; have kc1 := BC.cell 1 _ rfl; have kc2 := BC.cell 2 _ rfl; have kc3 := BC.cell 3 _ rfl; have kc4 := BC.cell 4 _ rfl; have kc5 := BC.cell 5 _ rfl; have kc6 := BC.cell 6 _ rfl; have kc7 := BC.cell 7 _ rfl; have kc8 := BC.cell 8 _ rfl; have kc9 := BC.cell 9 _ rfl; have kc10 := BC.cell 10 _ rfl; have HB := Aside0.mk hB; have HBC := Aside0.mk BC; clear hB BC hb1)
  have hb7 := below_alloc (Below.refl w1.heap.size w1) (.cells #[.int .i64 x.f0, .int .i64 x.f1, .int .i64 x.f2, .int .i64 x.f3, .int .i64 x.f4, .slice A5 x.f5.length c5, .slice A6 x.f6.length c6, .int .i64 x.f7.f0, .int .i64 x.f7.f1, .slice A9 x.f8.length c9, .slice A10 x.f9.length c10] 38)
  have BG := Blk.new w1 #[.int .i64 x.f0, .int .i64 x.f1, .int .i64 x.f2, .int .i64 x.f3, .int .i64 x.f4, .slice A5 x.f5.length c5, .slice A6 x.f6.length c6, .int .i64 x.f7.f0, .int .i64 x.f7.f1, .slice A9 x.f8.length c9, .slice A10 x.f9.length c10] 38 _ rfl
  generalize hW7 : w1.alloc (.cells #[.int .i64 x.f0, .int .i64 x.f1, .int .i64 x.f2, .int .i64 x.f3, .int .i64 x.f4, .slice A5 x.f5.length c5, .slice A6 x.f6.length c6, .int .i64 x.f7.f0, .int .i64 x.f7.f1, .slice A9 x.f8.length c9, .slice A10 x.f9.length c10] 38) = W7 at hb7 BG ⊢
  have HB7 := Aside0.mk (bel2 HB.out hb7)
  have HBC7 := Aside0.mk (HBC.out.below hb7)
  have HBG7 := Aside0.mk BG
  generalize hgg : w1.heap.size = g7 at *
  clear hb7 BG hW7 HB HBC kc0 kc1 kc2 kc3 kc4 kc5 kc6 kc7 kc8 kc9 kc10 hchk
  have hpos := fun n W (hW : Below w.heap.size w W) (hn : n ≤ x.f9.length) => possible_calls (cutR x n) [.int .i64 x.f0, .int .i64 x.f1, .int .i64 x.f2, .int .i64 x.f3, .int .i64 x.f4, .slice A5 x.f5.length c5, .slice A6 x.f6.length c6, .int .i64 x.f7.f0, .int .i64 x.f7.f1, .slice A9 x.f8.length c9, .slice A10 n c10] none 0 [] W
   (by have h1 := k38_mk W (cutR x n) (A5 := A5) (c5 := c5) G5.out.1 (Kd.C_below G5.out.2 hW) (A6 := A6) (c6 := c6) G6.out.1 (Kd.C_below G6.out.2 hW) (A9 := A9) (c9 := c9) G9.out.1 (Kd.C_below G9.out.2 hW) (A10 := A10) (c10 := c10) (by have := G10.out.1; simp [cutR]; omega) (Kd.C_take (Kd.C_below G10.out.2 hW) n hn)
       have h2 : (cutR x n).f9.length = n := by simp [cutR]; omega
       rw [h2] at h1
       exact h1) (nil_int W) (HV.out.cut n)
  have HPOS := Aside0.mk hpos
  clear hpos
  go_loopw [16] (fun s16 wr => ∃ kk : Nat, kk ≤ x.f9.length ∧ s16 = .int .i64 kk ∧ Aside0 (Below w.heap.size w wr ∧ Blk wr w.heap.size #[.int .i64 x.f0, .int .i64 x.f1, .int .i64 x.f2, .int .i64 x.f3, .int .i64 x.f4, .slice A5 x.f5.length c5, .slice A6 x.f6.length c6, .int .i64 x.f7.f0, .int .i64 x.f7.f1, .slice A9 x.f8.length c9, .slice A10 x.f9.length c10] 38 ∧ ∃ v, Blk wr g7 #[.int .i64 x.f0, .int .i64 x.f1, .int .i64 x.f2, .int .i64 x.f3, .int .i64 x.f4, .slice A5 x.f5.length c5, .slice A6 x.f6.length c6, .int .i64 x.f7.f0, .int .i64 x.f7.f1, .slice A9 x.f8.length c9, v] 38) ∧ Aside0 (∀ j, j < kk → posB (cutR x (j + 1)) [] = true)) (fun s16 _ => x.f9.length - (intOf s16).toNat)
  case atStart => exact ⟨0, Nat.zero_le _, rfl, ⟨HB7.out, HBC7.out, _, HBG7.out⟩, ⟨fun j hj => absurd hj (Nat.not_lt_zero _)⟩⟩
  case round =>
   obtain ⟨kk, hkk, rfl, HW, HA⟩ := hrel
   by_cases hlt : kk < x.f9.length
   ·have hltz : (kk : Int) < (x.f9.length : Int) := by omega
    have hcap := G10.out.1
    have hcz : (kk : Int) + 1 ≤ (c10 : Int) := by omega
    have hln := G10.out.2.2.1
    obtain ⟨ad, hA, _⟩ := row_at_rd G10.out.2 kk hlt
    obtain ⟨v, hg⟩ := HW.out.2.2
    have kc10 := HW.out.2.1.cell 10 _ rfl
    have hg10 := hg.cell 10 _ rfl
    have hgf := hg.frozen 10
    have hset := hg.set 10 (.slice A10 (kk + 1) c10)
    have hbs : Below w.heap.size w (wr.setCell ⟨g7, 10, none⟩ (.slice A10 (kk + 1) c10)) := HW.out.1.setCell (p := ⟨g7, 10, none⟩) (by show w.heap.size ≤ g7; omega) _
    have k0 := hset.cell 0 _ rfl
    have k1 := hset.cell 1 _ rfl
    have k2 := hset.cell 2 _ rfl
    have k3 := hset.cell 3 _ rfl
    have k4 := hset.cell 4 _ rfl
    have k5 := hset.cell 5 _ rfl
    have k6 := hset.cell 6 _ rfl
    have k7 := hset.cell 7 _ rfl
    have k8 := hset.cell 8 _ rfl
    have k9 := hset.cell 9 _ rfl
    have k10 := hset.cell 10 _ rfl
    have hpc := HPOS.out (kk + 1) _ hbs (by omega)
    have HS := Aside0.mk (And.intro hbs (And.intro (HW.out.2.1.set_other (p := ⟨g7, 10, none⟩) (by show w.heap.size ≠ g7; omega) (.slice A10 (kk + 1) c10)) hset))
    clear hset hbs hg HW
    subst hA
    cases hp : posB (cutR x (kk + 1)) [] with
    | true =>
     have hp2 := hp
     unfold posB at hp2
     rw [hp2] at hpc
     have HP := Lib.hid hp
     clear hp hp2
     go_wp2_with (go_at_call 89; refine hpc.mono ?_; rintro e w3 ⟨rfl, hb3⟩; have HB3 := Aside0.mk hb3; clear hb3)
     go_roundw
     case rel => exact ⟨kk + 1, by omega, by go_num, ⟨bel2 HS.out.1 HB3.out, HS.out.2.1.below HB3.out, _, HS.out.2.2.below HB3.out⟩, ⟨fun j hj => by rcases Nat.lt_succ_iff_lt_or_eq.1 hj with h | h; exact HA.out j h; subst h; exact HP.out⟩⟩
     case measure => simp [intOf]; omega
    | false =>
     have hp2 := hp
     unfold posB at hp2
     rw [hp2] at hpc
     have HP := Lib.hid hp
     clear hp hp2
     go_wp2_with (go_at_call 89; refine hpc.mono ?_; rintro e w3 ⟨rfl, hb3⟩; have HB3 := Aside0.mk hb3; clear hb3)
     refine bodyPost_ret (results_tmp2 rfl _ _ _) rfl ⟨?_, bel2 HS.out.1 HB3.out⟩
     rw [firstF_hit HF.out hlt HP.out HA.out]; rfl
   ·have hltz : ¬ (kk : Int) < (x.f9.length : Int) := by omega
    obtain rfl : kk = x.f9.length := by omega
    go_wp2
    refine bodyPost_ret (results_tmp2 rfl _ _ _) rfl ⟨?_, HW.out.1⟩
    rw [firstF_miss HF.out HA.out]; rfl
 ·have HE := Lib.hid (firstF_bad hv)
  generalize hf : faultC x = ec at hchk hv HE
  have hv2 : (ec == 0) = false := by simpa using hv
  go_enter Try.func35, Try.ntmps35
  go_wp2_with (go_at_call 58; refine (hchk _).mono ?_; rintro e w1 ⟨rfl, hb1⟩; have HB := Aside0.mk (bel2 (hb0 _) hb1); clear hb1)
  refine bodyPost_ret (results_tmp2 rfl _ _ _) rfl ⟨?_, HB.out⟩
  rw [HE.out]; rfl
end Go.Proofs.Ytdgkhoflajdidaa
/- Leave: the smallest set of readings that can be left out. -/
namespace Go.Proofs.Ytdgkhoflajdidaa
open Go.RowKit Go.Proofs.YtdgkhoflajdidaaW.PrintWords Go.Proofs.YtdgkhoflajdidaaW.PrintMore Go.Proofs.YtdgkhoflajdidaaW.PrintLast Go.Proofs.Ytdgkhoflajdidaa.Print
set_option linter.unusedVariables false
set_option linter.unusedSimpArgs false
/-- The increasing lists of m numbers from frm to n - 1, in lexicographic order. -/
def subs (n : Nat) : Nat → Nat → List (List Int)
 | 0, _ => [[]]
 | m + 1, frm => (List.range' frm (n - m - frm)).flatMap fun i => (subs n m (i + 1)).map ((i : Int) :: ·)
def subsTo (n m frm j : Nat) : List (List Int) := (List.range' frm j).flatMap fun i => (subs n m (i + 1)).map ((i : Int) :: ·)
theorem subsTo_succ (n m frm j : Nat) : subsTo n m frm (j + 1) = subsTo n m frm j ++ (subs n m (frm + j + 1)).map (((frm + j : Nat) : Int) :: ·) := by
 unfold subsTo
 rw [List.range'_1_concat, List.flatMap_append]
 simp
theorem subsTo_none {n m frm j : Nat} {p : List Int → Bool} (h : (subsTo n m frm j).find? p = none) (h2 : (subs n m (frm + j + 1)).find? (fun t => p (((frm + j : Nat) : Int) :: t)) = none) : (subsTo n m frm (j + 1)).find? p = none := by
 rw [subsTo_succ, List.find?_append, h, List.find?_map]
 have : (subs n m (frm + j + 1)).find? (p ∘ (((frm + j : Nat) : Int) :: ·)) = none := h2
 rw [this]
 rfl
theorem subsTo_some {n m frm j : Nat} {p : List Int → Bool} {t : List Int} (h : (subsTo n m frm j).find? p = none) (h2 : (subs n m (frm + j + 1)).find? (fun t => p (((frm + j : Nat) : Int) :: t)) = some t) (hj : j < n - m - frm) : (subs n (m + 1) frm).find? p = some (((frm + j : Nat) : Int) :: t) := by
 have h3 : (subsTo n m frm (j + 1)).find? p = some (((frm + j : Nat) : Int) :: t) := by
  rw [subsTo_succ, List.find?_append, h, List.find?_map]
  have : (subs n m (frm + j + 1)).find? (p ∘ (((frm + j : Nat) : Int) :: ·)) = some t := h2
  rw [this]
  rfl
 obtain ⟨q, hq⟩ : ∃ q, n - m - frm = (j + 1) + q := ⟨_, (Nat.add_sub_cancel' hj).symm⟩
 have h4 : subs n (m + 1) frm = subsTo n m frm (j + 1) ++ (List.range' (frm + (j + 1)) q).flatMap fun i => (subs n m (i + 1)).map ((i : Int) :: ·) := by
  show (List.range' frm (n - m - frm)).flatMap _ = _
  rw [hq, ← List.range'_append_1, List.flatMap_append]
  rfl
 rw [h4, List.find?_append, h3]
 rfl
/-- What the recursion finds. -/
def findS (x : S38) (out : List Int) (m frm : Nat) : Option (List Int) := (subs x.f9.length m frm).find? fun t => posB x (out ++ t)
theorem C_mach {W V : World} {m n : Nat} {A : Option Addr} {xs : List Int} (h : Kd.C (Kd.int .i64) W A xs.length xs) (hk : MachKeep m n W V) (hne : ∀ ad, A = some ad → 0 < xs.length → ¬ (m ≤ ad.block ∧ ad.block < m + n)) : Kd.C (Kd.int .i64) V A xs.length xs := by
 refine ⟨h.1, h.2.1, fun h0 => ?_⟩
 obtain ⟨ad, e, hc⟩ := h.2.2 h0
 refine ⟨ad, e, fun j p hj => ?_⟩
 obtain ⟨c, hs, hr, hcell⟩ := hc j p hj
 refine ⟨c, hs, hr, fun i u hu => ?_⟩
 have h1 := hcell i u hu
 have hb : (ad.add (j * (Kd.int .i64).sz + i)).block = ad.block := by unfold Addr.add; split <;> rfl
 have hlt : (ad.add (j * (Kd.int .i64).sz + i)).block < W.heap.size := by
  obtain ⟨o, ho, _⟩ := cells_of_cell h1
  exact (Array.getElem?_eq_some_iff.1 ho).1
 exact (World.cell?_of_block (hk.block _ hlt (by rw [hb]; exact hne ad e h0))).trans h1
/-- A call of a closure, as an operation of a region. -/
theorem goesV_ {P : Program} {ops : Array Oper} {Q : Exit → Act → World → Prop} {oi : Oper} {N : Option Tmp} {a : Act} {w : World} {K : Act → World → Prop} {f : FuncId} {fn : Func} {t : Tmp} {ars : Array Operand} {ts : Array TypeId} {cap : Array Value} (hf : P.funcs[f]? = some fn) (hname : (fn.name == "runtime.NumGoroutine") = false) (hb : fn.body.isSome = true) (args : Array Value)
    (hw : Region.wanted oi (yielded ops a.tmps) = true) (hN : oi.dst = N) (hop : oi.op = .call { callee := .value (.tmp t), args := ars, argTypes := ts }) (hv : a.eval (.tmp t) = .func (.func f) #[] cap) (hargs : ars.map a.eval ++ cap = args)
    (h : Calls P f args w fun e w' => ∃ v, e = .returned v ∧ K (a.put N v) w') : if Region.wanted oi (yielded ops a.tmps) = true then Oper.wp P oi a w K Q else K (a.put N undef) w := by
 refine call_ f args hw hN ?_ h
 have he := enters_ hf hname hb args w
 unfold execOp
 simp [hop, resolve, Deferred.ofValue, invoke, hv, hargs, he]
/-- What Leave's recursion reads. -/
structure LvOk (cs : List Value) (Bf Bc Bl : Nat) (W : World) : Prop where
 c : Blk W Bc cs.toArray 38
 l : Blk W Bl #[.func (.func 90) #[] #[.pointer (some ⟨Bf, 0, none⟩), .pointer (some ⟨Bc, 0, none⟩), .pointer (some ⟨Bl, 0, none⟩)]] 126
 f : ∃ v, Blk W Bf #[v] 22
 hc : Bc ≠ Bf
 hl : Bl ≠ Bf
theorem LvOk.below {cs : List Value} {Bf Bc Bl : Nat} {W V : World} (h : LvOk cs Bf Bc Bl W) (hb : Below W.heap.size W V) : LvOk cs Bf Bc Bl V := ⟨h.c.below hb, h.l.below hb, h.f.elim fun v hv => ⟨v, hv.below hb⟩, h.hc, h.hl⟩
theorem LvOk.mach {cs : List Value} {Bf Bc Bl : Nat} {W V : World} (h : LvOk cs Bf Bc Bl W) (hk : MachKeep Bf 1 W V) (hf : ∃ v, Blk V Bf #[v] 22) : LvOk cs Bf Bc Bl V := ⟨h.c.mach hk (by have := h.hc; omega), h.l.mach hk (by have := h.hl; omega), hf, h.hc, h.hl⟩
/-- What it leaves. -/
def LvPost (x : S38) (out : List Int) (m frm Bf : Nat) (W : World) (e : Ending) (W' : World) : Prop :=
 MachKeep Bf 1 W W' ∧ ((e = .returned (.bool true) ∧ ∃ t, findS x out m frm = some t ∧ ∃ A c, Blk W' Bf #[.slice A (out ++ t).length c] 22 ∧ Kd.C (Kd.int .i64) W' A (out ++ t).length (out ++ t)) ∨ (e = .returned (.bool false) ∧ findS x out m frm = none ∧ ∃ v, Blk W' Bf #[v] 22))
set_option maxRecDepth 100000 in
set_option maxHeartbeats 4000000 in
theorem leave1_calls (x : S38) (cs : List Value) (w0 : World) (hx : k38.K w0 x cs) (hV : Valid x) (Bf Bc Bl : Nat) (hBf : w0.heap.size ≤ Bf) :
    ∀ (m frm : Nat) (out : List Int) (A : Option Addr) (c : Nat) (W : World), Below w0.heap.size w0 W → LvOk cs Bf Bc Bl W → Kd.C (Kd.int .i64) W A out.length out → (∀ ad, A = some ad → 0 < out.length → ad.block ≠ Bf) → out.length + m ≤ 5 → frm ≤ 6 →
     Calls Try.prog 90 #[.slice A out.length c, .int .i64 frm, .int .i64 m, .pointer (some ⟨Bf, 0, none⟩), .pointer (some ⟨Bc, 0, none⟩), .pointer (some ⟨Bl, 0, none⟩)] W (LvPost x out m frm Bf W) := by
 obtain ⟨A5, c5, A6, c6, A9, c9, A10, c10, hcs, l5, g5, l6, g6, l9, g9, l10, g10⟩ := k38_open hx
 have hrn := hV.rdN
 have HX := Aside0.mk hx
 have HV := Aside0.mk hV
 have HCS := Aside0.mk hcs
 clear hx hV hcs g5 g6 g9 g10 l5 l6 l9 l10
 intro m
 induction m with
 | zero =>
  intro frm out A c W hB hL hC hA hlen hfrm
  obtain ⟨v, hf⟩ := hL.f
  have hfc := hf.cell 0 _ rfl
  have hff := hf.frozen 0
  have hmk : MachKeep Bf 1 W (W.setCell ⟨Bf, 0, none⟩ (.slice A out.length c)) := MachKeep.setCell _ _ (by show Bf ≤ Bf; omega) (by show Bf < Bf + 1; omega)
  have hB2 := hmk.below hB (Nat.le_refl _) hBf
  have hC2 := C_mach hC hmk (fun ad e h0 h => hA ad e h0 (by omega))
  have hL2 := hL.mach hmk ⟨_, hf.set 0 _⟩
  have hcall := possible_calls x cs A c out _ (k38.K_below hB2 HX.out) hC2 HV.out
  have hbc := hL2.c
  have HL2 := Aside0.mk (And.intro hmk (And.intro (hf.set 0 (.slice A out.length c)) hC2))
  rw [HCS.out] at hbc hcall
  have k0 := hbc.cell 0 _ rfl
  have k1 := hbc.cell 1 _ rfl
  have k2 := hbc.cell 2 _ rfl
  have k3 := hbc.cell 3 _ rfl
  have k4 := hbc.cell 4 _ rfl
  have k5 := hbc.cell 5 _ rfl
  have k6 := hbc.cell 6 _ rfl
  have k7 := hbc.cell 7 _ rfl
  have k8 := hbc.cell 8 _ rfl
  have k9 := hbc.cell 9 _ rfl
  have k10 := hbc.cell 10 _ rfl
  have hu := Try.underlying38
  have hfs : findS x out 0 frm = if posB x out then some [] else none := by simp only [findS, subs, List.find?, List.append_nil]; cases posB x out <;> rfl
  have HFS := Lib.hid hfs
  clear hmk hB2 hC2 hL2 hbc hf hfs hL hC hA hB
  cases hp : posB x out with
  | true =>
   have hp2 := hp
   unfold posB at hp2
   rw [hp2] at hcall
   have HP := Lib.hid hp
   clear hp hp2
   go_enter Try.func90, Try.ntmps90
   go_wp2_with (go_at_call 89; refine hcall.mono ?_; rintro e w3 ⟨rfl, hb3⟩; have HB3 := Aside0.mk hb3; clear hb3)
   go_ret
   refine ⟨HL2.out.1.trans (MachKeep.of_below HB3.out), .inl ⟨rfl, [], by rw [HFS.out, HP.out]; rfl, A, c, ?_, ?_⟩⟩
   ·rw [List.append_nil]; exact HL2.out.2.1.below HB3.out
   ·rw [List.append_nil]; exact Kd.C_below HL2.out.2.2 HB3.out
  | false =>
   have hp2 := hp
   unfold posB at hp2
   rw [hp2] at hcall
   have HP := Lib.hid hp
   clear hp hp2
   go_enter Try.func90, Try.ntmps90
   go_wp2_with (go_at_call 89; refine hcall.mono ?_; rintro e w3 ⟨rfl, hb3⟩; have HB3 := Aside0.mk hb3; clear hb3)
   go_ret
   exact ⟨HL2.out.1.trans (MachKeep.of_below HB3.out), .inr ⟨rfl, by rw [HFS.out, HP.out]; rfl, _, HL2.out.2.1.below HB3.out⟩⟩
 | succ m ih =>
  intro frm out A c W hB hL hC hA hlen hfrm
  have hu := Try.underlying38
  have hIH := Aside0.mk ih
  have HL := Aside0.mk hL
  have HC := Aside0.mk hC
  have HA := Aside0.mk hA
  have HB := Aside0.mk hB
  have hmm : ((m + 1 : Nat) : Int) = (m : Int) + 1 := by omega
  generalize ((m + 1 : Nat) : Int) = mm at *
  have hmp : (mm == 0) = false := by simp; omega
  have hmm2 : mm ≤ 5 := by omega
  have hmm3 : 1 ≤ mm := by omega
  have HMM := Lib.hid hmm
  clear ih hL hC hA hB hmm
  go_enter Try.func90, Try.ntmps90
  go_wp2
  go_loopw [10] (fun s10 wr => ∃ j : Nat, j ≤ x.f9.length - m - frm ∧ s10 = .int .i64 ((frm + j : Nat) : Int) ∧ Aside0 (MachKeep Bf 1 W wr ∧ LvOk cs Bf Bc Bl wr ∧ (subsTo x.f9.length m frm j).find? (fun t => posB x (out ++ t)) = none)) (fun s10 _ => (100 - intOf s10).toNat)
  case atStart => exact ⟨0, Nat.zero_le _, by simp, ⟨MachKeep.refl _ _ _, HL.out, rfl⟩⟩
  case round =>
   obtain ⟨j, hj, rfl, HW⟩ := hrel
   have hBw := HW.out.1.below HB.out (Nat.le_refl _) hBf
   have hbc := HW.out.2.1.c
   rw [HCS.out] at hbc
   have k10 := hbc.cell 10 _ rfl
   have hjz : (j : Int) ≥ 0 := by omega
   have hmz : (m : Int) ≤ 5 := by omega
   have hfz : (frm : Int) ≤ 6 := by omega
   have hnz : (x.f9.length : Int) ≤ 5 := by omega
   by_cases hlt : j < x.f9.length - m - frm
   ·have hle : ((frm + j : Nat) : Int) ≤ (x.f9.length : Int) - mm := by have := HMM.out; omega
    have hCw := C_mach HC.out HW.out.1 (fun ad e h0 h => HA.out ad e h0 (by omega))
    have kl := HW.out.2.1.l.cell 0 _ rfl
    have hol : out.length ≤ 1000 := by omega
    have HCw := Aside0.mk hCw
    have hBw0 := Aside0.mk hBw
    have hBfz : Bf < wr.heap.size := HW.out.2.1.f.elim fun v hv => hv.lt
    have hii : ((frm + j : Nat) : Int) ≤ 20 := by omega
    have hi0 : 0 ≤ ((frm + j : Nat) : Int) := by omega
    generalize hi : ((frm + j : Nat) : Int) = i at *
    have HI := Lib.hid hi
    clear hi hCw hBw hbc
    have hstep : ∀ (A6 : Option Addr) (c6 : Nat) (w5 : World), Below wr.heap.size wr w5 → Kd.C (Kd.int .i64) w5 A6 (out ++ [i]).length (out ++ [i]) → (∀ k, (Value.slice A6 (out ++ [i]).length c6).ownBlock = some k → wr.heap.size ≤ k) →
        Calls Try.prog 90 #[.slice A6 (out ++ [i]).length c6, .int .i64 (wrap64 (i + 1)), .int .i64 (wrap64 (mm - 1)), .pointer (some ⟨Bf, 0, none⟩), .pointer (some ⟨Bc, 0, none⟩), .pointer (some ⟨Bl, 0, none⟩)] w5 (LvPost x (out ++ [i]) m (frm + j + 1) Bf w5) := by
     intro A6 c6 w5 hb hc ho
     have h1 := hIH.out (frm + j + 1) (out ++ [i]) A6 c6 w5 (below_then hBw0.out (hBw0.out).size hb) (HW.out.2.1.below hb) hc (fun ad e h0 h => by subst e; have := ho ad.block rfl; omega) (by simp; omega) (by omega)
     rw [IntWalk.wrap64_in (i + 1) (by omega), IntWalk.wrap64_in (mm - 1) (by omega), show mm - 1 = (m : Int) by have := HMM.out; omega, show i + 1 = ((frm + j + 1 : Nat) : Int) by have := HI.out; omega]
     exact h1
    have HST := Aside0.mk hstep
    clear hstep
    have hiz : i ≤ 20 := hii
    cases hfs : findS x (out ++ [i]) m (frm + j + 1) with
    | some t =>
     have HSS := Aside0.mk (fun A6 c6 w5 h1 h2 h3 => (HST.out A6 c6 w5 h1 h2 h3).mono (R' := fun e W' => e = .returned (.bool true) ∧ MachKeep Bf 1 w5 W' ∧ ∃ A c, Blk W' Bf #[.slice A ((out ++ [i]) ++ t).length c] 22 ∧ Kd.C (Kd.int .i64) W' A ((out ++ [i]) ++ t).length ((out ++ [i]) ++ t))
      (fun e W' h => by
       rcases h.2 with ⟨h1, t', ht, hr⟩ | ⟨_, ht, _⟩
       ·rw [hfs] at ht; cases ht; exact ⟨h1, h.1, hr⟩
       ·rw [hfs] at ht; cases ht))
     have HFS := Lib.hid hfs
     clear hfs
     go_wp2
     refine start_ (n := 11) (S := fun w' => w'.cell? ⟨Bl, 0, none⟩ = some (.func (.func 90) #[] #[.pointer (some ⟨Bf, 0, none⟩), .pointer (some ⟨Bc, 0, none⟩), .pointer (some ⟨Bl, 0, none⟩)])) (ds := [10]) #[false, false, false, false, false, false, false, false, false, false, false] (by kernel_rfl) rfl rfl (kl) (fun hHeld => ?_)
     refine pure_ (i := 1) (N := some 28) (v := ?_) (a' := ?_) (bs 11 2) rfl rfl (by kernel_rfl) (fun _ _ _ h => h) (Or.inl ⟨by rfl, ?_⟩) ?_ ?_
     rotate_left
     ·intro w'
      go_simp
      with_reducible rfl
     rotate_left
     ·simp only [Act.put, List.setIfInBounds_toArray, List.set_cons_zero, List.set_cons_succ, i64_w, i32_w]
      rfl
     refine pure_ (i := 3) (N := some 30) (v := ?_) (a' := ?_) (bs 11 10) rfl rfl (by kernel_rfl) (fun _ _ _ h => h) (Or.inl ⟨by rfl, ?_⟩) ?_ ?_
     rotate_left
     ·intro w'
      go_simp
      with_reducible rfl
     rotate_left
     ·simp only [Act.put, List.setIfInBounds_toArray, List.set_cons_zero, List.set_cons_succ, i64_w, i32_w]
      rfl
     refine pure_ (i := 6) (N := some 33) (v := ?_) (a' := ?_) (bs 11 74) rfl rfl (by kernel_rfl) (fun _ _ _ h => h) (Or.inl ⟨by rfl, ?_⟩) ?_ ?_
     rotate_left
     ·intro w'
      go_simp
      with_reducible rfl
     rotate_left
     ·simp only [Act.put, List.setIfInBounds_toArray, List.set_cons_zero, List.set_cons_succ, i64_w, i32_w]
      rfl
     refine pure_ (i := 7) (N := some 34) (v := ?_) (a' := ?_) (bs 11 202) rfl rfl (by kernel_rfl) (fun _ _ _ h => h) (Or.inl ⟨by rfl, ?_⟩) ?_ ?_
     rotate_left
     ·intro w'
      go_simp
      with_reducible rfl
     rotate_left
     ·simp only [Act.put, List.setIfInBounds_toArray, List.set_cons_zero, List.set_cons_succ, i64_w, i32_w]
      rfl
     refine pure_ (i := 8) (N := some 35) (v := ?_) (a' := ?_) (bs 11 458) rfl rfl (by kernel_rfl) (fun _ _ _ h => h) (Or.inl ⟨by rfl, ?_⟩) ?_ ?_
     rotate_left
     ·intro w'
      go_simp
      with_reducible rfl
     rotate_left
     ·simp only [Act.put, List.setIfInBounds_toArray, List.set_cons_zero, List.set_cons_succ, i64_w, i32_w]
      rfl
     refine pure_ (i := 9) (N := some 36) (v := ?_) (a' := ?_) (bs 11 970) rfl rfl (by kernel_rfl) (fun _ _ _ h => h) (Or.inl ⟨by rfl, ?_⟩) ?_ ?_
     rotate_left
     ·intro w'
      go_simp
      with_reducible rfl
     rotate_left
     ·simp only [Act.put, List.setIfInBounds_toArray, List.set_cons_zero, List.set_cons_succ, i64_w, i32_w]
      rfl
     refine take_ (i := 0) (N := some 27) (v := ?_) (a' := ?_) (bs 11 971) rfl rfl (by kernel_rfl) (fun _ _ _ h => h) (Or.inl ⟨by rfl, ?_⟩) hHeld ?_ ?_
     rotate_left
     ·intro w' s0
      go_simp
      with_reducible rfl
     rotate_left
     ·simp only [Act.put, List.setIfInBounds_toArray, List.set_cons_zero, List.set_cons_succ, i64_w, i32_w]
      rfl
     refine join_ (σ := Value × Nat) 2 (bs 11 991) (fun s => [(29, s.1), (31, .slice (some ⟨s.2, 0, none⟩) 1 1)]) (fun s w' => (w'.cell? ⟨Bl, 0, none⟩ = some (.func (.func 90) #[] #[.pointer (some ⟨Bf, 0, none⟩), .pointer (some ⟨Bc, 0, none⟩), .pointer (some ⟨Bl, 0, none⟩)])) ∧ w'.ownsRow wr.heap.size 3 1 s.1 out.length (nums .i64 out) ∧ Blk w' s.2 #[.int .i64 i] 3 ∧ Below wr.heap.size wr w') ?_ ?_
     rotate_left
     ·intro hCont
      refine two_ (i := 2) (j := 4) (Ni := some 29) (Nj := some 31) (bs 11 975) (bs 11 987) rfl rfl rfl rfl (by kernel_rfl) (by decide) (by decide) (fun K hK => ?_) (fun K hK => ?_)
      ·skip
       refine goes_ Try.func91 (by kernel_rfl) rfl #[.slice A out.length c] (by rfl) rfl rfl (by simp only [List.map_toArray, List.map_cons, List.map_nil]; rfl) ?_
       with_reducible refine (clone_calls A c out _ (Kd.C_below HCw.out (below_drew (Below.refl _ wr))) hol).mono ?_
       rintro e w3 ⟨v3, rfl, ho3, hb3⟩
       refine ⟨_, rfl, ?_⟩
       refine hK.out _ _ (pw_cell_below hb3 hHeld) (fun hHeld => ?_)
       clear hK K
       refine norm_ (a' := ?_) ?_ ?_
       rotate_left
       ·show Act.put _ (some 29) _ = _
        simp only [Act.put, List.setIfInBounds_toArray, List.set_cons_zero, List.set_cons_succ, i64_w, i32_w]
        rfl
       refine one_ (i := 4) (N := some 31) (bs 11 991) rfl rfl (by kernel_rfl) (by decide) (fun K hK => ?_)
       refine value_ (w1 := ?_) (v := ?_) (by rfl) rfl ?_ ?_
       rotate_left 2
       ·go_simp
        constructor
        ·rfl
        ·rfl
       refine hK.out _ _ (cell_al _ hHeld) (fun hHeld => ?_)
       clear hK K
       refine norm_ (a' := ?_) ?_ ?_
       rotate_left
       ·show Act.put _ (some 31) _ = _
        simp only [Act.put, List.setIfInBounds_toArray, List.set_cons_zero, List.set_cons_succ, i64_w, i32_w]
        rfl
       exact norm_ (by simp only [putAll, Act.put, List.setIfInBounds_toArray, List.set_cons_zero, List.set_cons_succ]) (hCont (v3, w3.heap.size) _ ⟨hHeld, (own_weaken ho3 (Nat.le_refl wr.heap.size)).alloc _, Blk.new _ _ _ _ rfl, below_alloc (bel2 (below_drew (Below.refl _ _)) hb3) _⟩)
      ·skip
       refine value_ (w1 := ?_) (v := ?_) (by rfl) rfl ?_ ?_
       rotate_left 2
       ·go_simp
        constructor
        ·rfl
        ·rfl
       refine hK.out _ _ (cell_al _ hHeld) (fun hHeld => ?_)
       clear hK K
       refine norm_ (a' := ?_) ?_ ?_
       rotate_left
       ·show Act.put _ (some 31) _ = _
        simp only [Act.put, List.setIfInBounds_toArray, List.set_cons_zero, List.set_cons_succ, i64_w, i32_w]
        rfl
       refine one_ (i := 2) (N := some 29) (bs 11 991) rfl rfl (by kernel_rfl) (by decide) (fun K hK => ?_)
       refine goes_ Try.func91 (by kernel_rfl) rfl #[.slice A out.length c] (by rfl) rfl rfl (by simp only [List.map_toArray, List.map_cons, List.map_nil]; rfl) ?_
       with_reducible refine (clone_calls A c out _ (Kd.C_below HCw.out (below_drew (below_alloc (Below.refl _ wr) _))) hol).mono ?_
       rintro e w3 ⟨v3, rfl, ho3, hb3⟩
       refine ⟨_, rfl, ?_⟩
       refine hK.out _ _ (pw_cell_below hb3 hHeld) (fun hHeld => ?_)
       clear hK K
       refine norm_ (a' := ?_) ?_ ?_
       rotate_left
       ·show Act.put _ (some 29) _ = _
        simp only [Act.put, List.setIfInBounds_toArray, List.set_cons_zero, List.set_cons_succ, i64_w, i32_w]
        rfl
       exact norm_ (by simp only [putAll, Act.put, List.setIfInBounds_toArray, List.set_cons_zero, List.set_cons_succ]) (hCont (v3, wr.heap.size) _ ⟨hHeld, own_weaken ho3 (by show wr.heap.size ≤ (wr.alloc _).heap.size; simp), (Blk.drew (Blk.new wr _ _ _ rfl)).below hb3, bel2 (below_drew (below_alloc (Below.refl _ _) _)) hb3⟩)
     rintro ⟨v4, p4⟩ w4 ⟨hHeld, ho4, hbk4, hb4⟩
     refine norm_ (a' := ?_) ?_ ?_
     rotate_left
     ·simp only [putAll, Act.put, List.setIfInBounds_toArray, List.set_cons_zero, List.set_cons_succ]
      rfl
     refine one_ (i := 5) (N := some 32) (bs 11 1023) rfl rfl (by kernel_rfl) (by decide) (fun K hK => ?_)
     refine append_op (w := w4) (.tmp 29) (.tmp 31) 22 3 (.int .i64 0) 8 (by rfl) rfl rfl info3 rfl (by decide) wr.heap.size v4 (nums .i64 out) (.int .i64 i) p4 1 rfl rfl (by simpa [nums] using ho4) (hbk4.cell 0 _ rfl) rfl (by simp [nums]; omega) hb4.size ?_
     intro v5 w5 ho5 hg5 hat5
     have hb5 : Below wr.heap.size wr w5 := hb4.grown hg5 hb4.size (own_base ho4)
     have hbs5 := own_base ho5
     obtain ⟨A6, c6', hv6, hl6, hC6⟩ := own_C (Kd.int .i64) (.int .i64) rfl (fun _ _ => rfl) (xs := out ++ [i]) (by simp [nums]) rfl ho5
     subst hv6
     refine hK.out _ _ (pw_cell_below hb5 kl) (fun hHeld => ?_)
     clear hK K
     refine norm_ (a' := ?_) ?_ ?_
     rotate_left
     ·show Act.put _ (some 32) _ = _
      simp only [Act.put, List.setIfInBounds_toArray, List.set_cons_zero, List.set_cons_succ, i64_w, i32_w]
      rfl
     refine last_ (i := 10) (N := some 37) (bs 11 2047) rfl rfl (by kernel_rfl) (by decide) (fun K hK => ?_)
     refine goesV_ Try.func90 (by kernel_rfl) rfl #[.slice A6 (out ++ [i]).length c6',   .int .i64 (wrap64 (i + 1)), .int .i64 (wrap64 (mm - 1)), .pointer (some ⟨Bf, 0, none⟩), .pointer (some ⟨Bc, 0, none⟩), .pointer (some ⟨Bl, 0, none⟩)] (by rfl) rfl rfl rfl (by simp only [List.map_toArray, List.map_cons, List.map_nil]; rfl) ?_
     with_reducible refine (HSS.out _ _ w5 hb5 hC6 hbs5).mono ?_
     rintro e w6 ⟨rfl, hmk6, hR6⟩
     refine ⟨_, rfl, ?_⟩
     refine hK.out _ _ ?_
     clear hK K
     refine norm_ (a' := ?_) ?_ ?_
     rotate_left
     ·show Act.put _ (some 37) _ = _
      simp only [Act.put, List.setIfInBounds_toArray, List.set_cons_zero, List.set_cons_succ, i64_w, i32_w]
      rfl
     refine done_ (by kernel_rfl) ?_
     have HQ : Aside0 (LvPost x out (m + 1) frm Bf W (.returned (.bool true)) w6) := by
      obtain ⟨A7, c7, hb7, hc7⟩ := hR6
      refine ⟨(HW.out.1.trans (MachKeep.of_below hb5)).trans hmk6, .inl ⟨rfl, i :: t, ?_, A7, c7, ?_, ?_⟩⟩
      ·have h1 := HFS.out
       unfold findS at h1
       have h2 := subsTo_some (p := fun t => posB x (out ++ t)) (t := t) HW.out.2.2 (by rw [HI.out]; simpa [List.append_assoc] using h1) hlt
       rw [HI.out] at h2
       exact h2
      ·rw [show out ++ i :: t = (out ++ [i]) ++ t by simp]; exact hb7
      ·rw [show out ++ i :: t = (out ++ [i]) ++ t by simp]; exact hc7
     clear hR6 hmk6 hC6 ho5 ho4 hbk4 hb4 hb5 hg5 hat5 hHeld
     go_wp2
     go_ret
     exact HQ.out
    | none =>
     have HSS := Aside0.mk (fun A6 c6 w5 h1 h2 h3 => (HST.out A6 c6 w5 h1 h2 h3).mono (R' := fun e W' => e = .returned (.bool false) ∧ MachKeep Bf 1 w5 W' ∧ ∃ v, Blk W' Bf #[v] 22)
      (fun e W' h => by
       rcases h.2 with ⟨h1, t', ht, hr⟩ | ⟨h1, ht, hr⟩
       ·rw [hfs] at ht; cases ht
       ·exact ⟨h1, h.1, hr⟩))
     have HFS := Lib.hid hfs
     clear hfs
     go_wp2
     refine start_ (n := 11) (S := fun w' => w'.cell? ⟨Bl, 0, none⟩ = some (.func (.func 90) #[] #[.pointer (some ⟨Bf, 0, none⟩), .pointer (some ⟨Bc, 0, none⟩), .pointer (some ⟨Bl, 0, none⟩)])) (ds := [10]) #[false, false, false, false, false, false, false, false, false, false, false] (by kernel_rfl) rfl rfl (kl) (fun hHeld => ?_)
     refine pure_ (i := 1) (N := some 28) (v := ?_) (a' := ?_) (bs 11 2) rfl rfl (by kernel_rfl) (fun _ _ _ h => h) (Or.inl ⟨by rfl, ?_⟩) ?_ ?_
     rotate_left
     ·intro w'
      go_simp
      with_reducible rfl
     rotate_left
     ·simp only [Act.put, List.setIfInBounds_toArray, List.set_cons_zero, List.set_cons_succ, i64_w, i32_w]
      rfl
     refine pure_ (i := 3) (N := some 30) (v := ?_) (a' := ?_) (bs 11 10) rfl rfl (by kernel_rfl) (fun _ _ _ h => h) (Or.inl ⟨by rfl, ?_⟩) ?_ ?_
     rotate_left
     ·intro w'
      go_simp
      with_reducible rfl
     rotate_left
     ·simp only [Act.put, List.setIfInBounds_toArray, List.set_cons_zero, List.set_cons_succ, i64_w, i32_w]
      rfl
     refine pure_ (i := 6) (N := some 33) (v := ?_) (a' := ?_) (bs 11 74) rfl rfl (by kernel_rfl) (fun _ _ _ h => h) (Or.inl ⟨by rfl, ?_⟩) ?_ ?_
     rotate_left
     ·intro w'
      go_simp
      with_reducible rfl
     rotate_left
     ·simp only [Act.put, List.setIfInBounds_toArray, List.set_cons_zero, List.set_cons_succ, i64_w, i32_w]
      rfl
     refine pure_ (i := 7) (N := some 34) (v := ?_) (a' := ?_) (bs 11 202) rfl rfl (by kernel_rfl) (fun _ _ _ h => h) (Or.inl ⟨by rfl, ?_⟩) ?_ ?_
     rotate_left
     ·intro w'
      go_simp
      with_reducible rfl
     rotate_left
     ·simp only [Act.put, List.setIfInBounds_toArray, List.set_cons_zero, List.set_cons_succ, i64_w, i32_w]
      rfl
     refine pure_ (i := 8) (N := some 35) (v := ?_) (a' := ?_) (bs 11 458) rfl rfl (by kernel_rfl) (fun _ _ _ h => h) (Or.inl ⟨by rfl, ?_⟩) ?_ ?_
     rotate_left
     ·intro w'
      go_simp
      with_reducible rfl
     rotate_left
     ·simp only [Act.put, List.setIfInBounds_toArray, List.set_cons_zero, List.set_cons_succ, i64_w, i32_w]
      rfl
     refine pure_ (i := 9) (N := some 36) (v := ?_) (a' := ?_) (bs 11 970) rfl rfl (by kernel_rfl) (fun _ _ _ h => h) (Or.inl ⟨by rfl, ?_⟩) ?_ ?_
     rotate_left
     ·intro w'
      go_simp
      with_reducible rfl
     rotate_left
     ·simp only [Act.put, List.setIfInBounds_toArray, List.set_cons_zero, List.set_cons_succ, i64_w, i32_w]
      rfl
     refine take_ (i := 0) (N := some 27) (v := ?_) (a' := ?_) (bs 11 971) rfl rfl (by kernel_rfl) (fun _ _ _ h => h) (Or.inl ⟨by rfl, ?_⟩) hHeld ?_ ?_
     rotate_left
     ·intro w' s0
      go_simp
      with_reducible rfl
     rotate_left
     ·simp only [Act.put, List.setIfInBounds_toArray, List.set_cons_zero, List.set_cons_succ, i64_w, i32_w]
      rfl
     refine join_ (σ := Value × Nat) 2 (bs 11 991) (fun s => [(29, s.1), (31, .slice (some ⟨s.2, 0, none⟩) 1 1)]) (fun s w' => (w'.cell? ⟨Bl, 0, none⟩ = some (.func (.func 90) #[] #[.pointer (some ⟨Bf, 0, none⟩), .pointer (some ⟨Bc, 0, none⟩), .pointer (some ⟨Bl, 0, none⟩)])) ∧ w'.ownsRow wr.heap.size 3 1 s.1 out.length (nums .i64 out) ∧ Blk w' s.2 #[.int .i64 i] 3 ∧ Below wr.heap.size wr w') ?_ ?_
     rotate_left
     ·intro hCont
      refine two_ (i := 2) (j := 4) (Ni := some 29) (Nj := some 31) (bs 11 975) (bs 11 987) rfl rfl rfl rfl (by kernel_rfl) (by decide) (by decide) (fun K hK => ?_) (fun K hK => ?_)
      ·skip
       refine goes_ Try.func91 (by kernel_rfl) rfl #[.slice A out.length c] (by rfl) rfl rfl (by simp only [List.map_toArray, List.map_cons, List.map_nil]; rfl) ?_
       with_reducible refine (clone_calls A c out _ (Kd.C_below HCw.out (below_drew (Below.refl _ wr))) hol).mono ?_
       rintro e w3 ⟨v3, rfl, ho3, hb3⟩
       refine ⟨_, rfl, ?_⟩
       refine hK.out _ _ (pw_cell_below hb3 hHeld) (fun hHeld => ?_)
       clear hK K
       refine norm_ (a' := ?_) ?_ ?_
       rotate_left
       ·show Act.put _ (some 29) _ = _
        simp only [Act.put, List.setIfInBounds_toArray, List.set_cons_zero, List.set_cons_succ, i64_w, i32_w]
        rfl
       refine one_ (i := 4) (N := some 31) (bs 11 991) rfl rfl (by kernel_rfl) (by decide) (fun K hK => ?_)
       refine value_ (w1 := ?_) (v := ?_) (by rfl) rfl ?_ ?_
       rotate_left 2
       ·go_simp
        constructor
        ·rfl
        ·rfl
       refine hK.out _ _ (cell_al _ hHeld) (fun hHeld => ?_)
       clear hK K
       refine norm_ (a' := ?_) ?_ ?_
       rotate_left
       ·show Act.put _ (some 31) _ = _
        simp only [Act.put, List.setIfInBounds_toArray, List.set_cons_zero, List.set_cons_succ, i64_w, i32_w]
        rfl
       exact norm_ (by simp only [putAll, Act.put, List.setIfInBounds_toArray, List.set_cons_zero, List.set_cons_succ]) (hCont (v3, w3.heap.size) _ ⟨hHeld, (own_weaken ho3 (Nat.le_refl wr.heap.size)).alloc _, Blk.new _ _ _ _ rfl, below_alloc (bel2 (below_drew (Below.refl _ _)) hb3) _⟩)
      ·skip
       refine value_ (w1 := ?_) (v := ?_) (by rfl) rfl ?_ ?_
       rotate_left 2
       ·go_simp
        constructor
        ·rfl
        ·rfl
       refine hK.out _ _ (cell_al _ hHeld) (fun hHeld => ?_)
       clear hK K
       refine norm_ (a' := ?_) ?_ ?_
       rotate_left
       ·show Act.put _ (some 31) _ = _
        simp only [Act.put, List.setIfInBounds_toArray, List.set_cons_zero, List.set_cons_succ, i64_w, i32_w]
        rfl
       refine one_ (i := 2) (N := some 29) (bs 11 991) rfl rfl (by kernel_rfl) (by decide) (fun K hK => ?_)
       refine goes_ Try.func91 (by kernel_rfl) rfl #[.slice A out.length c] (by rfl) rfl rfl (by simp only [List.map_toArray, List.map_cons, List.map_nil]; rfl) ?_
       with_reducible refine (clone_calls A c out _ (Kd.C_below HCw.out (below_drew (below_alloc (Below.refl _ wr) _))) hol).mono ?_
       rintro e w3 ⟨v3, rfl, ho3, hb3⟩
       refine ⟨_, rfl, ?_⟩
       refine hK.out _ _ (pw_cell_below hb3 hHeld) (fun hHeld => ?_)
       clear hK K
       refine norm_ (a' := ?_) ?_ ?_
       rotate_left
       ·show Act.put _ (some 29) _ = _
        simp only [Act.put, List.setIfInBounds_toArray, List.set_cons_zero, List.set_cons_succ, i64_w, i32_w]
        rfl
       exact norm_ (by simp only [putAll, Act.put, List.setIfInBounds_toArray, List.set_cons_zero, List.set_cons_succ]) (hCont (v3, wr.heap.size) _ ⟨hHeld, own_weaken ho3 (by show wr.heap.size ≤ (wr.alloc _).heap.size; simp), (Blk.drew (Blk.new wr _ _ _ rfl)).below hb3, bel2 (below_drew (below_alloc (Below.refl _ _) _)) hb3⟩)
     rintro ⟨v4, p4⟩ w4 ⟨hHeld, ho4, hbk4, hb4⟩
     refine norm_ (a' := ?_) ?_ ?_
     rotate_left
     ·simp only [putAll, Act.put, List.setIfInBounds_toArray, List.set_cons_zero, List.set_cons_succ]
      rfl
     refine one_ (i := 5) (N := some 32) (bs 11 1023) rfl rfl (by kernel_rfl) (by decide) (fun K hK => ?_)
     refine append_op (w := w4) (.tmp 29) (.tmp 31) 22 3 (.int .i64 0) 8 (by rfl) rfl rfl info3 rfl (by decide) wr.heap.size v4 (nums .i64 out) (.int .i64 i) p4 1 rfl rfl (by simpa [nums] using ho4) (hbk4.cell 0 _ rfl) rfl (by simp [nums]; omega) hb4.size ?_
     intro v5 w5 ho5 hg5 hat5
     have hb5 : Below wr.heap.size wr w5 := hb4.grown hg5 hb4.size (own_base ho4)
     have hbs5 := own_base ho5
     obtain ⟨A6, c6', hv6, hl6, hC6⟩ := own_C (Kd.int .i64) (.int .i64) rfl (fun _ _ => rfl) (xs := out ++ [i]) (by simp [nums]) rfl ho5
     subst hv6
     refine hK.out _ _ (pw_cell_below hb5 kl) (fun hHeld => ?_)
     clear hK K
     refine norm_ (a' := ?_) ?_ ?_
     rotate_left
     ·show Act.put _ (some 32) _ = _
      simp only [Act.put, List.setIfInBounds_toArray, List.set_cons_zero, List.set_cons_succ, i64_w, i32_w]
      rfl
     refine last_ (i := 10) (N := some 37) (bs 11 2047) rfl rfl (by kernel_rfl) (by decide) (fun K hK => ?_)
     refine goesV_ Try.func90 (by kernel_rfl) rfl #[.slice A6 (out ++ [i]).length c6',   .int .i64 (wrap64 (i + 1)), .int .i64 (wrap64 (mm - 1)), .pointer (some ⟨Bf, 0, none⟩), .pointer (some ⟨Bc, 0, none⟩), .pointer (some ⟨Bl, 0, none⟩)] (by rfl) rfl rfl rfl (by simp only [List.map_toArray, List.map_cons, List.map_nil]; rfl) ?_
     with_reducible refine (HSS.out _ _ w5 hb5 hC6 hbs5).mono ?_
     rintro e w6 ⟨rfl, hmk6, hR6⟩
     refine ⟨_, rfl, ?_⟩
     refine hK.out _ _ ?_
     clear hK K
     refine norm_ (a' := ?_) ?_ ?_
     rotate_left
     ·show Act.put _ (some 37) _ = _
      simp only [Act.put, List.setIfInBounds_toArray, List.set_cons_zero, List.set_cons_succ, i64_w, i32_w]
      rfl
     refine done_ (by kernel_rfl) ?_
     have hmkw : MachKeep Bf 1 W w6 := (HW.out.1.trans (MachKeep.of_below hb5)).trans hmk6
     have hnew : (subsTo x.f9.length m frm (j + 1)).find? (fun t => posB x (out ++ t)) = none := by
      have h1 := HFS.out
      unfold findS at h1
      exact subsTo_none (p := fun t => posB x (out ++ t)) HW.out.2.2 (by rw [HI.out]; simpa [List.append_assoc] using h1)
     have HQ := Aside0.mk (And.intro hmkw (And.intro ((HW.out.2.1.below hb5).mach hmk6 hR6) hnew))
     clear hmkw hnew hR6 hmk6 hC6 ho5 ho4 hbk4 hb4 hb5 hg5 hat5 hHeld
     go_wp2
     go_roundw
     case rel => exact ⟨j + 1, by omega, by have := HI.out; rw [show ((frm + (j + 1) : Nat) : Int) = i + 1 by omega], HQ⟩
     case measure => simp [intOf]; omega
   ·have hle : (x.f9.length : Int) - mm < ((frm + j : Nat) : Int) := by have := HMM.out; omega
    have hjn : j = x.f9.length - m - frm := by omega
    have HN : Aside0 (findS x out (m + 1) frm = none) := by
     refine ⟨?_⟩
     have := HW.out.2.2
     rw [hjn] at this
     exact this
    go_wp2
    go_ret
    exact ⟨HW.out.1, .inr ⟨rfl, HN.out, HW.out.2.1.f⟩⟩
end Go.Proofs.Ytdgkhoflajdidaa
/- Leave. -/
namespace Go.Proofs.Ytdgkhoflajdidaa
open Go.RowKit Go.Proofs.YtdgkhoflajdidaaW.PrintWords Go.Proofs.YtdgkhoflajdidaaW.PrintMore Go.Proofs.YtdgkhoflajdidaaW.PrintLast Go.Proofs.Ytdgkhoflajdidaa.Print
set_option linter.unusedVariables false
set_option linter.unusedSimpArgs false
/-- Five numbers as a scene's losses. -/
def mkSc (h : Int) (L : Nat → Int) : Sc := ⟨h, L 0, L 1, L 2, L 3, L 4⟩
theorem mkSc_loss (h : Int) (L : Nat → Int) (k : Nat) (hk : k < 5) : (mkSc h L).loss k = L k := by
 match k, hk with
 | 0, _ => rfl
 | 1, _ => rfl
 | 2, _ => rfl
 | 3, _ => rfl
 | 4, _ => rfl
theorem allSc_some {x : S38} (hv : Valid x) : ∃ s, s ∈ allSc x := by
 refine ⟨mkSc x.f7.f0 fun k => if (k : Int) ≤ x.f0 then (x.f8.getD k z35).f0 else 0, (mem_allSc hv).2 ⟨⟨by simp [mkSc], by have := hv.heat1; simpa [mkSc] using this⟩, fun k hk => ?_, fun k hk => ?_⟩⟩
 ·have h1 := hv.last1
  rw [mkSc_loss _ _ k (by omega), if_pos hk]
  have hlt : k < x.f8.length := by have := hv.lossN; omega
  have := hv.lossV _ (List.getElem_mem hlt)
  rw [show x.f8.getD k z35 = x.f8[k] by simp [hlt]]
  omega
 ·by_cases h5 : k < 5
  ·rw [mkSc_loss _ _ k h5, if_neg (by omega)]
  ·exact Sc.loss_far _ (by omega)
theorem subs_full (n : Nat) : ∀ (m frm : Nat), frm + m = n → ∃ t ∈ subs n m frm, ∀ i : Nat, frm ≤ i → i < n → (i : Int) ∈ t
 | 0, frm, h => ⟨[], by simp [subs], fun i h1 h2 => by omega⟩
 | m + 1, frm, h => by
  obtain ⟨t, ht, hi⟩ := subs_full n m (frm + 1) (by omega)
  refine ⟨(frm : Int) :: t, ?_, fun i h1 h2 => ?_⟩
  ·simp only [subs, List.mem_flatMap, List.mem_map]
   exact ⟨frm, by rw [List.mem_range'_1]; omega, t, ht, rfl⟩
  ·by_cases e : i = frm
   ·subst e; exact List.mem_cons_self ..
   ·exact List.mem_cons_of_mem _ (hi i (by omega) h2)
theorem findS_full {x : S38} (hv : Valid x) : findS x [] x.f9.length 0 ≠ none := by
 obtain ⟨t, ht, hi⟩ := subs_full x.f9.length x.f9.length 0 (by omega)
 obtain ⟨s, hs⟩ := allSc_some hv
 intro h
 unfold findS at h
 have h1 := List.find?_eq_none.1 h t ht
 apply h1
 show posB x ([] ++ t) = true
 rw [List.nil_append]
 unfold posB
 rw [List.any_eq_true]
 refine ⟨s, hs, rightB_true fun k hk => ?_⟩
 unfold okAt
 rw [Bool.or_eq_true]
 exact .inl (List.any_eq_true.2 ⟨(k : Int), hi k (Nat.zero_le _) hk, by simp⟩)
/-- What Leave returns. -/
def leaveF (x : S38) : List Int × Int := if faultC x = 0 then (((List.range (x.f9.length + 1)).findSome? fun m => findS x [] m 0).getD [], 0) else ([], faultC x)
theorem leaveF_hit {x : S38} (hv : faultC x = 0) {m : Nat} {t : List Int} (hm : m ≤ x.f9.length) (h1 : findS x [] m 0 = some t) (h2 : ∀ j, j < m → findS x [] j 0 = none) : leaveF x = (t, 0) := by
 unfold leaveF
 rw [if_pos hv]
 have : (List.range (x.f9.length + 1)).findSome? (fun m => findS x [] m 0) = some t := by
  rw [List.findSome?_eq_some_iff]
  refine ⟨List.range m, m, List.range' (m + 1) (x.f9.length - m), ?_, h1, fun j hj => h2 j (List.mem_range.1 hj)⟩
  rw [List.range_eq_range', List.range_eq_range', show x.f9.length + 1 = m + (1 + (x.f9.length - m)) by omega, ← List.range'_append_1, ← List.range'_append_1]
  simp
 rw [this]
 rfl
theorem leaveF_bad {x : S38} (hv : ¬ faultC x = 0) : leaveF x = ([], faultC x) := by unfold leaveF; rw [if_neg hv]
set_option maxRecDepth 100000 in
set_option maxHeartbeats 4000000 in
theorem leave_calls (x : S38) (cs : List Value) (w : World) (hx : k38.K w x cs) :
    Calls Try.prog 36 #[.agg cs.toArray] w fun e w' => ∃ A c, e = .returned (.tuple #[.slice A (leaveF x).1.length c, .int .i64 (leaveF x).2]) ∧ Kd.C (Kd.int .i64) w' A (leaveF x).1.length (leaveF x).1 ∧ Below w.heap.size w w' := by
 have hb0 := fun o => below_alloc (Below.refl w.heap.size w) o
 have hchk := fun o => check_calls x cs (w.alloc o) (k38.K_below (hb0 o) hx)
 have HX := Aside0.mk hx
 obtain ⟨A5, c5, A6, c6, A9, c9, A10, c10, hcs, l5, g5, l6, g6, l9, g9, l10, g10⟩ := k38_open hx
 have hln := g10.2.1
 subst hcs
 clear hx g5 g6 g9 g10 l5 l6 l9 l10
 have hu := Try.underlying38
 by_cases hv : faultC x = 0
 ·have HV := Aside0.mk ((valid_iff x).1 hv)
  have HF := Lib.hid hv
  have hrn := HV.out.rdN
  rw [hv] at hchk
  clear hv
  go_enter Try.func36, Try.ntmps36
  go_wp2_with (go_at_call 58; refine (hchk _).mono ?_; rintro e w1 ⟨rfl, hb1⟩; have hB := bel2 (hb0 _) hb1; have BC := (Blk.new w _ 38 _ rfl).below hb1; have hlz := BC.lt; have kc10 := BC.cell 10 _ rfl; have HB := Aside0.mk hB; have HBC := Aside0.mk BC; clear hB BC hb1)
  have hb2 : Below w1.heap.size w1 ((w1.alloc (.cells #[.slice none 0 0] 22)).alloc (.cells #[(.func (.func 90) #[] #[.pointer (some ⟨w1.heap.size, 0, none⟩), .pointer (some ⟨w.heap.size, 0, none⟩), .pointer (some ⟨w1.heap.size + 1, 0, none⟩)])] 126)) := below_alloc (below_alloc (Below.refl _ _) _) _
  have hbf : Blk ((w1.alloc (.cells #[.slice none 0 0] 22)).alloc (.cells #[(.func (.func 90) #[] #[.pointer (some ⟨w1.heap.size, 0, none⟩), .pointer (some ⟨w.heap.size, 0, none⟩), .pointer (some ⟨w1.heap.size + 1, 0, none⟩)])] 126)) w1.heap.size #[.slice none 0 0] 22 := (Blk.new _ _ _ _ rfl).alloc _
  have hbl : Blk ((w1.alloc (.cells #[.slice none 0 0] 22)).alloc (.cells #[(.func (.func 90) #[] #[.pointer (some ⟨w1.heap.size, 0, none⟩), .pointer (some ⟨w.heap.size, 0, none⟩), .pointer (some ⟨w1.heap.size + 1, 0, none⟩)])] 126)) (w1.heap.size + 1) #[(.func (.func 90) #[] #[.pointer (some ⟨w1.heap.size, 0, none⟩), .pointer (some ⟨w.heap.size, 0, none⟩), .pointer (some ⟨w1.heap.size + 1, 0, none⟩)])] 126 := Blk.new _ _ _ _ (by simp)
  generalize ((w1.alloc (.cells #[.slice none 0 0] 22)).alloc (.cells #[(.func (.func 90) #[] #[.pointer (some ⟨w1.heap.size, 0, none⟩), .pointer (some ⟨w.heap.size, 0, none⟩), .pointer (some ⟨w1.heap.size + 1, 0, none⟩)])] 126)) = W0 at hb2 hbf hbl ⊢
  have hL0 : LvOk [.int .i64 x.f0, .int .i64 x.f1, .int .i64 x.f2, .int .i64 x.f3, .int .i64 x.f4, .slice A5 x.f5.length c5, .slice A6 x.f6.length c6, .int .i64 x.f7.f0, .int .i64 x.f7.f1, .slice A9 x.f8.length c9, .slice A10 x.f9.length c10] w1.heap.size w.heap.size (w1.heap.size + 1) W0 := ⟨HBC.out.below hb2, hbl, ⟨_, hbf⟩, by omega, by omega⟩
  have hB0 : Below w.heap.size w W0 := bel2 HB.out hb2
  generalize w1.heap.size = g at *
  have hstep := fun (m : Nat) W (hm : m ≤ 5) (hB : Below w.heap.size w W) (hL : LvOk [.int .i64 x.f0, .int .i64 x.f1, .int .i64 x.f2, .int .i64 x.f3, .int .i64 x.f4, .slice A5 x.f5.length c5, .slice A6 x.f6.length c6, .int .i64 x.f7.f0, .int .i64 x.f7.f1, .slice A9 x.f8.length c9, .slice A10 x.f9.length c10] g w.heap.size (g + 1) W) => leave1_calls x [.int .i64 x.f0, .int .i64 x.f1, .int .i64 x.f2, .int .i64 x.f3, .int .i64 x.f4, .slice A5 x.f5.length c5, .slice A6 x.f6.length c6, .int .i64 x.f7.f0, .int .i64 x.f7.f1, .slice A9 x.f8.length c9, .slice A10 x.f9.length c10] w HX.out HV.out g w.heap.size (g + 1) (by omega) m 0 [] none 0 W hB hL (nil_int W) (fun ad h => by cases h) (by simpa using hm) (by omega)
  have HST := Aside0.mk hstep
  have HL0 := Aside0.mk hL0
  have HB0 := Aside0.mk hB0
  clear hb2 hbf hbl hL0 hB0 hstep kc10 hchk HB HBC
  go_loopw [18] (fun s18 wr => ∃ kk : Nat, kk ≤ x.f9.length + 1 ∧ s18 = .int .i64 kk ∧ Aside0 (MachKeep g 1 W0 wr ∧ LvOk [.int .i64 x.f0, .int .i64 x.f1, .int .i64 x.f2, .int .i64 x.f3, .int .i64 x.f4, .slice A5 x.f5.length c5, .slice A6 x.f6.length c6, .int .i64 x.f7.f0, .int .i64 x.f7.f1, .slice A9 x.f8.length c9, .slice A10 x.f9.length c10] g w.heap.size (g + 1) wr ∧ ∀ j, j < kk → findS x [] j 0 = none)) (fun s18 _ => x.f9.length + 1 - (intOf s18).toNat)
  case atStart => exact ⟨0, Nat.zero_le _, rfl, ⟨MachKeep.refl _ _ _, HL0.out, fun j hj => absurd hj (Nat.not_lt_zero _)⟩⟩
  case round =>
   obtain ⟨kk, hkk, rfl, HW⟩ := hrel
   by_cases hlt : kk < x.f9.length + 1
   ·have hltz : (kk : Int) < (x.f9.length : Int) + 1 := by omega
    have kl := HW.out.2.1.l.cell 0 _ rfl
    have hcall := HST.out kk wr (by omega) (HW.out.1.below HB0.out (Nat.le_refl _) (by omega)) HW.out.2.1
    cases hfs : findS x [] kk 0 with
    | some t =>
     have HSS := hcall.mono (R' := fun e W' => e = .returned (.bool true) ∧ MachKeep g 1 wr W' ∧ ∃ A c, Blk W' g #[.slice A t.length c] 22 ∧ Kd.C (Kd.int .i64) W' A t.length t)
      (fun e W' h => by
       rcases h.2 with ⟨h1, t', ht, hr⟩ | ⟨_, ht, _⟩
       ·rw [hfs] at ht; cases ht; exact ⟨h1, h.1, hr⟩
       ·rw [hfs] at ht; cases ht)
     have HFS := Lib.hid hfs
     clear hfs hcall
     go_wp2_with (go_at_call 90; refine HSS.mono ?_; clear HSS; rintro e w6 ⟨rfl, hmk6, A7, c7, hb7, hc7⟩; have kf := hb7.cell 0 _ rfl; have H6 := Aside0.mk (And.intro hmk6 hc7); clear hmk6 hc7 hb7)
     refine bodyPost_ret (results_tmp2 rfl _ _ _) rfl ⟨A7, c7, ?_, ?_, ?_⟩
     ·rw [leaveF_hit HF.out (by omega) HFS.out HW.out.2.2]; rfl
     ·rw [leaveF_hit HF.out (by omega) HFS.out HW.out.2.2]; exact H6.out.2
     ·exact H6.out.1.below (HW.out.1.below HB0.out (Nat.le_refl _) (by omega)) (Nat.le_refl _) (by omega)
    | none =>
     have HSS := hcall.mono (R' := fun e W' => e = .returned (.bool false) ∧ MachKeep g 1 wr W' ∧ ∃ v, Blk W' g #[v] 22)
      (fun e W' h => by
       rcases h.2 with ⟨h1, t', ht, hr⟩ | ⟨h1, ht, hr⟩
       ·rw [hfs] at ht; cases ht
       ·exact ⟨h1, h.1, hr⟩)
     have HFS := Lib.hid hfs
     clear hfs hcall
     go_wp2_with (go_at_call 90; refine HSS.mono ?_; clear HSS; rintro e w6 ⟨rfl, hmk6, hb6⟩; have H6 := Aside0.mk (And.intro hmk6 hb6); clear hmk6 hb6)
     go_roundw
     case rel =>
      refine ⟨kk + 1, by omega, by go_num, ⟨HW.out.1.trans H6.out.1, HW.out.2.1.mach H6.out.1 H6.out.2, fun j hj => ?_⟩⟩
      rcases Nat.lt_succ_iff_lt_or_eq.1 hj with h | h
      ·exact HW.out.2.2 j h
      ·subst h; exact HFS.out
     case measure => simp [intOf]; omega
   ·exact absurd (HW.out.2.2 x.f9.length (by omega)) (findS_full HV.out)
 ·have HE := Lib.hid (leaveF_bad hv)
  generalize hf : faultC x = ec at hchk hv HE
  have hv2 : (ec == 0) = false := by simpa using hv
  go_enter Try.func36, Try.ntmps36
  go_wp2_with (go_at_call 58; refine (hchk _).mono ?_; rintro e w1 ⟨rfl, hb1⟩; have HB := Aside0.mk (bel2 (hb0 _) hb1); clear hb1)
  refine bodyPost_ret (results_tmp2 rfl _ _ _) rfl ⟨none, 0, ?_, ?_, HB.out⟩
  ·rw [HE.out]; rfl
  ·rw [HE.out]; exact nil_int _
end Go.Proofs.Ytdgkhoflajdidaa
/- scene: a truth's scene. -/
namespace Go.Proofs.Ytdgkhoflajdidaa
open Go.RowKit Go.Proofs.YtdgkhoflajdidaaW.PrintWords Go.Proofs.YtdgkhoflajdidaaW.PrintMore Go.Proofs.YtdgkhoflajdidaaW.PrintLast Go.Proofs.Ytdgkhoflajdidaa.Print
set_option linter.unusedVariables false
set_option linter.unusedSimpArgs false
/-- Is the number of an hour in the hour's range. -/
def lossOk (x : S38) (t : S75) (k : Nat) : Bool := inR (t.f1.getD k 0) (x.f8.getD k z35).f0 (x.f8.getD k z35).f1
/-- Is it a truth, whatever the readings are. -/
def isScB (x : S38) (t : S75) : Bool := inR t.f0 x.f7.f0 x.f7.f1 && ((t.f1.length : Int) == x.f0 + 1) && (List.range t.f1.length).all (lossOk x t)
def toSc (t : S75) : Sc := mkSc t.f0 fun k => t.f1.getD k 0
def sceneOf (x : S38) (t : S75) : Sc := if isScB x t = true then toSc t else scHeat 0
theorem row_to_sc (h : Int) (l : List Int) (hl : l.length ≤ 5) : ((#[Value.int .i64 h, .int .i64 0, .int .i64 0, .int .i64 0, .int .i64 0, .int .i64 0] : Array Value).toList.take 1 ++ nums .i64 l ++ (#[Value.int .i64 h, .int .i64 0, .int .i64 0, .int .i64 0, .int .i64 0, .int .i64 0] : Array Value).toList.drop (1 + (nums .i64 l).length)).toArray = (mkSc h fun k => l.getD k 0).arr := by
 match l, hl with
 | [], _ => rfl
 | [_], _ => rfl
 | [_, _], _ => rfl
 | [_, _, _], _ => rfl
 | [_, _, _, _], _ => rfl
 | [_, _, _, _, _], _ => rfl
theorem Blk.setRow {W : World} {g : Nat} {cs : Array Value} {t : TypeId} (h : Blk W g cs t) (cs' : Array Value) : Blk (W.setRow g cs') g cs' t := by
 unfold Blk at h ⊢
 have hlt := (Array.getElem?_eq_some_iff.1 h).1
 have h2 := (Array.getElem?_eq_some_iff.1 h).2
 simp only [World.setRow]
 rw [Array.getElem?_eq_getElem (by simpa using hlt), Array.getElem_modify_self, h2]
theorem below_setRow' {B : Nat} {w W : World} (h : Below B w W) {g : Nat} (hg : B ≤ g) (cs : Array Value) : Below B w (W.setRow g cs) :=
 ⟨h.os, h.tape, h.output, by have := h.size; simpa [World.setRow] using this, fun k hk => by
  refine Eq.trans ?_ (h.block k hk)
  show (W.heap.modify g _)[k]? = W.heap[k]?
  rw [Array.getElem?_modify, if_neg (by omega)]⟩
/-- A copy, as an operation of a region. -/
theorem copy_op {P : Program} {ops : Array Oper} {o : Oper} {a : Act} {K : Act → World → Prop} {Q : Exit → Act → World → Prop} {w : World} (s x : Operand) (dT sT elem : TypeId) (g of dLen dCap : Nat) (ad : Addr) (sLen sCap : Nat) (cur : Array Value) (t : TypeId) (cs : List Value)
    (hw : Region.wanted o (yielded ops a.tmps) = true) (ho : o.op = .call { callee := .builtin .copy, args := #[s, x], argTypes := #[dT, sT] })
    (hu : P.underlying dT = some (.slice elem)) (hz : (P.info? elem).map (·.size) = some 1) (hs : a.eval s = .slice (some ⟨g, of, none⟩) dLen dCap) (hx : a.eval x = .slice (some ad) sLen sCap)
    (hg : Blk w g cur t) (hn : cs.length = Nat.min sLen dLen) (hsrc : ∀ j v, cs[j]? = some v → w.cell? (ad.add j) = some v) (hfit : of + cs.length ≤ cur.size) (h1 : ∀ v ∈ cs, v.oneCell' = true)
    (h : K (a.put o.dst (goInt cs.length)) (w.setRow g (cur.toList.take of ++ cs ++ cur.toList.drop (of + cs.length)).toArray)) :
    if Region.wanted o (yielded ops a.tmps) = true then Oper.wp P o a w K Q else K (a.put o.dst undef) w := by
 have hr := run_copy_row (P := P) w dT sT o.type elem g of dLen dCap ad sLen sCap cur t cs hu hz hg hn hsrc hfit h1
 refine value_ (w1 := w.setRow g (cur.toList.take of ++ cs ++ cur.toList.drop (of + cs.length)).toArray) (v := goInt cs.length) hw rfl ?_ h
 unfold execOp
 simp only [ho, resolve, invoke, builtin, Sem.run_bind, Sem.run_pure, Result.andThen_ok, List.map_toArray, List.map_cons, List.map_nil, hs, hx, hr]
set_option maxRecDepth 100000 in
set_option maxHeartbeats 4000000 in
theorem scene_calls (x : S38) (cs : List Value) (t : S75) (ts : List Value) (w : World) (hx : k38.K w x cs) (ht : k75.K w t ts) (hV : Valid x) :
    Calls Try.prog 96 #[.agg cs.toArray, .agg ts.toArray] w fun e w' => e = .returned (.tuple #[.agg (sceneOf x t).arr, .bool (isScB x t)]) ∧ Below w.heap.size w w' := by
 obtain ⟨A5, c5, A6, c6, A9, c9, A10, c10, hcs, l5, g5, l6, g6, l9, g9, l10, g10⟩ := k38_open hx
 obtain ⟨T1, d1, hts, lt1, gt1⟩ := k75_open ht
 subst hcs hts
 have hf0 := hV.last0
 have hf1 := hV.last1
 have hln := hV.lossN
 have htl := gt1.2.1
 have HV := Aside0.mk hV
 have G9 := Aside0.mk g9
 have GT := Aside0.mk gt1
 have hb3 : ∀ o1 o2 o3, Below w.heap.size w (((w.alloc o1).alloc o2).alloc o3) := fun o1 o2 o3 => below_alloc (below_alloc (below_alloc (Below.refl _ _) _) _) _
 have hhas := fun W => has_calls x.f7 t.f0 W
 clear hx ht g5 g6 g9 g10 l5 l6 l9 l10 gt1 lt1 hV
 have hu := Try.underlying38
 have hu2 := Try.underlying133
 have hu3 := Try.underlying75
 have hu4 := Try.underlying35
 have hu5 := Try.underlying131
 by_cases h1 : inR t.f0 x.f7.f0 x.f7.f1 = true
 ·rw [h1] at hhas
  by_cases h2 : (t.f1.length : Int) = x.f0 + 1
  ·have h2' : ((t.f1.length : Int) == x.f0 + 1) = true := by simpa using h2
   have HH1 := Lib.hid h1
   have htn : t.f1.length ≤ 5 := by omega
   obtain ⟨ta, hta, _⟩ := row_at_int GT.out 0 (by omega)
   subst hta
   go_enter Try.func96, Try.ntmps96
   go_wp2_with (go_at_call 123; refine (hhas _).mono ?_; rintro e w1 ⟨rfl, hb1⟩; have HB := Aside0.mk (bel2 (hb3 _ _ _) hb1); have BC : Blk w1 w.heap.size #[.int .i64 x.f0, .int .i64 x.f1, .int .i64 x.f2, .int .i64 x.f3, .int .i64 x.f4, .slice A5 x.f5.length c5, .slice A6 x.f6.length c6, .int .i64 x.f7.f0, .int .i64 x.f7.f1, .slice A9 x.f8.length c9, .slice A10 x.f9.length c10] 38 := (((Blk.new w _ 38 _ rfl).alloc _).alloc _).below hb1; have BT : Blk w1 (w.heap.size + 1) #[.int .i64 t.f0, .slice (some ta) t.f1.length d1] 75 := ((Blk.new _ _ 75 _ (by simp)).alloc _).below hb1; have BS : Blk w1 (w.heap.size + 1 + 1) #[.int .i64 0, .int .i64 0, .int .i64 0, .int .i64 0, .int .i64 0, .int .i64 0] 133 := (Blk.new _ _ 133 _ (by simp)).below hb1; have HBC := Aside0.mk BC; have HBT := Aside0.mk BT; have HBS := Aside0.mk BS; have k0 := BC.cell 0 _ rfl; have kt0 := BT.cell 0 _ rfl; have kt1 := BT.cell 1 _ rfl; have zc0 : w1.cell? ⟨w.heap.size + 1 + 1, 0, none⟩ = some (.int .i64 0) := BS.cell 0 _ rfl; have zs0 : w1.setCell ⟨w.heap.size + 1 + 1, 0, none⟩ (.int .i64 0) = w1 := BS.set_same 0 _ rfl; have zf0 := BS.frozen 0; have zc1 : w1.cell? ⟨w.heap.size + 1 + 1, 1, none⟩ = some (.int .i64 0) := BS.cell 1 _ rfl; have zs1 : w1.setCell ⟨w.heap.size + 1 + 1, 1, none⟩ (.int .i64 0) = w1 := BS.set_same 1 _ rfl; have zf1 := BS.frozen 1; have zc2 : w1.cell? ⟨w.heap.size + 1 + 1, 2, none⟩ = some (.int .i64 0) := BS.cell 2 _ rfl; have zs2 : w1.setCell ⟨w.heap.size + 1 + 1, 2, none⟩ (.int .i64 0) = w1 := BS.set_same 2 _ rfl; have zf2 := BS.frozen 2; have zc3 : w1.cell? ⟨w.heap.size + 1 + 1, 3, none⟩ = some (.int .i64 0) := BS.cell 3 _ rfl; have zs3 : w1.setCell ⟨w.heap.size + 1 + 1, 3, none⟩ (.int .i64 0) = w1 := BS.set_same 3 _ rfl; have zf3 := BS.frozen 3; have zc4 : w1.cell? ⟨w.heap.size + 1 + 1, 4, none⟩ = some (.int .i64 0) := BS.cell 4 _ rfl; have zs4 : w1.setCell ⟨w.heap.size + 1 + 1, 4, none⟩ (.int .i64 0) = w1 := BS.set_same 4 _ rfl; have zf4 := BS.frozen 4; have zc5 : w1.cell? ⟨w.heap.size + 1 + 1, 5, none⟩ = some (.int .i64 0) := BS.cell 5 _ rfl; have zs5 : w1.setCell ⟨w.heap.size + 1 + 1, 5, none⟩ (.int .i64 0) = w1 := BS.set_same 5 _ rfl; have zf5 := BS.frozen 5; clear BC BT BS hb1)
   clear zc0 zs0 zf0 zc1 zs1 zf1 zc2 zs2 zf2 zc3 zs3 zf3 zc4 zs4 zf4 zc5 zs5 zf5 k0 kt0 kt1 hhas hb3
   go_loopw [27] (fun s27 wr => ∃ kk : Nat, kk ≤ t.f1.length ∧ s27 = .int .i64 kk ∧ Aside0 (Below w1.heap.size w1 wr) ∧ Aside0 (∀ j, j < kk → lossOk x t j = true)) (fun s27 _ => t.f1.length - (intOf s27).toNat)
   case atStart => exact ⟨0, Nat.zero_le _, rfl, ⟨Below.refl _ _⟩, ⟨fun j hj => absurd hj (Nat.not_lt_zero _)⟩⟩
   case round =>
    obtain ⟨kk, hkk, rfl, HW, HA⟩ := hrel
    have hBw := bel2 HB.out HW.out
    have BC := HBC.out.below HW.out
    have BT := HBT.out.below HW.out
    have BS := HBS.out.below HW.out
    have k9 := BC.cell 9 _ rfl
    have kt0 := BT.cell 0 _ rfl
    have kt1 := BT.cell 1 _ rfl
    by_cases hlt : kk < t.f1.length
    ·have hltz : (kk : Int) < (t.f1.length : Int) := by omega
     have hlx : kk < x.f8.length := by omega
     have hlxz : (kk : Int) < (x.f8.length : Int) := by omega
     obtain ⟨ta', hta', hc0⟩ := row_at_int (Kd.C_below GT.out hBw) kk hlt
     obtain rfl : ta = ta' := Option.some.inj hta'
     obtain ⟨ad, hA, hr0, hr1⟩ := row_at_rg (Kd.C_below G9.out hBw) kk hlx
     obtain rfl := hA
     have hlo : lossOk x t kk = inR t.f1[kk] x.f8[kk].f0 x.f8[kk].f1 := by unfold lossOk; simp [hlt, hlx]
     generalize t.f1[kk] = n at hc0 hlo
     generalize x.f8[kk] = r at hr0 hr1 hlo
     have hh := fun W => has_calls r n W
     have HBS2 := Aside0.mk BS
     have HBw := Aside0.mk hBw
     clear BC BT BS hBw hta'
     cases hq : inR n r.f0 r.f1 with
     | true =>
      rw [hq] at hh
      have HQ := Lib.hid (hlo.trans hq)
      clear hq hlo
      go_wp2_with (go_at_call 123; refine (hh _).mono ?_; rintro e w2 ⟨rfl, hb2⟩; have H2 := Aside0.mk hb2; clear hb2)
      go_roundw
      case rel => exact ⟨kk + 1, by omega, by go_num, ⟨bel2 HW.out H2.out⟩, ⟨fun j hj => by rcases Nat.lt_succ_iff_lt_or_eq.1 hj with h | h; exact HA.out j h; subst h; exact HQ.out⟩⟩
      case measure => simp [intOf]; omega
     | false =>
      rw [hq] at hh
      have HQ := Lib.hid (hlo.trans hq)
      clear hq hlo
      go_wp2_with (go_at_call 123; refine (hh _).mono ?_; rintro e w2 ⟨rfl, hb2⟩; have BS := HBS2.out.below hb2; have H2 := Aside0.mk hb2; have zc0 : w2.cell? ⟨w.heap.size + 1 + 1, 0, none⟩ = some (.int .i64 0) := BS.cell 0 _ rfl; have zs0 : w2.setCell ⟨w.heap.size + 1 + 1, 0, none⟩ (.int .i64 0) = w2 := BS.set_same 0 _ rfl; have zf0 := BS.frozen 0; have zc1 : w2.cell? ⟨w.heap.size + 1 + 1, 1, none⟩ = some (.int .i64 0) := BS.cell 1 _ rfl; have zs1 : w2.setCell ⟨w.heap.size + 1 + 1, 1, none⟩ (.int .i64 0) = w2 := BS.set_same 1 _ rfl; have zf1 := BS.frozen 1; have zc2 : w2.cell? ⟨w.heap.size + 1 + 1, 2, none⟩ = some (.int .i64 0) := BS.cell 2 _ rfl; have zs2 : w2.setCell ⟨w.heap.size + 1 + 1, 2, none⟩ (.int .i64 0) = w2 := BS.set_same 2 _ rfl; have zf2 := BS.frozen 2; have zc3 : w2.cell? ⟨w.heap.size + 1 + 1, 3, none⟩ = some (.int .i64 0) := BS.cell 3 _ rfl; have zs3 : w2.setCell ⟨w.heap.size + 1 + 1, 3, none⟩ (.int .i64 0) = w2 := BS.set_same 3 _ rfl; have zf3 := BS.frozen 3; have zc4 : w2.cell? ⟨w.heap.size + 1 + 1, 4, none⟩ = some (.int .i64 0) := BS.cell 4 _ rfl; have zs4 : w2.setCell ⟨w.heap.size + 1 + 1, 4, none⟩ (.int .i64 0) = w2 := BS.set_same 4 _ rfl; have zf4 := BS.frozen 4; have zc5 : w2.cell? ⟨w.heap.size + 1 + 1, 5, none⟩ = some (.int .i64 0) := BS.cell 5 _ rfl; have zs5 : w2.setCell ⟨w.heap.size + 1 + 1, 5, none⟩ (.int .i64 0) = w2 := BS.set_same 5 _ rfl; have zf5 := BS.frozen 5; clear hb2 BS)
      refine bodyPost_ret (v := .tuple #[.agg (scHeat 0).arr, .bool false]) (by simp [results, Try.results96, go_sem, zc0, zc1, zc2, zc3, zc4, zc5, scHeat, Sc.arr]) rfl ⟨?_, bel2 HBw.out H2.out⟩
      have HS : isScB x t = false := by
       unfold isScB
       have : (List.range t.f1.length).all (lossOk x t) = false := List.all_eq_false.2 ⟨kk, List.mem_range.2 hlt, by simp [HQ.out]⟩
       rw [this, Bool.and_false]
      unfold sceneOf; rw [HS]; rfl
    ·have hltz : ¬ (kk : Int) < (t.f1.length : Int) := by omega
     obtain rfl : kk = t.f1.length := by omega
     have HS := Lib.hid (show isScB x t = true by
      unfold isScB
      have : (List.range t.f1.length).all (lossOk x t) = true := List.all_eq_true.2 fun j hj => HA.out j (List.mem_range.1 hj)
      rw [this, HH1.out, h2']; rfl)
     have kz := BS.cell 0 _ rfl
     have kzf := BS.frozen 0
     have BS2 : Blk (wr.setCell ⟨w.heap.size + 1 + 1, 0, none⟩ (.int .i64 t.f0)) (w.heap.size + 1 + 1) #[.int .i64 t.f0, .int .i64 0, .int .i64 0, .int .i64 0, .int .i64 0, .int .i64 0] 133 := BS.set 0 _
     have hbs2 : Below w.heap.size w (wr.setCell ⟨w.heap.size + 1 + 1, 0, none⟩ (.int .i64 t.f0)) := hBw.setCell (p := ⟨w.heap.size + 1 + 1, 0, none⟩) (by show w.heap.size ≤ w.heap.size + 1 + 1; omega) _
     have kt1' := (BT.set_other (p := ⟨w.heap.size + 1 + 1, 0, none⟩) (by show w.heap.size + 1 ≠ w.heap.size + 1 + 1; omega) (.int .i64 t.f0)).cell 1 _ rfl
     have H3 := Aside0.mk (And.intro BS2 hbs2)
     clear BS2 hbs2 BC BT BS hBw
     go_wp2
     generalize hw5 : wr.setCell ⟨w.heap.size + 1 + 1, 0, none⟩ (.int .i64 t.f0) = W5 at *
     have BS5 := H3.out.1
     have hb5 := H3.out.2
     refine start_ (n := 5) (S := fun w' => w'.cell? ⟨w.heap.size + 1, 1, none⟩ = some (.slice (some ta) t.f1.length d1)) (ds := [4]) #[false, false, false, false, false] (by kernel_rfl) rfl rfl (kt1') (fun hHeld => ?_)
     refine pure_ (i := 0) (N := some 45) (v := ?_) (a' := ?_) (bs 5 1) rfl rfl (by kernel_rfl) (fun _ _ _ h => h) (Or.inl ⟨by rfl, ?_⟩) ?_ ?_
     rotate_left
     ·intro w'
      go_simp
      with_reducible rfl
     rotate_left
     ·simp only [Act.put, List.setIfInBounds_toArray, List.set_cons_zero, List.set_cons_succ, i64_w, i32_w]
      rfl
     refine pure_ (i := 1) (N := some 46) (v := ?_) (a' := ?_) (bs 5 3) rfl rfl (by kernel_rfl) (fun _ _ _ h => h) (Or.inl ⟨by rfl, ?_⟩) ?_ ?_
     rotate_left
     ·intro w'
      go_simp
      with_reducible rfl
     rotate_left
     ·simp only [Act.put, List.setIfInBounds_toArray, List.set_cons_zero, List.set_cons_succ, i64_w, i32_w]
      rfl
     refine pure_ (i := 2) (N := some 47) (v := ?_) (a' := ?_) (bs 5 7) rfl rfl (by kernel_rfl) (fun _ _ _ h => h) (Or.inl ⟨by rfl, ?_⟩) ?_ ?_
     rotate_left
     ·intro w'
      go_simp
      with_reducible rfl
     rotate_left
     ·simp only [Act.put, List.setIfInBounds_toArray, List.set_cons_zero, List.set_cons_succ, i64_w, i32_w]
      rfl
     refine take_ (i := 3) (N := some 48) (v := ?_) (a' := ?_) (bs 5 15) rfl rfl (by kernel_rfl) (fun _ _ _ h => h) (Or.inl ⟨by rfl, ?_⟩) hHeld ?_ ?_
     rotate_left
     ·intro w' s0
      go_simp
      with_reducible rfl
     rotate_left
     ·simp only [Act.put, List.setIfInBounds_toArray, List.set_cons_zero, List.set_cons_succ, i64_w, i32_w]
      rfl
     refine last_ (i := 4) (N := some 49) (bs 5 31) rfl rfl (by kernel_rfl) (by decide) (fun K hK => ?_)
     refine copy_op (w := W5.drew) (.tmp 46) (.tmp 48) 22 22 3 (w.heap.size + 1 + 1) 1 5 5 ta t.f1.length d1 #[.int .i64 t.f0, .int .i64 0, .int .i64 0, .int .i64 0, .int .i64 0, .int .i64 0] 133 (nums .i64 t.f1) (by rfl) rfl Try.underlying22 (by kernel_rfl) rfl rfl BS5 (by simp [nums, Nat.min_def]; omega) (fun j v hj => ?_) (by simp [nums]; omega) (fun v hv => by simp only [nums, List.mem_map] at hv; obtain ⟨q, _, rfl⟩ := hv; rfl) ?_
     ·have hlt : j < t.f1.length := by have := (List.getElem?_eq_some_iff.1 hj).1; simpa [nums] using this
      obtain ⟨ta', hta', hc0⟩ := row_at_int (Kd.C_below GT.out (below_drew hb5)) j hlt
      obtain rfl : ta = ta' := Option.some.inj hta'
      rw [hc0]
      rw [← hj]; simp [nums, hlt]
     refine hK.out _ _ ?_
     clear hK K
     refine norm_ (a' := ?_) ?_ ?_
     rotate_left
     ·show Act.put _ (some 49) _ = _
      simp only [Act.put, List.setIfInBounds_toArray, List.set_cons_zero, List.set_cons_succ, i64_w, i32_w]
      rfl
     refine done_ (by kernel_rfl) ?_
     have BS6 := (Blk.drew BS5).setRow ((#[Value.int .i64 t.f0, .int .i64 0, .int .i64 0, .int .i64 0, .int .i64 0, .int .i64 0] : Array Value).toList.take 1 ++ nums .i64 t.f1 ++ (#[Value.int .i64 t.f0, .int .i64 0, .int .i64 0, .int .i64 0, .int .i64 0, .int .i64 0] : Array Value).toList.drop (1 + (nums .i64 t.f1).length)).toArray
     have hb6 := below_setRow' (below_drew hb5) (g := w.heap.size + 1 + 1) (by omega) ((#[Value.int .i64 t.f0, .int .i64 0, .int .i64 0, .int .i64 0, .int .i64 0, .int .i64 0] : Array Value).toList.take 1 ++ nums .i64 t.f1 ++ (#[Value.int .i64 t.f0, .int .i64 0, .int .i64 0, .int .i64 0, .int .i64 0, .int .i64 0] : Array Value).toList.drop (1 + (nums .i64 t.f1).length)).toArray
     rw [row_to_sc _ _ htn] at BS6 hb6
     rw [row_to_sc _ _ htn]
     have hsc : toSc t = mkSc t.f0 fun k => t.f1.getD k 0 := rfl
     rw [← hsc] at BS6 hb6 ⊢
     generalize W5.drew.setRow (w.heap.size + 1 + 1) (toSc t).arr = W6 at *
     generalize htt : toSc t = tt at *
     have HTT := Lib.hid htt
     have HB6 := Aside0.mk hb6
     have qc0 : W6.cell? ⟨w.heap.size + 1 + 1, 0, none⟩ = some (.int .i64 tt.h) := BS6.cell 0 _ rfl; have qs0 : W6.setCell ⟨w.heap.size + 1 + 1, 0, none⟩ (.int .i64 tt.h) = W6 := BS6.set_same 0 _ rfl; have qf0 := BS6.frozen 0; have qc1 : W6.cell? ⟨w.heap.size + 1 + 1, 1, none⟩ = some (.int .i64 tt.l0) := BS6.cell 1 _ rfl; have qs1 : W6.setCell ⟨w.heap.size + 1 + 1, 1, none⟩ (.int .i64 tt.l0) = W6 := BS6.set_same 1 _ rfl; have qf1 := BS6.frozen 1; have qc2 : W6.cell? ⟨w.heap.size + 1 + 1, 2, none⟩ = some (.int .i64 tt.l1) := BS6.cell 2 _ rfl; have qs2 : W6.setCell ⟨w.heap.size + 1 + 1, 2, none⟩ (.int .i64 tt.l1) = W6 := BS6.set_same 2 _ rfl; have qf2 := BS6.frozen 2; have qc3 : W6.cell? ⟨w.heap.size + 1 + 1, 3, none⟩ = some (.int .i64 tt.l2) := BS6.cell 3 _ rfl; have qs3 : W6.setCell ⟨w.heap.size + 1 + 1, 3, none⟩ (.int .i64 tt.l2) = W6 := BS6.set_same 3 _ rfl; have qf3 := BS6.frozen 3; have qc4 : W6.cell? ⟨w.heap.size + 1 + 1, 4, none⟩ = some (.int .i64 tt.l3) := BS6.cell 4 _ rfl; have qs4 : W6.setCell ⟨w.heap.size + 1 + 1, 4, none⟩ (.int .i64 tt.l3) = W6 := BS6.set_same 4 _ rfl; have qf4 := BS6.frozen 4; have qc5 : W6.cell? ⟨w.heap.size + 1 + 1, 5, none⟩ = some (.int .i64 tt.l4) := BS6.cell 5 _ rfl; have qs5 : W6.setCell ⟨w.heap.size + 1 + 1, 5, none⟩ (.int .i64 tt.l4) = W6 := BS6.set_same 5 _ rfl; have qf5 := BS6.frozen 5
     clear hb6 BS6 hb5 BS5 hw5 htt hsc
     go_wp2
     refine bodyPost_ret (v := .tuple #[.agg tt.arr, .bool true]) (by simp [results, Try.results96, go_sem, qc0, qc1, qc2, qc3, qc4, qc5, Sc.arr]) rfl ⟨?_, HB6.out⟩
     unfold sceneOf; rw [HS.out, if_pos rfl, HTT.out]
  ·have HS := Lib.hid (show isScB x t = false by unfold isScB; rw [h1]; simp [h2])
   have h2' : ((t.f1.length : Int) == x.f0 + 1) = false := by simpa using h2
   clear h2
   go_enter Try.func96, Try.ntmps96
   go_wp2_with (go_at_call 123; refine (hhas _).mono ?_; rintro e w1 ⟨rfl, hb1⟩; have HB := Aside0.mk (bel2 (hb3 _ _ _) hb1); have BC : Blk w1 w.heap.size #[.int .i64 x.f0, .int .i64 x.f1, .int .i64 x.f2, .int .i64 x.f3, .int .i64 x.f4, .slice A5 x.f5.length c5, .slice A6 x.f6.length c6, .int .i64 x.f7.f0, .int .i64 x.f7.f1, .slice A9 x.f8.length c9, .slice A10 x.f9.length c10] 38 := (((Blk.new w _ 38 _ rfl).alloc _).alloc _).below hb1; have BT : Blk w1 (w.heap.size + 1) #[.int .i64 t.f0, .slice T1 t.f1.length d1] 75 := ((Blk.new _ _ 75 _ (by simp)).alloc _).below hb1; have BS : Blk w1 (w.heap.size + 1 + 1) #[.int .i64 0, .int .i64 0, .int .i64 0, .int .i64 0, .int .i64 0, .int .i64 0] 133 := (Blk.new _ _ 133 _ (by simp)).below hb1; have HBC := Aside0.mk BC; have HBT := Aside0.mk BT; have HBS := Aside0.mk BS; have k0 := BC.cell 0 _ rfl; have kt0 := BT.cell 0 _ rfl; have kt1 := BT.cell 1 _ rfl; have zc0 : w1.cell? ⟨w.heap.size + 1 + 1, 0, none⟩ = some (.int .i64 0) := BS.cell 0 _ rfl; have zs0 : w1.setCell ⟨w.heap.size + 1 + 1, 0, none⟩ (.int .i64 0) = w1 := BS.set_same 0 _ rfl; have zf0 := BS.frozen 0; have zc1 : w1.cell? ⟨w.heap.size + 1 + 1, 1, none⟩ = some (.int .i64 0) := BS.cell 1 _ rfl; have zs1 : w1.setCell ⟨w.heap.size + 1 + 1, 1, none⟩ (.int .i64 0) = w1 := BS.set_same 1 _ rfl; have zf1 := BS.frozen 1; have zc2 : w1.cell? ⟨w.heap.size + 1 + 1, 2, none⟩ = some (.int .i64 0) := BS.cell 2 _ rfl; have zs2 : w1.setCell ⟨w.heap.size + 1 + 1, 2, none⟩ (.int .i64 0) = w1 := BS.set_same 2 _ rfl; have zf2 := BS.frozen 2; have zc3 : w1.cell? ⟨w.heap.size + 1 + 1, 3, none⟩ = some (.int .i64 0) := BS.cell 3 _ rfl; have zs3 : w1.setCell ⟨w.heap.size + 1 + 1, 3, none⟩ (.int .i64 0) = w1 := BS.set_same 3 _ rfl; have zf3 := BS.frozen 3; have zc4 : w1.cell? ⟨w.heap.size + 1 + 1, 4, none⟩ = some (.int .i64 0) := BS.cell 4 _ rfl; have zs4 : w1.setCell ⟨w.heap.size + 1 + 1, 4, none⟩ (.int .i64 0) = w1 := BS.set_same 4 _ rfl; have zf4 := BS.frozen 4; have zc5 : w1.cell? ⟨w.heap.size + 1 + 1, 5, none⟩ = some (.int .i64 0) := BS.cell 5 _ rfl; have zs5 : w1.setCell ⟨w.heap.size + 1 + 1, 5, none⟩ (.int .i64 0) = w1 := BS.set_same 5 _ rfl; have zf5 := BS.frozen 5; clear BC BT BS hb1)
   refine bodyPost_ret (v := .tuple #[.agg (scHeat 0).arr, .bool false]) (by simp [results, Try.results96, go_sem, zc0, zc1, zc2, zc3, zc4, zc5, scHeat, Sc.arr]) rfl ⟨?_, HB.out⟩
   unfold sceneOf; rw [HS.out]; rfl
 ·have h1' : inR t.f0 x.f7.f0 x.f7.f1 = false := by simpa using h1
  have HS := Lib.hid (show isScB x t = false by unfold isScB; rw [h1']; simp)
  rw [h1'] at hhas
  clear h1 h1'
  go_enter Try.func96, Try.ntmps96
  go_wp2_with (go_at_call 123; refine (hhas _).mono ?_; rintro e w1 ⟨rfl, hb1⟩; have HB := Aside0.mk (bel2 (hb3 _ _ _) hb1); have BC : Blk w1 w.heap.size #[.int .i64 x.f0, .int .i64 x.f1, .int .i64 x.f2, .int .i64 x.f3, .int .i64 x.f4, .slice A5 x.f5.length c5, .slice A6 x.f6.length c6, .int .i64 x.f7.f0, .int .i64 x.f7.f1, .slice A9 x.f8.length c9, .slice A10 x.f9.length c10] 38 := (((Blk.new w _ 38 _ rfl).alloc _).alloc _).below hb1; have BT : Blk w1 (w.heap.size + 1) #[.int .i64 t.f0, .slice T1 t.f1.length d1] 75 := ((Blk.new _ _ 75 _ (by simp)).alloc _).below hb1; have BS : Blk w1 (w.heap.size + 1 + 1) #[.int .i64 0, .int .i64 0, .int .i64 0, .int .i64 0, .int .i64 0, .int .i64 0] 133 := (Blk.new _ _ 133 _ (by simp)).below hb1; have HBC := Aside0.mk BC; have HBT := Aside0.mk BT; have HBS := Aside0.mk BS; have k0 := BC.cell 0 _ rfl; have kt0 := BT.cell 0 _ rfl; have kt1 := BT.cell 1 _ rfl; have zc0 : w1.cell? ⟨w.heap.size + 1 + 1, 0, none⟩ = some (.int .i64 0) := BS.cell 0 _ rfl; have zs0 : w1.setCell ⟨w.heap.size + 1 + 1, 0, none⟩ (.int .i64 0) = w1 := BS.set_same 0 _ rfl; have zf0 := BS.frozen 0; have zc1 : w1.cell? ⟨w.heap.size + 1 + 1, 1, none⟩ = some (.int .i64 0) := BS.cell 1 _ rfl; have zs1 : w1.setCell ⟨w.heap.size + 1 + 1, 1, none⟩ (.int .i64 0) = w1 := BS.set_same 1 _ rfl; have zf1 := BS.frozen 1; have zc2 : w1.cell? ⟨w.heap.size + 1 + 1, 2, none⟩ = some (.int .i64 0) := BS.cell 2 _ rfl; have zs2 : w1.setCell ⟨w.heap.size + 1 + 1, 2, none⟩ (.int .i64 0) = w1 := BS.set_same 2 _ rfl; have zf2 := BS.frozen 2; have zc3 : w1.cell? ⟨w.heap.size + 1 + 1, 3, none⟩ = some (.int .i64 0) := BS.cell 3 _ rfl; have zs3 : w1.setCell ⟨w.heap.size + 1 + 1, 3, none⟩ (.int .i64 0) = w1 := BS.set_same 3 _ rfl; have zf3 := BS.frozen 3; have zc4 : w1.cell? ⟨w.heap.size + 1 + 1, 4, none⟩ = some (.int .i64 0) := BS.cell 4 _ rfl; have zs4 : w1.setCell ⟨w.heap.size + 1 + 1, 4, none⟩ (.int .i64 0) = w1 := BS.set_same 4 _ rfl; have zf4 := BS.frozen 4; have zc5 : w1.cell? ⟨w.heap.size + 1 + 1, 5, none⟩ = some (.int .i64 0) := BS.cell 5 _ rfl; have zs5 : w1.setCell ⟨w.heap.size + 1 + 1, 5, none⟩ (.int .i64 0) = w1 := BS.set_same 5 _ rfl; have zf5 := BS.frozen 5; clear BC BT BS hb1)
  refine bodyPost_ret (v := .tuple #[.agg (scHeat 0).arr, .bool false]) (by simp [results, Try.results96, go_sem, zc0, zc1, zc2, zc3, zc4, zc5, scHeat, Sc.arr]) rfl ⟨?_, HB.out⟩
  unfold sceneOf; rw [HS.out]; rfl
end Go.Proofs.Ytdgkhoflajdidaa
