/- Lemmas for the laws' proofs: Hb. -/
import Derived.Test.YtdgkhoflajdidaaCore08
/- asked: the coppers at work, with their truths. -/
namespace Go.Proofs.Ytdgkhoflajdidaa
open Go.RowKit Go.Proofs.YtdgkhoflajdidaaW.PrintWords Go.Proofs.YtdgkhoflajdidaaW.PrintMore Go.Proofs.YtdgkhoflajdidaaW.PrintLast Go.Proofs.Ytdgkhoflajdidaa.Print
set_option linter.unusedVariables false
set_option linter.unusedSimpArgs false
attribute [local go_sem] wide_depth wide_fn Oper.semAt_some
/-- One scene more, if it is a truth that isn't the last one. -/
def addT (x : S38) (acc : List Sc) (s : Sc) : List Sc := if rightB x s [] = true then (if acc.getLast? = some s then acc else acc ++ [s]) else acc
/-- The truths, as they are collected. -/
def truthTo (x : S38) (l : List Sc) : List Sc := l.foldl (addT x) []
def truthL (x : S38) : List Sc := truthTo x (allSc x)
theorem truthTo_snoc (x : S38) (l : List Sc) (s : Sc) : truthTo x (l ++ [s]) = addT x (truthTo x l) s := by simp [truthTo]
theorem mem_truthTo (x : S38) (l : List Sc) (s : Sc) : s ∈ truthTo x l ↔ s ∈ l ∧ rightB x s [] = true := by
 have key : ∀ (l' : List Sc) (acc : List Sc), s ∈ l'.foldl (addT x) acc ↔ s ∈ acc ∨ (s ∈ l' ∧ rightB x s [] = true) := by
  intro l'
  induction l' with
  | nil => intro acc; simp
  | cons y r ih =>
   intro acc
   rw [List.foldl_cons, ih]
   have hm : s ∈ addT x acc y ↔ s ∈ acc ∨ (s = y ∧ rightB x s [] = true) := by
    unfold addT
    split
    ·split
     ·rename_i h1 h2
      constructor
      ·exact .inl
      ·rintro (h | ⟨rfl, h⟩)
       ·exact h
       ·exact List.mem_of_getLast? h2
     ·rename_i h1 h2
      rw [List.mem_append, List.mem_singleton]
      constructor
      ·rintro (h | rfl)
       ·exact .inl h
       ·exact .inr ⟨rfl, h1⟩
      ·rintro (h | ⟨rfl, _⟩)
       ·exact .inl h
       ·exact .inr rfl
    ·rename_i h1
     constructor
     ·exact .inl
     ·rintro (h | ⟨rfl, h⟩)
      ·exact h
      ·exact absurd h h1
   rw [hm, List.mem_cons]
   constructor
   ·rintro ((h | ⟨rfl, h⟩) | ⟨h1, h2⟩)
    ·exact .inl h
    ·exact .inr ⟨.inl rfl, h⟩
    ·exact .inr ⟨.inr h1, h2⟩
   ·rintro (h | ⟨rfl | h1, h2⟩)
    ·exact .inl (.inl h)
    ·exact .inl (.inr ⟨rfl, h2⟩)
    ·exact .inr ⟨h1, h2⟩
 have := key l []
 simpa [truthTo] using this
theorem mem_truthL {x : S38} {s : Sc} : s ∈ truthL x ↔ s ∈ allSc x ∧ rightB x s [] = true := mem_truthTo x _ s
theorem addT_len (x : S38) (acc : List Sc) (s : Sc) : (addT x acc s).length ≤ acc.length + 1 := by
 unfold addT
 split
 ·split
  ·omega
  ·simp
 ·omega
theorem truthTo_len (x : S38) (l : List Sc) : (truthTo x l).length ≤ l.length := by
 have key : ∀ (l acc : List Sc), (l.foldl (addT x) acc).length ≤ acc.length + l.length := by
  intro l
  induction l with
  | nil => intro acc; simp
  | cons s r ih => intro acc; have := ih (addT x acc s); have h2 := addT_len x acc s; simp only [List.foldl_cons, List.length_cons]; omega
 simpa [truthTo] using key l []
/-- The error of what is asked. -/
def askE (x : S38) (fine : Bool) : Int := if faultC x = 0 then (if fine = true then (if (truthL x).isEmpty = true then 11 else 0) else 2) else faultC x
/-- The coppers at work lie in block g. -/
def WorkAt (x : S38) (cs : List Value) (g mb : Nat) (W : World) : Prop :=
 ∃ A c, Blk W g (cs ++ [Value.slice A (truthL x).length c, Value.map (some mb)]).toArray 151 ∧ Kd.C k133 W A (truthL x).length (truthL x)
/-- What asked leaves. -/
def AskPost (x : S38) (cs : List Value) (w : World) (e : Ending) (w' : World) : Prop := Below w.heap.size w w' ∧
 (if (truthL x).isEmpty = true then e = .returned (.tuple #[.pointer none, .int .i64 11]) else ∃ g mb, e = .returned (.tuple #[.pointer (some ⟨g, 0, none⟩), .int .i64 0]) ∧ w.heap.size ≤ g ∧ w.heap.size ≤ mb ∧ WorkAt x cs g mb w' ∧ w'.heap[mb]? = some (.map #[] 0))
set_option maxRecDepth 100000 in
set_option maxHeartbeats 4000000 in
theorem asked_calls (x : S38) (cs : List Value) (w : World) (hx : k38.K w x cs) (hv : faultC x = 0) :
    Calls Try.prog 77 #[.agg cs.toArray, .bool true] w (AskPost x cs w) := by
 have hb0 := fun o => below_alloc (Below.refl w.heap.size w) o
 have hchk := fun o => check_calls x cs (w.alloc o) (k38.K_below (hb0 o) hx)
 have hsc := fun W (hW : Below w.heap.size w W) => scenes_calls x cs W (k38.K_below hW hx)
 obtain ⟨A5, c5, A6, c6, A9, c9, A10, c10, hcs, _⟩ := k38_open hx
 have HX := Aside0.mk hx
 have HV := Aside0.mk ((valid_iff x).1 hv)
 rw [hv] at hchk
 subst hcs
 clear hx hv
 have hu := Try.underlying38
 have hu2 := Try.underlying133
 have hu3 := Try.underlying151
 have hu4 := Try.underlying107
 have hmm : ∀ W, (Instr.makeMap 148 none).run Try.prog W = .ok (.map (some W.heap.size)) (W.alloc (.map #[] 0)) := fun W => by simp [run_makeMap]
 refine (callsIn_wide (n := 0)).1 ?_
 refine callsIn_of_wp_marks Try.func77 rfl trivial ?_ rfl
 simp only [Try.ntmps77, List.size_toArray, List.length_cons, List.length_nil, Nat.reduceAdd, Nat.reduceSub, Array.replicate_succ, Array.replicate_zero, List.push_toArray, List.append_toArray, List.nil_append, List.cons_append]
 gi_wp2_with (first
  | (gi_at_call 58; refine (callsIn_wide.2 (hchk _)).mono ?_; rintro e w1 ⟨rfl, hb1⟩; clear hchk; have hB := bel2 (hb0 _) hb1; have BC : Blk w1 w.heap.size #[.int .i64 x.f0, .int .i64 x.f1, .int .i64 x.f2, .int .i64 x.f3, .int .i64 x.f4, .slice A5 x.f5.length c5, .slice A6 x.f6.length c6, .int .i64 x.f7.f0, .int .i64 x.f7.f1, .slice A9 x.f8.length c9, .slice A10 x.f9.length c10] 38 := (Blk.new w _ 38 _ rfl).below hb1; have HB := Aside0.mk hB; have HBC := Aside0.mk BC; have hlz := BC.lt; have k0 := BC.cell 0 _ rfl; have k1 := BC.cell 1 _ rfl; have k2 := BC.cell 2 _ rfl; have k3 := BC.cell 3 _ rfl; have k4 := BC.cell 4 _ rfl; have k5 := BC.cell 5 _ rfl; have k6 := BC.cell 6 _ rfl; have k7 := BC.cell 7 _ rfl; have k8 := BC.cell 8 _ rfl; have k9 := BC.cell 9 _ rfl; have k10 := BC.cell 10 _ rfl; have BC6 : Blk (((w1.alloc (.map #[] 0)).alloc (.cells #[.int .i64 x.f0, .int .i64 x.f1, .int .i64 x.f2, .int .i64 x.f3, .int .i64 x.f4, .slice A5 x.f5.length c5, .slice A6 x.f6.length c6, .int .i64 x.f7.f0, .int .i64 x.f7.f1, .slice A9 x.f8.length c9, .slice A10 x.f9.length c10, .slice none 0 0, .map (some w1.heap.size)] 151)).alloc (.cells #[.pointer (some ⟨w1.heap.size + 1, 0, none⟩)] 107)) w.heap.size #[.int .i64 x.f0, .int .i64 x.f1, .int .i64 x.f2, .int .i64 x.f3, .int .i64 x.f4, .slice A5 x.f5.length c5, .slice A6 x.f6.length c6, .int .i64 x.f7.f0, .int .i64 x.f7.f1, .slice A9 x.f8.length c9, .slice A10 x.f9.length c10] 38 := ((BC.alloc _).alloc _).alloc _; have m0 := BC6.cell 0 _ rfl; have m1 := BC6.cell 1 _ rfl; have m2 := BC6.cell 2 _ rfl; have m3 := BC6.cell 3 _ rfl; have m4 := BC6.cell 4 _ rfl; have m5 := BC6.cell 5 _ rfl; have m6 := BC6.cell 6 _ rfl; have m7 := BC6.cell 7 _ rfl; have m8 := BC6.cell 8 _ rfl; have m9 := BC6.cell 9 _ rfl; have m10 := BC6.cell 10 _ rfl; clear BC6; clear hB BC hb1)
  | (gi_at_call 117; refine (callsIn_wide.2 (hsc _ (bel2 HB.out (below_alloc (below_alloc (below_alloc (Below.refl _ _) _) _) _)))).mono ?_; rintro e w' ⟨rfl, rfl⟩))
 have hz : ((((w1.alloc (.map #[] 0)).alloc (.cells #[.int .i64 x.f0, .int .i64 x.f1, .int .i64 x.f2, .int .i64 x.f3, .int .i64 x.f4, .slice A5 x.f5.length c5, .slice A6 x.f6.length c6, .int .i64 x.f7.f0, .int .i64 x.f7.f1, .slice A9 x.f8.length c9, .slice A10 x.f9.length c10, .slice none 0 0, .map (some w1.heap.size)] 151)).alloc (.cells #[.pointer (some ⟨w1.heap.size + 1, 0, none⟩)] 107)).alloc (.cells #[.int .i64 x.f0, .int .i64 x.f1, .int .i64 x.f2, .int .i64 x.f3, .int .i64 x.f4, .slice A5 x.f5.length c5, .slice A6 x.f6.length c6, .int .i64 x.f7.f0, .int .i64 x.f7.f1, .slice A9 x.f8.length c9, .slice A10 x.f9.length c10] 38)).heap.size = w1.heap.size + 4 := by simp
 have h1 : Blk ((((w1.alloc (.map #[] 0)).alloc (.cells #[.int .i64 x.f0, .int .i64 x.f1, .int .i64 x.f2, .int .i64 x.f3, .int .i64 x.f4, .slice A5 x.f5.length c5, .slice A6 x.f6.length c6, .int .i64 x.f7.f0, .int .i64 x.f7.f1, .slice A9 x.f8.length c9, .slice A10 x.f9.length c10, .slice none 0 0, .map (some w1.heap.size)] 151)).alloc (.cells #[.pointer (some ⟨w1.heap.size + 1, 0, none⟩)] 107)).alloc (.cells #[.int .i64 x.f0, .int .i64 x.f1, .int .i64 x.f2, .int .i64 x.f3, .int .i64 x.f4, .slice A5 x.f5.length c5, .slice A6 x.f6.length c6, .int .i64 x.f7.f0, .int .i64 x.f7.f1, .slice A9 x.f8.length c9, .slice A10 x.f9.length c10] 38)) w.heap.size #[.int .i64 x.f0, .int .i64 x.f1, .int .i64 x.f2, .int .i64 x.f3, .int .i64 x.f4, .slice A5 x.f5.length c5, .slice A6 x.f6.length c6, .int .i64 x.f7.f0, .int .i64 x.f7.f1, .slice A9 x.f8.length c9, .slice A10 x.f9.length c10] 38 := (((HBC.out.alloc _).alloc _).alloc _).alloc _
 have h2 : ((((w1.alloc (.map #[] 0)).alloc (.cells #[.int .i64 x.f0, .int .i64 x.f1, .int .i64 x.f2, .int .i64 x.f3, .int .i64 x.f4, .slice A5 x.f5.length c5, .slice A6 x.f6.length c6, .int .i64 x.f7.f0, .int .i64 x.f7.f1, .slice A9 x.f8.length c9, .slice A10 x.f9.length c10, .slice none 0 0, .map (some w1.heap.size)] 151)).alloc (.cells #[.pointer (some ⟨w1.heap.size + 1, 0, none⟩)] 107)).alloc (.cells #[.int .i64 x.f0, .int .i64 x.f1, .int .i64 x.f2, .int .i64 x.f3, .int .i64 x.f4, .slice A5 x.f5.length c5, .slice A6 x.f6.length c6, .int .i64 x.f7.f0, .int .i64 x.f7.f1, .slice A9 x.f8.length c9, .slice A10 x.f9.length c10] 38)).heap[w1.heap.size]? = some (.map #[] 0) := by
  have e := World.alloc_heap_new w1 (.map #[] 0)
  exact ((Below.heap_alloc _ _ _ (by simp; omega)).trans ((Below.heap_alloc _ _ _ (by simp; omega)).trans (Below.heap_alloc _ _ _ (by simp)))).trans e
 have h3 : Blk ((((w1.alloc (.map #[] 0)).alloc (.cells #[.int .i64 x.f0, .int .i64 x.f1, .int .i64 x.f2, .int .i64 x.f3, .int .i64 x.f4, .slice A5 x.f5.length c5, .slice A6 x.f6.length c6, .int .i64 x.f7.f0, .int .i64 x.f7.f1, .slice A9 x.f8.length c9, .slice A10 x.f9.length c10, .slice none 0 0, .map (some w1.heap.size)] 151)).alloc (.cells #[.pointer (some ⟨w1.heap.size + 1, 0, none⟩)] 107)).alloc (.cells #[.int .i64 x.f0, .int .i64 x.f1, .int .i64 x.f2, .int .i64 x.f3, .int .i64 x.f4, .slice A5 x.f5.length c5, .slice A6 x.f6.length c6, .int .i64 x.f7.f0, .int .i64 x.f7.f1, .slice A9 x.f8.length c9, .slice A10 x.f9.length c10] 38)) (w1.heap.size + 1) #[.int .i64 x.f0, .int .i64 x.f1, .int .i64 x.f2, .int .i64 x.f3, .int .i64 x.f4, .slice A5 x.f5.length c5, .slice A6 x.f6.length c6, .int .i64 x.f7.f0, .int .i64 x.f7.f1, .slice A9 x.f8.length c9, .slice A10 x.f9.length c10, .slice none 0 0, .map (some w1.heap.size)] 151 := ((Blk.new _ _ _ _ (by simp)).alloc _).alloc _
 have h4 : Blk ((((w1.alloc (.map #[] 0)).alloc (.cells #[.int .i64 x.f0, .int .i64 x.f1, .int .i64 x.f2, .int .i64 x.f3, .int .i64 x.f4, .slice A5 x.f5.length c5, .slice A6 x.f6.length c6, .int .i64 x.f7.f0, .int .i64 x.f7.f1, .slice A9 x.f8.length c9, .slice A10 x.f9.length c10, .slice none 0 0, .map (some w1.heap.size)] 151)).alloc (.cells #[.pointer (some ⟨w1.heap.size + 1, 0, none⟩)] 107)).alloc (.cells #[.int .i64 x.f0, .int .i64 x.f1, .int .i64 x.f2, .int .i64 x.f3, .int .i64 x.f4, .slice A5 x.f5.length c5, .slice A6 x.f6.length c6, .int .i64 x.f7.f0, .int .i64 x.f7.f1, .slice A9 x.f8.length c9, .slice A10 x.f9.length c10] 38)) (w1.heap.size + 1 + 1) #[.pointer (some ⟨w1.heap.size + 1, 0, none⟩)] 107 := (Blk.new _ _ _ _ (by simp)).alloc _
 have h5 : Blk ((((w1.alloc (.map #[] 0)).alloc (.cells #[.int .i64 x.f0, .int .i64 x.f1, .int .i64 x.f2, .int .i64 x.f3, .int .i64 x.f4, .slice A5 x.f5.length c5, .slice A6 x.f6.length c6, .int .i64 x.f7.f0, .int .i64 x.f7.f1, .slice A9 x.f8.length c9, .slice A10 x.f9.length c10, .slice none 0 0, .map (some w1.heap.size)] 151)).alloc (.cells #[.pointer (some ⟨w1.heap.size + 1, 0, none⟩)] 107)).alloc (.cells #[.int .i64 x.f0, .int .i64 x.f1, .int .i64 x.f2, .int .i64 x.f3, .int .i64 x.f4, .slice A5 x.f5.length c5, .slice A6 x.f6.length c6, .int .i64 x.f7.f0, .int .i64 x.f7.f1, .slice A9 x.f8.length c9, .slice A10 x.f9.length c10] 38)) (w1.heap.size + 1 + 1 + 1) #[.int .i64 x.f0, .int .i64 x.f1, .int .i64 x.f2, .int .i64 x.f3, .int .i64 x.f4, .slice A5 x.f5.length c5, .slice A6 x.f6.length c6, .int .i64 x.f7.f0, .int .i64 x.f7.f1, .slice A9 x.f8.length c9, .slice A10 x.f9.length c10] 38 := Blk.new _ _ _ _ (by simp)
 have h6 : Below w.heap.size w ((((w1.alloc (.map #[] 0)).alloc (.cells #[.int .i64 x.f0, .int .i64 x.f1, .int .i64 x.f2, .int .i64 x.f3, .int .i64 x.f4, .slice A5 x.f5.length c5, .slice A6 x.f6.length c6, .int .i64 x.f7.f0, .int .i64 x.f7.f1, .slice A9 x.f8.length c9, .slice A10 x.f9.length c10, .slice none 0 0, .map (some w1.heap.size)] 151)).alloc (.cells #[.pointer (some ⟨w1.heap.size + 1, 0, none⟩)] 107)).alloc (.cells #[.int .i64 x.f0, .int .i64 x.f1, .int .i64 x.f2, .int .i64 x.f3, .int .i64 x.f4, .slice A5 x.f5.length c5, .slice A6 x.f6.length c6, .int .i64 x.f7.f0, .int .i64 x.f7.f1, .slice A9 x.f8.length c9, .slice A10 x.f9.length c10] 38)) := bel2 HB.out (below_alloc (below_alloc (below_alloc (below_alloc (Below.refl _ _) _) _) _) _)
 generalize ((((w1.alloc (.map #[] 0)).alloc (.cells #[.int .i64 x.f0, .int .i64 x.f1, .int .i64 x.f2, .int .i64 x.f3, .int .i64 x.f4, .slice A5 x.f5.length c5, .slice A6 x.f6.length c6, .int .i64 x.f7.f0, .int .i64 x.f7.f1, .slice A9 x.f8.length c9, .slice A10 x.f9.length c10, .slice none 0 0, .map (some w1.heap.size)] 151)).alloc (.cells #[.pointer (some ⟨w1.heap.size + 1, 0, none⟩)] 107)).alloc (.cells #[.int .i64 x.f0, .int .i64 x.f1, .int .i64 x.f2, .int .i64 x.f3, .int .i64 x.f4, .slice A5 x.f5.length c5, .slice A6 x.f6.length c6, .int .i64 x.f7.f0, .int .i64 x.f7.f1, .slice A9 x.f8.length c9, .slice A10 x.f9.length c10] 38)) = W0 at hz h1 h2 h3 h4 h5 h6 ⊢
 clear k0 k1 k2 k3 k4 k5 k6 k7 k8 k9 k10 m0 m1 m2 m3 m4 m5 m6 m7 m8 m9 m10 HBC HB hmm hsc hb0
 generalize w1.heap.size = m1 at *
 have HI : ∀ {W : World}, Below w.heap.size w W → k38.K W x [.int .i64 x.f0, .int .i64 x.f1, .int .i64 x.f2, .int .i64 x.f3, .int .i64 x.f4, .slice A5 x.f5.length c5, .slice A6 x.f6.length c6, .int .i64 x.f7.f0, .int .i64 x.f7.f1, .slice A9 x.f8.length c9, .slice A10 x.f9.length c10] := fun hW => k38.K_below hW HX.out
 refine wpIn_rangeFunc_mine (gf := 134) (lb := #[.pointer (some ⟨m1 + 1 + 1 + 1, 0, none⟩)]) rfl (enters_of Try.func134 (by kernel_rfl) rfl) (scenes1_calls x [.int .i64 x.f0, .int .i64 x.f1, .int .i64 x.f2, .int .i64 x.f3, .int .i64 x.f4, .slice A5 x.f5.length c5, .slice A6 x.f6.length c6, .int .i64 x.f7.f0, .int .i64 x.f7.f1, .slice A9 x.f8.length c9, .slice A10 x.f9.length c10] HV.out (m1 + 1 + 1 + 1)) (fun _ => rfl)
  (fun pre W => Blk W w.heap.size #[.int .i64 x.f0, .int .i64 x.f1, .int .i64 x.f2, .int .i64 x.f3, .int .i64 x.f4, .slice A5 x.f5.length c5, .slice A6 x.f6.length c6, .int .i64 x.f7.f0, .int .i64 x.f7.f1, .slice A9 x.f8.length c9, .slice A10 x.f9.length c10] 38 ∧ Blk W (m1 + 1 + 1) #[.pointer (some ⟨m1 + 1, 0, none⟩)] 107 ∧ Blk W (m1 + 1 + 1 + 1) #[.int .i64 x.f0, .int .i64 x.f1, .int .i64 x.f2, .int .i64 x.f3, .int .i64 x.f4, .slice A5 x.f5.length c5, .slice A6 x.f6.length c6, .int .i64 x.f7.f0, .int .i64 x.f7.f1, .slice A9 x.f8.length c9, .slice A10 x.f9.length c10] 38 ∧ Below w.heap.size w W ∧ W.heap[m1]? = some (.map #[] 0) ∧ ∃ v, Blk W (m1 + 1) #[.int .i64 x.f0, .int .i64 x.f1, .int .i64 x.f2, .int .i64 x.f3, .int .i64 x.f4, .slice A5 x.f5.length c5, .slice A6 x.f6.length c6, .int .i64 x.f7.f0, .int .i64 x.f7.f1, .slice A9 x.f8.length c9, .slice A10 x.f9.length c10, v, .map (some m1)] 151 ∧ W.ownsRow (m1 + 9) 133 6 v (truthTo x pre).length (scCells (truthTo x pre)))
  (fun _ _ _ => False)
  (fun pre A B h hk => by
   rw [hz] at hk
   obtain ⟨i1, i2, i3, i4, i5, v, i6, i7⟩ := h
   refine ⟨i1.mach hk (by omega), i2.mach hk (by omega), i3.mach hk (by omega), hk.below i4 (Nat.le_refl _) (by omega), (hk.block m1 (Array.getElem?_eq_some_iff.1 i5).1 (by omega)).trans i5, v, i6.mach hk (by omega), ?_⟩
   exact own_move i7 (fun k hk2 => hk.block k (own_lt i7 k hk2) (by have := own_base i7 k hk2; omega)))
  (fun _ _ _ _ h _ => h)
  (fun pre A h => ⟨h.2.2.1, HI h.2.2.2.1⟩)
  ⟨h1, h4, h5, h6, h2, .slice none 0 0, h3, own_nil _ _ _ _⟩
  (fun pre y a' W => ∃ Bx, m1 + 9 ≤ Bx ∧ Blk W Bx #[.int .i64 y.h, .int .i64 y.l0, .int .i64 y.l1, .int .i64 y.l2, .int .i64 y.l3, .int .i64 y.l4] 133 ∧ a' = { tmps := #[.agg #[.int .i64 x.f0, .int .i64 x.f1, .int .i64 x.f2, .int .i64 x.f3, .int .i64 x.f4, .slice A5 x.f5.length c5, .slice A6 x.f6.length c6, .int .i64 x.f7.f0, .int .i64 x.f7.f1, .slice A9 x.f8.length c9, .slice A10 x.f9.length c10], .bool true, .pointer (some ⟨w.heap.size, 0, none⟩), undef, .pointer none, .int .i64 0, .int .i64 0, .pointer (some ⟨m1 + 1 + 1, 0, none⟩), .pointer (some ⟨Bx, 0, none⟩), .agg #[.int .i64 x.f0, .int .i64 x.f1, .int .i64 x.f2, .int .i64 x.f3, .int .i64 x.f4, .slice A5 x.f5.length c5, .slice A6 x.f6.length c6, .int .i64 x.f7.f0, .int .i64 x.f7.f1, .slice A9 x.f8.length c9, .slice A10 x.f9.length c10], .int .i64 0, .int .i64 0, .bool false, undef, .bool true, .bool false, .agg #[.int .i64 x.f0, .int .i64 x.f1, .int .i64 x.f2, .int .i64 x.f3, .int .i64 x.f4, .slice A5 x.f5.length c5, .slice A6 x.f6.length c6, .int .i64 x.f7.f0, .int .i64 x.f7.f1, .slice A9 x.f8.length c9, .slice A10 x.f9.length c10], .map (some m1), .agg #[.int .i64 x.f0, .int .i64 x.f1, .int .i64 x.f2, .int .i64 x.f3, .int .i64 x.f4, .slice A5 x.f5.length c5, .slice A6 x.f6.length c6, .int .i64 x.f7.f0, .int .i64 x.f7.f1, .slice A9 x.f8.length c9, .slice A10 x.f9.length c10, .slice none 0 0, .map (some m1)], .pointer (some ⟨m1 + 1, 0, none⟩), .agg #[.int .i64 x.f0, .int .i64 x.f1, .int .i64 x.f2, .int .i64 x.f3, .int .i64 x.f4, .slice A5 x.f5.length c5, .slice A6 x.f6.length c6, .int .i64 x.f7.f0, .int .i64 x.f7.f1, .slice A9 x.f8.length c9, .slice A10 x.f9.length c10], .func (.func 134) #[] #[.pointer (some ⟨m1 + 1 + 1 + 1, 0, none⟩)], .agg #[.int .i64 y.h, .int .i64 y.l0, .int .i64 y.l1, .int .i64 y.l2, .int .i64 y.l3, .int .i64 y.l4], undef, undef, undef, undef, undef, undef, undef, undef, undef, undef, undef, undef, undef, undef, undef, undef, undef, undef, undef, undef, undef, undef, undef, undef, undef, undef, undef, undef, undef, undef, undef, undef, undef, undef, undef, undef, undef, undef, undef, undef, undef, undef, undef, undef], defers := [] } ∧ ∀ v, Blk W (m1 + 1) #[.int .i64 x.f0, .int .i64 x.f1, .int .i64 x.f2, .int .i64 x.f3, .int .i64 x.f4, .slice A5 x.f5.length c5, .slice A6 x.f6.length c6, .int .i64 x.f7.f0, .int .i64 x.f7.f1, .slice A9 x.f8.length c9, .slice A10 x.f9.length c10, v, .map (some m1)] 151 → v.ownBlock ≠ some Bx)
  (fun pre y a' A B h hi hk => by
   rw [hz] at hk
   obtain ⟨Bx, hB, hb, ha, hv⟩ := h
   obtain ⟨_, _, _, _, _, v0, i6, _⟩ := hi
   exact ⟨Bx, hB, hb.mach hk (by omega), ha, fun v h1 => hv v ((hk.block (m1 + 1) i6.lt (by omega)).symm.trans h1)⟩)
  ?assign ?body ?done ?stop
 case assign =>
  intro l pre y W K hsz hI hK
  obtain ⟨i1, i2, i3, i4, i5, v, i6, i7⟩ := hI
  have hK2 := hK { tmps := #[.agg #[.int .i64 x.f0, .int .i64 x.f1, .int .i64 x.f2, .int .i64 x.f3, .int .i64 x.f4, .slice A5 x.f5.length c5, .slice A6 x.f6.length c6, .int .i64 x.f7.f0, .int .i64 x.f7.f1, .slice A9 x.f8.length c9, .slice A10 x.f9.length c10], .bool true, .pointer (some ⟨w.heap.size, 0, none⟩), undef, .pointer none, .int .i64 0, .int .i64 0, .pointer (some ⟨m1 + 1 + 1, 0, none⟩), .pointer (some ⟨W.heap.size, 0, none⟩), .agg #[.int .i64 x.f0, .int .i64 x.f1, .int .i64 x.f2, .int .i64 x.f3, .int .i64 x.f4, .slice A5 x.f5.length c5, .slice A6 x.f6.length c6, .int .i64 x.f7.f0, .int .i64 x.f7.f1, .slice A9 x.f8.length c9, .slice A10 x.f9.length c10], .int .i64 0, .int .i64 0, .bool false, undef, .bool true, .bool false, .agg #[.int .i64 x.f0, .int .i64 x.f1, .int .i64 x.f2, .int .i64 x.f3, .int .i64 x.f4, .slice A5 x.f5.length c5, .slice A6 x.f6.length c6, .int .i64 x.f7.f0, .int .i64 x.f7.f1, .slice A9 x.f8.length c9, .slice A10 x.f9.length c10], .map (some m1), .agg #[.int .i64 x.f0, .int .i64 x.f1, .int .i64 x.f2, .int .i64 x.f3, .int .i64 x.f4, .slice A5 x.f5.length c5, .slice A6 x.f6.length c6, .int .i64 x.f7.f0, .int .i64 x.f7.f1, .slice A9 x.f8.length c9, .slice A10 x.f9.length c10, .slice none 0 0, .map (some m1)], .pointer (some ⟨m1 + 1, 0, none⟩), .agg #[.int .i64 x.f0, .int .i64 x.f1, .int .i64 x.f2, .int .i64 x.f3, .int .i64 x.f4, .slice A5 x.f5.length c5, .slice A6 x.f6.length c6, .int .i64 x.f7.f0, .int .i64 x.f7.f1, .slice A9 x.f8.length c9, .slice A10 x.f9.length c10], .func (.func 134) #[] #[.pointer (some ⟨m1 + 1 + 1 + 1, 0, none⟩)], .agg #[.int .i64 y.h, .int .i64 y.l0, .int .i64 y.l1, .int .i64 y.l2, .int .i64 y.l3, .int .i64 y.l4], undef, undef, undef, undef, undef, undef, undef, undef, undef, undef, undef, undef, undef, undef, undef, undef, undef, undef, undef, undef, undef, undef, undef, undef, undef, undef, undef, undef, undef, undef, undef, undef, undef, undef, undef, undef, undef, undef, undef, undef, undef, undef, undef, undef], defers := [] } (W.alloc (.cells #[.int .i64 y.h, .int .i64 y.l0, .int .i64 y.l1, .int .i64 y.l2, .int .i64 y.l3, .int .i64 y.l4] 133)) (KeepI.of_below (below_alloc (Below.refl _ _) _) hsz) (by simp)
   ⟨i1.alloc _, i2.alloc _, i3.alloc _, bel2 i4 (below_alloc (Below.refl _ _) _), (Below.heap_alloc _ _ _ (Array.getElem?_eq_some_iff.1 i5).1).trans i5, v, i6.alloc _, i7.alloc _⟩ ⟨W.heap.size, by rw [hz] at hsz; omega, Blk.new _ _ _ _ rfl, rfl, fun v' h1 => by
    have h2 : Blk W (m1 + 1) #[.int .i64 x.f0, .int .i64 x.f1, .int .i64 x.f2, .int .i64 x.f3, .int .i64 x.f4, .slice A5 x.f5.length c5, .slice A6 x.f6.length c6, .int .i64 x.f7.f0, .int .i64 x.f7.f1, .slice A9 x.f8.length c9, .slice A10 x.f9.length c10, v', .map (some m1)] 151 := (Below.heap_alloc _ _ _ i6.lt).symm.trans h1
    have h3 : v = v' := by
     have e2 := (i6.cell 11 v rfl).symm.trans (h2.cell 11 v' rfl)
     exact Option.some.inj e2
    subst h3
    intro e
    have := own_lt i7 _ e
    omega⟩
  clear hK i1 i2 i3 i4 i5 i6 i7
  gi_wp2
  exact hK2
 case body =>
  rintro l pre y a' W hsz hy hI ⟨Bx, hB, hb, rfl, hap⟩
  rw [hz] at hsz
  have hIn := (mem_allSc HV.out).1 (hy.subset (List.mem_append_right pre (List.mem_singleton_self y)))
  have hlen : (truthTo x pre).length < 1000000000000 := by
   have h1 := hy.length_le
   have h2 := allSc_len HV.out
   have h3 := truthTo_len x pre
   rw [List.length_append, List.length_singleton] at h1
   omega
  have hsn := truthTo_snoc x pre y
  obtain ⟨i1, i2, i3, i4, i5, v, i6, i7⟩ := hI
  have hcall := right_calls x _ y none 0 [] W.drew (HI (below_drew i4)) (nil_int W.drew) HV.out (hIn.ok HV.out)
  simp only [List.length_nil] at hcall
  have hap2 := hap v i6
  obtain ⟨A, c, rfl, hrow⟩ := sc_own_C i7
  have HAP := Aside0.mk hap2
  clear hap hap2
  have k0 := i1.cell 0 _ rfl
  have k1 := i1.cell 1 _ rfl
  have k2 := i1.cell 2 _ rfl
  have k3 := i1.cell 3 _ rfl
  have k4 := i1.cell 4 _ rfl
  have k5 := i1.cell 5 _ rfl
  have k6 := i1.cell 6 _ rfl
  have k7 := i1.cell 7 _ rfl
  have k8 := i1.cell 8 _ rfl
  have k9 := i1.cell 9 _ rfl
  have k10 := i1.cell 10 _ rfl
  have b0 := hb.cell 0 _ rfl
  have b1 := hb.cell 1 _ rfl
  have b2 := hb.cell 2 _ rfl
  have b3 := hb.cell 3 _ rfl
  have b4 := hb.cell 4 _ rfl
  have b5 := hb.cell 5 _ rfl
  have kp := i2.cell 0 _ rfl
  have kt := i6.cell 11 _ rfl
  have II := Aside0.mk (And.intro i1 (And.intro i2 (And.intro i3 (And.intro i4 (And.intro i5 (And.intro i6 i7))))))
  have HY := Aside0.mk hy
  have HROW := Aside0.mk hrow
  generalize hT : truthTo x pre = T at *
  have HSN := Lib.hid hsn
  have HBX := Aside0.mk hb
  clear i1 i2 i3 i4 i5 i6 i7 hb hIn hy hrow HI hT hsn
  cases hr : rightB x y [] with
  | false =>
   rw [hr] at hcall
   have HT2 := Lib.hid (show addT x T y = T by unfold addT; rw [hr]; rfl)
   have HCALL := Aside0.mk hcall
   clear hr hcall
   gi_wp2
   apply toRound_
   ·kernel_rfl
   ·rintro ⟨_, _, h⟩; exact h
   ·kernel_rfl
   refine startAny_ (n := 27) (S := fun w' => w'.cell? ⟨w.heap.size, 0, none⟩ = some (.int .i64 x.f0) ∧ w'.cell? ⟨w.heap.size, 1, none⟩ = some (.int .i64 x.f1) ∧ w'.cell? ⟨w.heap.size, 2, none⟩ = some (.int .i64 x.f2) ∧ w'.cell? ⟨w.heap.size, 3, none⟩ = some (.int .i64 x.f3) ∧ w'.cell? ⟨w.heap.size, 4, none⟩ = some (.int .i64 x.f4) ∧ w'.cell? ⟨w.heap.size, 5, none⟩ = some (.slice A5 x.f5.length c5) ∧ w'.cell? ⟨w.heap.size, 6, none⟩ = some (.slice A6 x.f6.length c6) ∧ w'.cell? ⟨w.heap.size, 7, none⟩ = some (.int .i64 x.f7.f0) ∧ w'.cell? ⟨w.heap.size, 8, none⟩ = some (.int .i64 x.f7.f1) ∧ w'.cell? ⟨w.heap.size, 9, none⟩ = some (.slice A9 x.f8.length c9) ∧ w'.cell? ⟨w.heap.size, 10, none⟩ = some (.slice A10 x.f9.length c10) ∧ w'.cell? ⟨Bx, 0, none⟩ = some (.int .i64 y.h) ∧ w'.cell? ⟨Bx, 1, none⟩ = some (.int .i64 y.l0) ∧ w'.cell? ⟨Bx, 2, none⟩ = some (.int .i64 y.l1) ∧ w'.cell? ⟨Bx, 3, none⟩ = some (.int .i64 y.l2) ∧ w'.cell? ⟨Bx, 4, none⟩ = some (.int .i64 y.l3) ∧ w'.cell? ⟨Bx, 5, none⟩ = some (.int .i64 y.l4) ∧ w'.cell? ⟨m1 + 1 + 1, 0, none⟩ = some (.pointer (some ⟨m1 + 1, 0, none⟩)) ∧ w'.cell? ⟨m1 + 1, 11, none⟩ = some (.slice A T.length c)) (ds := []) #[false, false, false, false, false, false, false, false, false, false, false, false, false, false, false, false, false, false, false, false, false, false, false, false, false, false, false] (by kernel_rfl) rfl rfl ⟨k0, k1, k2, k3, k4, k5, k6, k7, k8, k9, k10, b0, b1, b2, b3, b4, b5, kp, kt⟩ (fun hHeld => ?_)
   refine take_ (i := 0) (N := some 23) (v := ?_) (a' := ?_) (bs 27 1) rfl rfl (by kernel_rfl) (fun _ _ _ h => h) (Or.inl ⟨by rfl, ?_⟩) hHeld ?_ ?_
   rotate_left
   ·rintro w' ⟨s0, s1, s2, s3, s4, s5, s6, s7, s8, s9, s10, s11, s12, s13, s14, s15, s16, s17, s18⟩
    go_simp
    with_reducible rfl
   rotate_left
   ·simp only [Act.put, List.setIfInBounds_toArray, List.set_cons_zero, List.set_cons_succ, i64_w, i32_w]
    rfl
   refine take_ (i := 1) (N := some 24) (v := ?_) (a' := ?_) (bs 27 3) rfl rfl (by kernel_rfl) (fun _ _ _ h => h) (Or.inl ⟨by rfl, ?_⟩) hHeld ?_ ?_
   rotate_left
   ·rintro w' ⟨s0, s1, s2, s3, s4, s5, s6, s7, s8, s9, s10, s11, s12, s13, s14, s15, s16, s17, s18⟩
    go_simp
    with_reducible rfl
   rotate_left
   ·simp only [Act.put, List.setIfInBounds_toArray, List.set_cons_zero, List.set_cons_succ, i64_w, i32_w]
    rfl
   refine one_ (i := 2) (N := some 25) (bs 27 7) rfl rfl (by kernel_rfl) (by decide) (fun K hK => ?_)
   refine goes_ Try.func100 (by kernel_rfl) rfl #[.agg #[.int .i64 x.f0, .int .i64 x.f1, .int .i64 x.f2, .int .i64 x.f3, .int .i64 x.f4, .slice A5 x.f5.length c5, .slice A6 x.f6.length c6, .int .i64 x.f7.f0, .int .i64 x.f7.f1, .slice A9 x.f8.length c9, .slice A10 x.f9.length c10], .agg #[.int .i64 y.h, .int .i64 y.l0, .int .i64 y.l1, .int .i64 y.l2, .int .i64 y.l3, .int .i64 y.l4], .slice none 0 0] (by rfl) rfl rfl (by simp only [List.map_toArray, List.map_cons, List.map_nil]; rfl) ?_
   with_reducible refine (HCALL.out).mono ?_
   rintro e W3 ⟨rfl, hb3⟩
   refine ⟨_, rfl, ?_⟩
   refine hK.out _ _ ⟨pw_cell_below hb3 hHeld.1, pw_cell_below hb3 hHeld.2.1, pw_cell_below hb3 hHeld.2.2.1, pw_cell_below hb3 hHeld.2.2.2.1, pw_cell_below hb3 hHeld.2.2.2.2.1, pw_cell_below hb3 hHeld.2.2.2.2.2.1, pw_cell_below hb3 hHeld.2.2.2.2.2.2.1, pw_cell_below hb3 hHeld.2.2.2.2.2.2.2.1, pw_cell_below hb3 hHeld.2.2.2.2.2.2.2.2.1, pw_cell_below hb3 hHeld.2.2.2.2.2.2.2.2.2.1, pw_cell_below hb3 hHeld.2.2.2.2.2.2.2.2.2.2.1, pw_cell_below hb3 hHeld.2.2.2.2.2.2.2.2.2.2.2.1, pw_cell_below hb3 hHeld.2.2.2.2.2.2.2.2.2.2.2.2.1, pw_cell_below hb3 hHeld.2.2.2.2.2.2.2.2.2.2.2.2.2.1, pw_cell_below hb3 hHeld.2.2.2.2.2.2.2.2.2.2.2.2.2.2.1, pw_cell_below hb3 hHeld.2.2.2.2.2.2.2.2.2.2.2.2.2.2.2.1, pw_cell_below hb3 hHeld.2.2.2.2.2.2.2.2.2.2.2.2.2.2.2.2.1, pw_cell_below hb3 hHeld.2.2.2.2.2.2.2.2.2.2.2.2.2.2.2.2.2.1, pw_cell_below hb3 hHeld.2.2.2.2.2.2.2.2.2.2.2.2.2.2.2.2.2.2⟩ (fun hHeld => ?_)
   clear hK K
   refine norm_ (a' := ?_) ?_ ?_
   rotate_left
   ·show Act.put _ (some 25) _ = _
    simp only [Act.put, List.setIfInBounds_toArray, List.set_cons_zero, List.set_cons_succ, i64_w, i32_w]
    rfl
   refine pure_ (i := 3) (N := some 26) (v := ?_) (a' := ?_) (bs 27 15) rfl rfl (by kernel_rfl) (fun _ _ _ h => h) (Or.inl ⟨by rfl, ?_⟩) ?_ ?_
   rotate_left
   ·intro w'
    go_simp
    with_reducible rfl
   rotate_left
   ·simp only [Act.put, List.setIfInBounds_toArray, List.set_cons_zero, List.set_cons_succ, i64_w, i32_w]
    rfl
   refine pure_ (i := 4) (N := some 27) (v := undef) (a' := ?_) (bs 27 31) rfl rfl (by kernel_rfl) (fun _ _ _ h => h) (Or.inr ⟨by rfl, rfl⟩) ?_ ?_
   rotate_left
   ·simp only [Act.put, List.setIfInBounds_toArray, List.set_cons_zero, List.set_cons_succ, i64_w, i32_w]
    rfl
   refine pure_ (i := 5) (N := some 28) (v := undef) (a' := ?_) (bs 27 63) rfl rfl (by kernel_rfl) (fun _ _ _ h => h) (Or.inr ⟨by rfl, rfl⟩) ?_ ?_
   rotate_left
   ·simp only [Act.put, List.setIfInBounds_toArray, List.set_cons_zero, List.set_cons_succ, i64_w, i32_w]
    rfl
   refine pure_ (i := 6) (N := some 29) (v := undef) (a' := ?_) (bs 27 127) rfl rfl (by kernel_rfl) (fun _ _ _ h => h) (Or.inr ⟨by rfl, rfl⟩) ?_ ?_
   rotate_left
   ·simp only [Act.put, List.setIfInBounds_toArray, List.set_cons_zero, List.set_cons_succ, i64_w, i32_w]
    rfl
   refine pure_ (i := 7) (N := some 30) (v := undef) (a' := ?_) (bs 27 255) rfl rfl (by kernel_rfl) (fun _ _ _ h => h) (Or.inr ⟨by rfl, rfl⟩) ?_ ?_
   rotate_left
   ·simp only [Act.put, List.setIfInBounds_toArray, List.set_cons_zero, List.set_cons_succ, i64_w, i32_w]
    rfl
   refine pure_ (i := 8) (N := some 31) (v := undef) (a' := ?_) (bs 27 511) rfl rfl (by kernel_rfl) (fun _ _ _ h => h) (Or.inr ⟨by rfl, rfl⟩) ?_ ?_
   rotate_left
   ·simp only [Act.put, List.setIfInBounds_toArray, List.set_cons_zero, List.set_cons_succ, i64_w, i32_w]
    rfl
   refine pure_ (i := 9) (N := some 32) (v := undef) (a' := ?_) (bs 27 1023) rfl rfl (by kernel_rfl) (fun _ _ _ h => h) (Or.inr ⟨by rfl, rfl⟩) ?_ ?_
   rotate_left
   ·simp only [Act.put, List.setIfInBounds_toArray, List.set_cons_zero, List.set_cons_succ, i64_w, i32_w]
    rfl
   refine pure_ (i := 10) (N := some 33) (v := undef) (a' := ?_) (bs 27 2047) rfl rfl (by kernel_rfl) (fun _ _ _ h => h) (Or.inr ⟨by rfl, rfl⟩) ?_ ?_
   rotate_left
   ·simp only [Act.put, List.setIfInBounds_toArray, List.set_cons_zero, List.set_cons_succ, i64_w, i32_w]
    rfl
   refine pure_ (i := 11) (N := some 34) (v := undef) (a' := ?_) (bs 27 4095) rfl rfl (by kernel_rfl) (fun _ _ _ h => h) (Or.inr ⟨by rfl, rfl⟩) ?_ ?_
   rotate_left
   ·simp only [Act.put, List.setIfInBounds_toArray, List.set_cons_zero, List.set_cons_succ, i64_w, i32_w]
    rfl
   refine pure_ (i := 12) (N := some 35) (v := undef) (a' := ?_) (bs 27 8191) rfl rfl (by kernel_rfl) (fun _ _ _ h => h) (Or.inr ⟨by rfl, rfl⟩) ?_ ?_
   rotate_left
   ·simp only [Act.put, List.setIfInBounds_toArray, List.set_cons_zero, List.set_cons_succ, i64_w, i32_w]
    rfl
   refine pure_ (i := 13) (N := some 36) (v := undef) (a' := ?_) (bs 27 16383) rfl rfl (by kernel_rfl) (fun _ _ _ h => h) (Or.inr ⟨by rfl, rfl⟩) ?_ ?_
   rotate_left
   ·simp only [Act.put, List.setIfInBounds_toArray, List.set_cons_zero, List.set_cons_succ, i64_w, i32_w]
    rfl
   refine pure_ (i := 14) (N := some 37) (v := undef) (a' := ?_) (bs 27 32767) rfl rfl (by kernel_rfl) (fun _ _ _ h => h) (Or.inr ⟨by rfl, rfl⟩) ?_ ?_
   rotate_left
   ·simp only [Act.put, List.setIfInBounds_toArray, List.set_cons_zero, List.set_cons_succ, i64_w, i32_w]
    rfl
   refine pure_ (i := 15) (N := some 38) (v := undef) (a' := ?_) (bs 27 65535) rfl rfl (by kernel_rfl) (fun _ _ _ h => h) (Or.inr ⟨by rfl, rfl⟩) ?_ ?_
   rotate_left
   ·simp only [Act.put, List.setIfInBounds_toArray, List.set_cons_zero, List.set_cons_succ, i64_w, i32_w]
    rfl
   refine pure_ (i := 16) (N := some 39) (v := undef) (a' := ?_) (bs 27 131071) rfl rfl (by kernel_rfl) (fun _ _ _ h => h) (Or.inr ⟨by rfl, rfl⟩) ?_ ?_
   rotate_left
   ·simp only [Act.put, List.setIfInBounds_toArray, List.set_cons_zero, List.set_cons_succ, i64_w, i32_w]
    rfl
   refine pure_ (i := 17) (N := some 40) (v := undef) (a' := ?_) (bs 27 262143) rfl rfl (by kernel_rfl) (fun _ _ _ h => h) (Or.inr ⟨by rfl, rfl⟩) ?_ ?_
   rotate_left
   ·simp only [Act.put, List.setIfInBounds_toArray, List.set_cons_zero, List.set_cons_succ, i64_w, i32_w]
    rfl
   refine pure_ (i := 18) (N := some 41) (v := undef) (a' := ?_) (bs 27 524287) rfl rfl (by kernel_rfl) (fun _ _ _ h => h) (Or.inr ⟨by rfl, rfl⟩) ?_ ?_
   rotate_left
   ·simp only [Act.put, List.setIfInBounds_toArray, List.set_cons_zero, List.set_cons_succ, i64_w, i32_w]
    rfl
   refine pure_ (i := 19) (N := some 42) (v := undef) (a' := ?_) (bs 27 1048575) rfl rfl (by kernel_rfl) (fun _ _ _ h => h) (Or.inr ⟨by rfl, rfl⟩) ?_ ?_
   rotate_left
   ·simp only [Act.put, List.setIfInBounds_toArray, List.set_cons_zero, List.set_cons_succ, i64_w, i32_w]
    rfl
   refine pure_ (i := 20) (N := some 43) (v := undef) (a' := ?_) (bs 27 2097151) rfl rfl (by kernel_rfl) (fun _ _ _ h => h) (Or.inr ⟨by rfl, rfl⟩) ?_ ?_
   rotate_left
   ·simp only [Act.put, List.setIfInBounds_toArray, List.set_cons_zero, List.set_cons_succ, i64_w, i32_w]
    rfl
   refine pure_ (i := 21) (N := some 44) (v := undef) (a' := ?_) (bs 27 4194303) rfl rfl (by kernel_rfl) (fun _ _ _ h => h) (Or.inr ⟨by rfl, rfl⟩) ?_ ?_
   rotate_left
   ·simp only [Act.put, List.setIfInBounds_toArray, List.set_cons_zero, List.set_cons_succ, i64_w, i32_w]
    rfl
   refine pure_ (i := 22) (N := some 45) (v := undef) (a' := ?_) (bs 27 8388607) rfl rfl (by kernel_rfl) (fun _ _ _ h => h) (Or.inr ⟨by rfl, rfl⟩) ?_ ?_
   rotate_left
   ·simp only [Act.put, List.setIfInBounds_toArray, List.set_cons_zero, List.set_cons_succ, i64_w, i32_w]
    rfl
   refine pure_ (i := 23) (N := some 46) (v := undef) (a' := ?_) (bs 27 16777215) rfl rfl (by kernel_rfl) (fun _ _ _ h => h) (Or.inr ⟨by rfl, rfl⟩) ?_ ?_
   rotate_left
   ·simp only [Act.put, List.setIfInBounds_toArray, List.set_cons_zero, List.set_cons_succ, i64_w, i32_w]
    rfl
   refine pure_ (i := 24) (N := some 47) (v := undef) (a' := ?_) (bs 27 33554431) rfl rfl (by kernel_rfl) (fun _ _ _ h => h) (Or.inr ⟨by rfl, rfl⟩) ?_ ?_
   rotate_left
   ·simp only [Act.put, List.setIfInBounds_toArray, List.set_cons_zero, List.set_cons_succ, i64_w, i32_w]
    rfl
   refine pure_ (i := 25) (N := some 48) (v := undef) (a' := ?_) (bs 27 67108863) rfl rfl (by kernel_rfl) (fun _ _ _ h => h) (Or.inr ⟨by rfl, rfl⟩) ?_ ?_
   rotate_left
   ·simp only [Act.put, List.setIfInBounds_toArray, List.set_cons_zero, List.set_cons_succ, i64_w, i32_w]
    rfl
   refine pure_ (i := 26) (N := some 49) (v := ?_) (a' := ?_) (bs 27 134217727) rfl rfl (by kernel_rfl) (fun _ _ _ h => h) (Or.inl ⟨by rfl, ?_⟩) ?_ ?_
   rotate_left
   ·intro w'
    go_simp
    with_reducible rfl
   rotate_left
   ·simp only [Act.put, List.setIfInBounds_toArray, List.set_cons_zero, List.set_cons_succ, i64_w, i32_w]
    rfl
   refine done_ (by kernel_rfl) ?_
   clear hHeld
   have hb4 : Below W.heap.size W W3 := bel2 (below_drew (Below.refl _ _)) hb3
   have hpost : mPost W0.heap.size (3 + 2) (fun pre W => Blk W w.heap.size #[.int .i64 x.f0, .int .i64 x.f1, .int .i64 x.f2, .int .i64 x.f3, .int .i64 x.f4, .slice A5 x.f5.length c5, .slice A6 x.f6.length c6, .int .i64 x.f7.f0, .int .i64 x.f7.f1, .slice A9 x.f8.length c9, .slice A10 x.f9.length c10] 38 ∧ Blk W (m1 + 1 + 1) #[.pointer (some ⟨m1 + 1, 0, none⟩)] 107 ∧ Blk W (m1 + 1 + 1 + 1) #[.int .i64 x.f0, .int .i64 x.f1, .int .i64 x.f2, .int .i64 x.f3, .int .i64 x.f4, .slice A5 x.f5.length c5, .slice A6 x.f6.length c6, .int .i64 x.f7.f0, .int .i64 x.f7.f1, .slice A9 x.f8.length c9, .slice A10 x.f9.length c10] 38 ∧ Below w.heap.size w W ∧ W.heap[m1]? = some (.map #[] 0) ∧ ∃ v, Blk W (m1 + 1) #[.int .i64 x.f0, .int .i64 x.f1, .int .i64 x.f2, .int .i64 x.f3, .int .i64 x.f4, .slice A5 x.f5.length c5, .slice A6 x.f6.length c6, .int .i64 x.f7.f0, .int .i64 x.f7.f1, .slice A9 x.f8.length c9, .slice A10 x.f9.length c10, v, .map (some m1)] 151 ∧ W.ownsRow (m1 + 9) 133 6 v (truthTo x pre).length (scCells (truthTo x pre))) (fun _ _ _ => False) (pre ++ [y]) W .normal { tmps := #[], defers := [] } W3 := by
    obtain ⟨i1, i2, i3, i4, i5, i6, i7⟩ := II.out
    refine ⟨KeepI.of_below hb4 (by omega), i1.below hb4, i2.below hb4, i3.below hb4, bel2 i4 hb4, (hb4.block m1 (Array.getElem?_eq_some_iff.1 i5).1).trans i5, _, i6.below hb4, ?_⟩
    rw [HSN.out, HT2.out]
    exact own_move i7 (fun k hk2 => hb4.block k (own_lt i7 k hk2))
   have HPOST := Aside0.mk hpost
   clear hpost hb4 hb3
   gi_wp2
   exact HPOST.out
  | true =>
   rw [hr] at hcall
   have HCALL := Aside0.mk hcall
   have HRT := Lib.hid hr
   clear hr hcall
   by_cases hTe : T = []
   ·have HT2 := Lib.hid (show addT x T y = T ++ [y] by unfold addT; rw [HRT.out, hTe]; simp)
    have hTl : (T.length : Int) = 0 := by rw [hTe]; rfl
    have HTE := Lib.hid hTe
    clear hTe
    gi_wp2
    apply toRound_
    ·kernel_rfl
    ·rintro ⟨_, _, h⟩; exact h
    ·kernel_rfl
    refine startAny_ (n := 27) (S := fun w' => w'.cell? ⟨w.heap.size, 0, none⟩ = some (.int .i64 x.f0) ∧ w'.cell? ⟨w.heap.size, 1, none⟩ = some (.int .i64 x.f1) ∧ w'.cell? ⟨w.heap.size, 2, none⟩ = some (.int .i64 x.f2) ∧ w'.cell? ⟨w.heap.size, 3, none⟩ = some (.int .i64 x.f3) ∧ w'.cell? ⟨w.heap.size, 4, none⟩ = some (.int .i64 x.f4) ∧ w'.cell? ⟨w.heap.size, 5, none⟩ = some (.slice A5 x.f5.length c5) ∧ w'.cell? ⟨w.heap.size, 6, none⟩ = some (.slice A6 x.f6.length c6) ∧ w'.cell? ⟨w.heap.size, 7, none⟩ = some (.int .i64 x.f7.f0) ∧ w'.cell? ⟨w.heap.size, 8, none⟩ = some (.int .i64 x.f7.f1) ∧ w'.cell? ⟨w.heap.size, 9, none⟩ = some (.slice A9 x.f8.length c9) ∧ w'.cell? ⟨w.heap.size, 10, none⟩ = some (.slice A10 x.f9.length c10) ∧ w'.cell? ⟨Bx, 0, none⟩ = some (.int .i64 y.h) ∧ w'.cell? ⟨Bx, 1, none⟩ = some (.int .i64 y.l0) ∧ w'.cell? ⟨Bx, 2, none⟩ = some (.int .i64 y.l1) ∧ w'.cell? ⟨Bx, 3, none⟩ = some (.int .i64 y.l2) ∧ w'.cell? ⟨Bx, 4, none⟩ = some (.int .i64 y.l3) ∧ w'.cell? ⟨Bx, 5, none⟩ = some (.int .i64 y.l4) ∧ w'.cell? ⟨m1 + 1 + 1, 0, none⟩ = some (.pointer (some ⟨m1 + 1, 0, none⟩)) ∧ w'.cell? ⟨m1 + 1, 11, none⟩ = some (.slice A T.length c)) (ds := []) #[false, false, false, false, false, false, false, false, false, false, false, false, false, false, false, false, false, false, false, false, false, false, false, false, false, false, false] (by kernel_rfl) rfl rfl ⟨k0, k1, k2, k3, k4, k5, k6, k7, k8, k9, k10, b0, b1, b2, b3, b4, b5, kp, kt⟩ (fun hHeld => ?_)
    refine take_ (i := 0) (N := some 23) (v := ?_) (a' := ?_) (bs 27 1) rfl rfl (by kernel_rfl) (fun _ _ _ h => h) (Or.inl ⟨by rfl, ?_⟩) hHeld ?_ ?_
    rotate_left
    ·rintro w' ⟨s0, s1, s2, s3, s4, s5, s6, s7, s8, s9, s10, s11, s12, s13, s14, s15, s16, s17, s18⟩
     go_simp
     with_reducible rfl
    rotate_left
    ·simp only [Act.put, List.setIfInBounds_toArray, List.set_cons_zero, List.set_cons_succ, i64_w, i32_w]
     rfl
    refine take_ (i := 1) (N := some 24) (v := ?_) (a' := ?_) (bs 27 3) rfl rfl (by kernel_rfl) (fun _ _ _ h => h) (Or.inl ⟨by rfl, ?_⟩) hHeld ?_ ?_
    rotate_left
    ·rintro w' ⟨s0, s1, s2, s3, s4, s5, s6, s7, s8, s9, s10, s11, s12, s13, s14, s15, s16, s17, s18⟩
     go_simp
     with_reducible rfl
    rotate_left
    ·simp only [Act.put, List.setIfInBounds_toArray, List.set_cons_zero, List.set_cons_succ, i64_w, i32_w]
     rfl
    refine one_ (i := 2) (N := some 25) (bs 27 7) rfl rfl (by kernel_rfl) (by decide) (fun K hK => ?_)
    refine goes_ Try.func100 (by kernel_rfl) rfl #[.agg #[.int .i64 x.f0, .int .i64 x.f1, .int .i64 x.f2, .int .i64 x.f3, .int .i64 x.f4, .slice A5 x.f5.length c5, .slice A6 x.f6.length c6, .int .i64 x.f7.f0, .int .i64 x.f7.f1, .slice A9 x.f8.length c9, .slice A10 x.f9.length c10], .agg #[.int .i64 y.h, .int .i64 y.l0, .int .i64 y.l1, .int .i64 y.l2, .int .i64 y.l3, .int .i64 y.l4], .slice none 0 0] (by rfl) rfl rfl (by simp only [List.map_toArray, List.map_cons, List.map_nil]; rfl) ?_
    with_reducible refine (HCALL.out).mono ?_
    rintro e W3 ⟨rfl, hb3⟩
    refine ⟨_, rfl, ?_⟩
    refine hK.out _ _ ⟨pw_cell_below hb3 hHeld.1, pw_cell_below hb3 hHeld.2.1, pw_cell_below hb3 hHeld.2.2.1, pw_cell_below hb3 hHeld.2.2.2.1, pw_cell_below hb3 hHeld.2.2.2.2.1, pw_cell_below hb3 hHeld.2.2.2.2.2.1, pw_cell_below hb3 hHeld.2.2.2.2.2.2.1, pw_cell_below hb3 hHeld.2.2.2.2.2.2.2.1, pw_cell_below hb3 hHeld.2.2.2.2.2.2.2.2.1, pw_cell_below hb3 hHeld.2.2.2.2.2.2.2.2.2.1, pw_cell_below hb3 hHeld.2.2.2.2.2.2.2.2.2.2.1, pw_cell_below hb3 hHeld.2.2.2.2.2.2.2.2.2.2.2.1, pw_cell_below hb3 hHeld.2.2.2.2.2.2.2.2.2.2.2.2.1, pw_cell_below hb3 hHeld.2.2.2.2.2.2.2.2.2.2.2.2.2.1, pw_cell_below hb3 hHeld.2.2.2.2.2.2.2.2.2.2.2.2.2.2.1, pw_cell_below hb3 hHeld.2.2.2.2.2.2.2.2.2.2.2.2.2.2.2.1, pw_cell_below hb3 hHeld.2.2.2.2.2.2.2.2.2.2.2.2.2.2.2.2.1, pw_cell_below hb3 hHeld.2.2.2.2.2.2.2.2.2.2.2.2.2.2.2.2.2.1, pw_cell_below hb3 hHeld.2.2.2.2.2.2.2.2.2.2.2.2.2.2.2.2.2.2⟩ (fun hHeld => ?_)
    clear hK K
    refine norm_ (a' := ?_) ?_ ?_
    rotate_left
    ·show Act.put _ (some 25) _ = _
     simp only [Act.put, List.setIfInBounds_toArray, List.set_cons_zero, List.set_cons_succ, i64_w, i32_w]
     rfl
    refine pure_ (i := 3) (N := some 26) (v := ?_) (a' := ?_) (bs 27 15) rfl rfl (by kernel_rfl) (fun _ _ _ h => h) (Or.inl ⟨by rfl, ?_⟩) ?_ ?_
    rotate_left
    ·intro w'
     go_simp
     with_reducible rfl
    rotate_left
    ·simp only [Act.put, List.setIfInBounds_toArray, List.set_cons_zero, List.set_cons_succ, i64_w, i32_w]
     rfl
    refine take_ (i := 4) (N := some 27) (v := ?_) (a' := ?_) (bs 27 31) rfl rfl (by kernel_rfl) (fun _ _ _ h => h) (Or.inl ⟨by rfl, ?_⟩) hHeld ?_ ?_
    rotate_left
    ·rintro w' ⟨s0, s1, s2, s3, s4, s5, s6, s7, s8, s9, s10, s11, s12, s13, s14, s15, s16, s17, s18⟩
     go_simp
     with_reducible rfl
    rotate_left
    ·simp only [Act.put, List.setIfInBounds_toArray, List.set_cons_zero, List.set_cons_succ, i64_w, i32_w]
     rfl
    refine pure_ (i := 5) (N := some 28) (v := ?_) (a' := ?_) (bs 27 63) rfl rfl (by kernel_rfl) (fun _ _ _ h => h) (Or.inl ⟨by rfl, ?_⟩) ?_ ?_
    rotate_left
    ·intro w'
     go_simp
     with_reducible rfl
    rotate_left
    ·simp only [Act.put, List.setIfInBounds_toArray, List.set_cons_zero, List.set_cons_succ, i64_w, i32_w]
     rfl
    refine pure_ (i := 6) (N := some 29) (v := ?_) (a' := ?_) (bs 27 127) rfl rfl (by kernel_rfl) (fun _ _ _ h => h) (Or.inl ⟨by rfl, ?_⟩) ?_ ?_
    rotate_left
    ·intro w'
     go_simp
     with_reducible rfl
    rotate_left
    ·simp only [Act.put, List.setIfInBounds_toArray, List.set_cons_zero, List.set_cons_succ, i64_w, i32_w]
     rfl
    refine take_ (i := 7) (N := some 30) (v := ?_) (a' := ?_) (bs 27 255) rfl rfl (by kernel_rfl) (fun _ _ _ h => h) (Or.inl ⟨by rfl, ?_⟩) hHeld ?_ ?_
    rotate_left
    ·rintro w' ⟨s0, s1, s2, s3, s4, s5, s6, s7, s8, s9, s10, s11, s12, s13, s14, s15, s16, s17, s18⟩
     go_simp
     with_reducible rfl
    rotate_left
    ·simp only [Act.put, List.setIfInBounds_toArray, List.set_cons_zero, List.set_cons_succ, i64_w, i32_w]
     rfl
    refine pure_ (i := 8) (N := some 31) (v := ?_) (a' := ?_) (bs 27 511) rfl rfl (by kernel_rfl) (fun _ _ _ h => h) (Or.inl ⟨by rfl, ?_⟩) ?_ ?_
    rotate_left
    ·intro w'
     go_simp
     with_reducible rfl
    rotate_left
    ·simp only [Act.put, List.setIfInBounds_toArray, List.set_cons_zero, List.set_cons_succ, i64_w, i32_w]
     rfl
    refine pure_ (i := 9) (N := some 32) (v := ?_) (a' := ?_) (bs 27 1023) rfl rfl (by kernel_rfl) (fun _ _ _ h => h) (Or.inl ⟨by rfl, ?_⟩) ?_ ?_
    rotate_left
    ·intro w'
     go_simp
     with_reducible rfl
    rotate_left
    ·simp only [Act.put, List.setIfInBounds_toArray, List.set_cons_zero, List.set_cons_succ, i64_w, i32_w]
     rfl
    refine pure_ (i := 10) (N := some 33) (v := ?_) (a' := ?_) (bs 27 2047) rfl rfl (by kernel_rfl) (fun _ _ _ h => h) (Or.inl ⟨by rfl, ?_⟩) ?_ ?_
    rotate_left
    ·intro w'
     go_simp
     with_reducible rfl
    rotate_left
    ·simp only [Act.put, List.setIfInBounds_toArray, List.set_cons_zero, List.set_cons_succ, i64_w, i32_w]
     rfl
    refine pure_ (i := 11) (N := some 34) (v := undef) (a' := ?_) (bs 27 4095) rfl rfl (by kernel_rfl) (fun _ _ _ h => h) (Or.inr ⟨by rfl, rfl⟩) ?_ ?_
    rotate_left
    ·simp only [Act.put, List.setIfInBounds_toArray, List.set_cons_zero, List.set_cons_succ, i64_w, i32_w]
     rfl
    refine pure_ (i := 12) (N := some 35) (v := undef) (a' := ?_) (bs 27 8191) rfl rfl (by kernel_rfl) (fun _ _ _ h => h) (Or.inr ⟨by rfl, rfl⟩) ?_ ?_
    rotate_left
    ·simp only [Act.put, List.setIfInBounds_toArray, List.set_cons_zero, List.set_cons_succ, i64_w, i32_w]
     rfl
    refine pure_ (i := 13) (N := some 36) (v := undef) (a' := ?_) (bs 27 16383) rfl rfl (by kernel_rfl) (fun _ _ _ h => h) (Or.inr ⟨by rfl, rfl⟩) ?_ ?_
    rotate_left
    ·simp only [Act.put, List.setIfInBounds_toArray, List.set_cons_zero, List.set_cons_succ, i64_w, i32_w]
     rfl
    refine pure_ (i := 14) (N := some 37) (v := undef) (a' := ?_) (bs 27 32767) rfl rfl (by kernel_rfl) (fun _ _ _ h => h) (Or.inr ⟨by rfl, rfl⟩) ?_ ?_
    rotate_left
    ·simp only [Act.put, List.setIfInBounds_toArray, List.set_cons_zero, List.set_cons_succ, i64_w, i32_w]
     rfl
    refine pure_ (i := 15) (N := some 38) (v := undef) (a' := ?_) (bs 27 65535) rfl rfl (by kernel_rfl) (fun _ _ _ h => h) (Or.inr ⟨by rfl, rfl⟩) ?_ ?_
    rotate_left
    ·simp only [Act.put, List.setIfInBounds_toArray, List.set_cons_zero, List.set_cons_succ, i64_w, i32_w]
     rfl
    refine pure_ (i := 16) (N := some 39) (v := undef) (a' := ?_) (bs 27 131071) rfl rfl (by kernel_rfl) (fun _ _ _ h => h) (Or.inr ⟨by rfl, rfl⟩) ?_ ?_
    rotate_left
    ·simp only [Act.put, List.setIfInBounds_toArray, List.set_cons_zero, List.set_cons_succ, i64_w, i32_w]
     rfl
    refine pure_ (i := 17) (N := some 40) (v := undef) (a' := ?_) (bs 27 262143) rfl rfl (by kernel_rfl) (fun _ _ _ h => h) (Or.inr ⟨by rfl, rfl⟩) ?_ ?_
    rotate_left
    ·simp only [Act.put, List.setIfInBounds_toArray, List.set_cons_zero, List.set_cons_succ, i64_w, i32_w]
     rfl
    refine pure_ (i := 18) (N := some 41) (v := undef) (a' := ?_) (bs 27 524287) rfl rfl (by kernel_rfl) (fun _ _ _ h => h) (Or.inr ⟨by rfl, rfl⟩) ?_ ?_
    rotate_left
    ·simp only [Act.put, List.setIfInBounds_toArray, List.set_cons_zero, List.set_cons_succ, i64_w, i32_w]
     rfl
    refine pure_ (i := 19) (N := some 42) (v := undef) (a' := ?_) (bs 27 1048575) rfl rfl (by kernel_rfl) (fun _ _ _ h => h) (Or.inr ⟨by rfl, rfl⟩) ?_ ?_
    rotate_left
    ·simp only [Act.put, List.setIfInBounds_toArray, List.set_cons_zero, List.set_cons_succ, i64_w, i32_w]
     rfl
    refine pure_ (i := 20) (N := some 43) (v := undef) (a' := ?_) (bs 27 2097151) rfl rfl (by kernel_rfl) (fun _ _ _ h => h) (Or.inr ⟨by rfl, rfl⟩) ?_ ?_
    rotate_left
    ·simp only [Act.put, List.setIfInBounds_toArray, List.set_cons_zero, List.set_cons_succ, i64_w, i32_w]
     rfl
    refine pure_ (i := 21) (N := some 44) (v := undef) (a' := ?_) (bs 27 4194303) rfl rfl (by kernel_rfl) (fun _ _ _ h => h) (Or.inr ⟨by rfl, rfl⟩) ?_ ?_
    rotate_left
    ·simp only [Act.put, List.setIfInBounds_toArray, List.set_cons_zero, List.set_cons_succ, i64_w, i32_w]
     rfl
    refine pure_ (i := 22) (N := some 45) (v := undef) (a' := ?_) (bs 27 8388607) rfl rfl (by kernel_rfl) (fun _ _ _ h => h) (Or.inr ⟨by rfl, rfl⟩) ?_ ?_
    rotate_left
    ·simp only [Act.put, List.setIfInBounds_toArray, List.set_cons_zero, List.set_cons_succ, i64_w, i32_w]
     rfl
    refine pure_ (i := 23) (N := some 46) (v := undef) (a' := ?_) (bs 27 16777215) rfl rfl (by kernel_rfl) (fun _ _ _ h => h) (Or.inr ⟨by rfl, rfl⟩) ?_ ?_
    rotate_left
    ·simp only [Act.put, List.setIfInBounds_toArray, List.set_cons_zero, List.set_cons_succ, i64_w, i32_w]
     rfl
    refine pure_ (i := 24) (N := some 47) (v := undef) (a' := ?_) (bs 27 33554431) rfl rfl (by kernel_rfl) (fun _ _ _ h => h) (Or.inr ⟨by rfl, rfl⟩) ?_ ?_
    rotate_left
    ·simp only [Act.put, List.setIfInBounds_toArray, List.set_cons_zero, List.set_cons_succ, i64_w, i32_w]
     rfl
    refine pure_ (i := 25) (N := some 48) (v := ?_) (a' := ?_) (bs 27 67108863) rfl rfl (by kernel_rfl) (fun _ _ _ h => h) (Or.inl ⟨by rfl, ?_⟩) ?_ ?_
    rotate_left
    ·intro w'
     go_simp
     with_reducible rfl
    rotate_left
    ·simp only [Act.put, List.setIfInBounds_toArray, List.set_cons_zero, List.set_cons_succ, i64_w, i32_w]
     rfl
    refine pure_ (i := 26) (N := some 49) (v := ?_) (a' := ?_) (bs 27 134217727) rfl rfl (by kernel_rfl) (fun _ _ _ h => h) (Or.inl ⟨by rfl, ?_⟩) ?_ ?_
    rotate_left
    ·intro w'
     go_simp
     with_reducible rfl
    rotate_left
    ·simp only [Act.put, List.setIfInBounds_toArray, List.set_cons_zero, List.set_cons_succ, i64_w, i32_w]
     rfl
    refine done_ (by kernel_rfl) ?_
    have hb4 : Below W.heap.size W W3 := bel2 (below_drew (Below.refl _ _)) hb3
    have HB4 := Aside0.mk hb4
    have q0 := hHeld.1
    have q1 := hHeld.2.1
    have q2 := hHeld.2.2.1
    have q3 := hHeld.2.2.2.1
    have q4 := hHeld.2.2.2.2.1
    have q5 := hHeld.2.2.2.2.2.1
    have q6 := hHeld.2.2.2.2.2.2.1
    have q7 := hHeld.2.2.2.2.2.2.2.1
    have q8 := hHeld.2.2.2.2.2.2.2.2.1
    have q9 := hHeld.2.2.2.2.2.2.2.2.2.1
    have q10 := hHeld.2.2.2.2.2.2.2.2.2.2.1
    have q11 := hHeld.2.2.2.2.2.2.2.2.2.2.2.1
    have q12 := hHeld.2.2.2.2.2.2.2.2.2.2.2.2.1
    have q13 := hHeld.2.2.2.2.2.2.2.2.2.2.2.2.2.1
    have q14 := hHeld.2.2.2.2.2.2.2.2.2.2.2.2.2.2.1
    have q15 := hHeld.2.2.2.2.2.2.2.2.2.2.2.2.2.2.2.1
    have q16 := hHeld.2.2.2.2.2.2.2.2.2.2.2.2.2.2.2.2.1
    have q17 := hHeld.2.2.2.2.2.2.2.2.2.2.2.2.2.2.2.2.2.1
    have q18 := hHeld.2.2.2.2.2.2.2.2.2.2.2.2.2.2.2.2.2.2
    have hbz := HBX.out.below hb4
    have HBZ := Aside0.mk hbz
    clear hHeld hb3 hb4 hbz
    have hs3 : W.heap.size ≤ W3.heap.size := HB4.out.size
    have HOWN : Aside0 (((W3.alloc (.cells #[.int .i64 y.h, .int .i64 y.l0, .int .i64 y.l1, .int .i64 y.l2, .int .i64 y.l3, .int .i64 y.l4] 133)).drew).ownsRow (m1 + 9) 133 6 (.slice A T.length c) T.length (scCells T)) := ⟨(own_move II.out.2.2.2.2.2.2 (fun k hk2 => HB4.out.block k (own_lt II.out.2.2.2.2.2.2 k hk2))).alloc _⟩
    have HF5 : Aside0 (∀ w5, ((W3.alloc (.cells #[.int .i64 y.h, .int .i64 y.l0, .int .i64 y.l1, .int .i64 y.l2, .int .i64 y.l3, .int .i64 y.l4] 133)).drew).grownBy w5 (Value.slice A T.length c).ownBlock → w5.frozen? ⟨m1 + 1, 11, none⟩ = false) := ⟨fun w5 hg => (((II.out.2.2.2.2.2.1.below HB4.out).alloc _).drew.grown hg (fun e => by have := own_base HOWN.out _ e.symm; omega)).frozen 11⟩
    gi_wp2
    apply toRound_
    ·kernel_rfl
    ·rintro ⟨_, _, h⟩; exact h
    ·kernel_rfl
    refine startAny_ (n := 11) (S := fun w' => w'.cell? ⟨m1 + 1 + 1, 0, none⟩ = some (.pointer (some ⟨m1 + 1, 0, none⟩)) ∧ w'.cell? ⟨m1 + 1, 11, none⟩ = some (.slice A T.length c) ∧ w'.cell? ⟨Bx, 0, none⟩ = some (.int .i64 y.h) ∧ w'.cell? ⟨Bx, 1, none⟩ = some (.int .i64 y.l0) ∧ w'.cell? ⟨Bx, 2, none⟩ = some (.int .i64 y.l1) ∧ w'.cell? ⟨Bx, 3, none⟩ = some (.int .i64 y.l2) ∧ w'.cell? ⟨Bx, 4, none⟩ = some (.int .i64 y.l3) ∧ w'.cell? ⟨Bx, 5, none⟩ = some (.int .i64 y.l4)) (ds := [10]) #[false, false, false, false, false, false, false, false, false, false, false] (by kernel_rfl) rfl rfl ⟨q17, q18, q11, q12, q13, q14, q15, q16⟩ (fun hHeld => ?_)
    refine take_ (i := 0) (N := some 50) (v := ?_) (a' := ?_) (bs 11 1) rfl rfl (by kernel_rfl) (fun _ _ _ h => h) (Or.inl ⟨by rfl, ?_⟩) hHeld ?_ ?_
    rotate_left
    ·rintro w' ⟨s0, s1, s2, s3, s4, s5, s6, s7⟩
     go_simp
     with_reducible rfl
    rotate_left
    ·simp only [Act.put, List.setIfInBounds_toArray, List.set_cons_zero, List.set_cons_succ, i64_w, i32_w]
     rfl
    refine take_ (i := 1) (N := some 51) (v := ?_) (a' := ?_) (bs 11 3) rfl rfl (by kernel_rfl) (fun _ _ _ h => h) (Or.inl ⟨by rfl, ?_⟩) hHeld ?_ ?_
    rotate_left
    ·rintro w' ⟨s0, s1, s2, s3, s4, s5, s6, s7⟩
     go_simp
     with_reducible rfl
    rotate_left
    ·simp only [Act.put, List.setIfInBounds_toArray, List.set_cons_zero, List.set_cons_succ, i64_w, i32_w]
     rfl
    refine pure_ (i := 2) (N := some 52) (v := ?_) (a' := ?_) (bs 11 7) rfl rfl (by kernel_rfl) (fun _ _ _ h => h) (Or.inl ⟨by rfl, ?_⟩) ?_ ?_
    rotate_left
    ·intro w'
     go_simp
     with_reducible rfl
    rotate_left
    ·simp only [Act.put, List.setIfInBounds_toArray, List.set_cons_zero, List.set_cons_succ, i64_w, i32_w]
     rfl
    refine pure_ (i := 3) (N := some 53) (v := ?_) (a' := ?_) (bs 11 15) rfl rfl (by kernel_rfl) (fun _ _ _ h => h) (Or.inl ⟨by rfl, ?_⟩) ?_ ?_
    rotate_left
    ·intro w'
     go_simp
     with_reducible rfl
    rotate_left
    ·simp only [Act.put, List.setIfInBounds_toArray, List.set_cons_zero, List.set_cons_succ, i64_w, i32_w]
     rfl
    refine take_ (i := 4) (N := some 54) (v := ?_) (a' := ?_) (bs 11 31) rfl rfl (by kernel_rfl) (fun _ _ _ h => h) (Or.inl ⟨by rfl, ?_⟩) hHeld ?_ ?_
    rotate_left
    ·rintro w' ⟨s0, s1, s2, s3, s4, s5, s6, s7⟩
     go_simp
     with_reducible rfl
    rotate_left
    ·simp only [Act.put, List.setIfInBounds_toArray, List.set_cons_zero, List.set_cons_succ, i64_w, i32_w]
     rfl
    refine take_ (i := 5) (N := some 55) (v := ?_) (a' := ?_) (bs 11 63) rfl rfl (by kernel_rfl) (fun _ _ _ h => h) (Or.inl ⟨by rfl, ?_⟩) hHeld ?_ ?_
    rotate_left
    ·rintro w' ⟨s0, s1, s2, s3, s4, s5, s6, s7⟩
     go_simp
     with_reducible rfl
    rotate_left
    ·simp only [Act.put, List.setIfInBounds_toArray, List.set_cons_zero, List.set_cons_succ, i64_w, i32_w]
     rfl
    refine one_ (i := 6) (N := some 56) (bs 11 127) rfl rfl (by kernel_rfl) (by decide) (fun K hK => ?_)
    refine value_ (w1 := ?_) (v := ?_) (by rfl) rfl ?_ ?_
    rotate_left 2
    ·go_simp
     constructor
     ·rfl
     ·rfl
    refine hK.out _ _ ⟨cell_al _ (hHeld.1), cell_al _ (hHeld.2.1), cell_al _ (hHeld.2.2.1), cell_al _ (hHeld.2.2.2.1), cell_al _ (hHeld.2.2.2.2.1), cell_al _ (hHeld.2.2.2.2.2.1), cell_al _ (hHeld.2.2.2.2.2.2.1), cell_al _ (hHeld.2.2.2.2.2.2.2)⟩ (fun hHeld => ?_)
    clear hK K
    refine norm_ (a' := ?_) ?_ ?_
    rotate_left
    ·show Act.put _ (some 56) _ = _
     simp only [Act.put, List.setIfInBounds_toArray, List.set_cons_zero, List.set_cons_succ, i64_w, i32_w]
     rfl
    refine one_ (i := 7) (N := some 57) (bs 11 255) rfl rfl (by kernel_rfl) (by decide) (fun K hK => ?_)
    refine append6_op (.tmp 54) (.tmp 56) (by rfl) rfl (m1 + 9) (.slice A T.length c) T y W3.heap.size 1 rfl rfl HOWN.out (Blk.drew (Blk.new _ _ _ _ rfl)) hlen (by show m1 + 9 ≤ (W3.alloc _).heap.size; simp; omega) ?_
    intro v5 w5 ho5 hg5 hat5
    obtain ⟨A7, c7, rfl, hrow5⟩ := sc_own_C ho5
    have hge := own_base HOWN.out
    have hn1 : some (m1 + 1) ≠ (Value.slice A T.length c).ownBlock := fun e => by have := hge _ e.symm; omega
    have hn2 : some (m1 + 1 + 1) ≠ (Value.slice A T.length c).ownBlock := fun e => by have := hge _ e.symm; omega
    have hn3 : some Bx ≠ (Value.slice A T.length c).ownBlock := fun e => HAP.out e.symm
    have HO5 := Aside0.mk (And.intro ho5 hg5)
    refine hK.out _ _ ⟨cell_grown' hg5 (hHeld.1) hn2, cell_grown' hg5 (hHeld.2.1) hn1, cell_grown' hg5 (hHeld.2.2.1) hn3, cell_grown' hg5 (hHeld.2.2.2.1) hn3, cell_grown' hg5 (hHeld.2.2.2.2.1) hn3, cell_grown' hg5 (hHeld.2.2.2.2.2.1) hn3, cell_grown' hg5 (hHeld.2.2.2.2.2.2.1) hn3, cell_grown' hg5 (hHeld.2.2.2.2.2.2.2) hn3⟩ (fun hHeld => ?_)
    clear hK K
    refine norm_ (a' := ?_) ?_ ?_
    rotate_left
    ·show Act.put _ (some 57) _ = _
     simp only [Act.put, List.setIfInBounds_toArray, List.set_cons_zero, List.set_cons_succ, i64_w, i32_w]
     rfl
    refine pure_ (i := 8) (N := some 58) (v := ?_) (a' := ?_) (bs 11 511) rfl rfl (by kernel_rfl) (fun _ _ _ h => h) (Or.inl ⟨by rfl, ?_⟩) ?_ ?_
    rotate_left
    ·intro w'
     go_simp
     with_reducible rfl
    rotate_left
    ·simp only [Act.put, List.setIfInBounds_toArray, List.set_cons_zero, List.set_cons_succ, i64_w, i32_w]
     rfl
    refine pure_ (i := 9) (N := some 59) (v := ?_) (a' := ?_) (bs 11 1023) rfl rfl (by kernel_rfl) (fun _ _ _ h => h) (Or.inl ⟨by rfl, ?_⟩) ?_ ?_
    rotate_left
    ·intro w'
     go_simp
     with_reducible rfl
    rotate_left
    ·simp only [Act.put, List.setIfInBounds_toArray, List.set_cons_zero, List.set_cons_succ, i64_w, i32_w]
     rfl
    refine last_ (i := 10) (N := none) (bs 11 2047) rfl rfl (by kernel_rfl) (by decide) (fun K hK => ?_)
    have hc_ : w5.cell? ⟨m1 + 1, 11, none⟩ = _ := hHeld.2.1
    have hf_ : w5.frozen? ⟨m1 + 1, 11, none⟩ = false := HF5.out w5 HO5.out.2
    refine skip_ (w1 := ?_) (by rfl) rfl ?_ ?_
    rotate_left
    ·go_simp
     rfl
    refine hK.out _ _ ?_
    clear hK K
    refine done_ (by kernel_rfl) ?_
    have hpost : mPost W0.heap.size (3 + 2) (fun pre W => Blk W w.heap.size #[.int .i64 x.f0, .int .i64 x.f1, .int .i64 x.f2, .int .i64 x.f3, .int .i64 x.f4, .slice A5 x.f5.length c5, .slice A6 x.f6.length c6, .int .i64 x.f7.f0, .int .i64 x.f7.f1, .slice A9 x.f8.length c9, .slice A10 x.f9.length c10] 38 ∧ Blk W (m1 + 1 + 1) #[.pointer (some ⟨m1 + 1, 0, none⟩)] 107 ∧ Blk W (m1 + 1 + 1 + 1) #[.int .i64 x.f0, .int .i64 x.f1, .int .i64 x.f2, .int .i64 x.f3, .int .i64 x.f4, .slice A5 x.f5.length c5, .slice A6 x.f6.length c6, .int .i64 x.f7.f0, .int .i64 x.f7.f1, .slice A9 x.f8.length c9, .slice A10 x.f9.length c10] 38 ∧ Below w.heap.size w W ∧ W.heap[m1]? = some (.map #[] 0) ∧ ∃ v, Blk W (m1 + 1) #[.int .i64 x.f0, .int .i64 x.f1, .int .i64 x.f2, .int .i64 x.f3, .int .i64 x.f4, .slice A5 x.f5.length c5, .slice A6 x.f6.length c6, .int .i64 x.f7.f0, .int .i64 x.f7.f1, .slice A9 x.f8.length c9, .slice A10 x.f9.length c10, v, .map (some m1)] 151 ∧ W.ownsRow (m1 + 9) 133 6 v (truthTo x pre).length (scCells (truthTo x pre))) (fun _ _ _ => False) (pre ++ [y]) W .normal { tmps := #[], defers := [] } (w5.setCell ⟨m1 + 1, 11, none⟩ (.slice A7 (T.length + 1) c7)) := by
     have hlen1 : (T ++ [y]).length = T.length + 1 := by simp
     have ho5 := HO5.out.1
     rw [hlen1] at ho5
     obtain ⟨i1, i2, i3, i4, i5, i6, i7⟩ := II.out
     have hg := HO5.out.2
     have hge := own_base HOWN.out
     have hlz := i6.lt
     have hBV : Below W.heap.size W ((W3.alloc (.cells #[.int .i64 y.h, .int .i64 y.l0, .int .i64 y.l1, .int .i64 y.l2, .int .i64 y.l3, .int .i64 y.l4] 133)).drew) := below_drew (below_alloc HB4.out _)
     have hgb : ∀ k, k < m1 + 9 → k < W.heap.size → w5.heap[k]? = W.heap[k]? := fun k h1 h2 => (hg.block k (by have := hBV.size; omega) (fun e => by have := hge _ e.symm; omega)).trans (hBV.block k h2)
     have hB5 : Below w.heap.size w w5 := (bel2 i4 hBV).grown hg (by have := (bel2 i4 hBV).size; exact this) (fun k e => by have := hge _ e; omega)
     refine ⟨fun k h1 h2 => ?_, ?_, ?_, ?_, hB5.setCell (p := ⟨m1 + 1, 11, none⟩) (by show w.heap.size ≤ m1 + 1; omega) _, ?_, .slice A7 (T.length + 1) c7, ?_, ?_⟩
     ·exact (Below.heap_setCell w5 _ _ k (by show k ≠ m1 + 1; omega)).trans (hgb k (by omega) (by omega))
     ·exact Blk.set_other ((hgb _ (by omega) i1.lt).trans i1) (by show w.heap.size ≠ m1 + 1; omega) _
     ·exact Blk.set_other ((hgb _ (by omega) i2.lt).trans i2) (by show m1 + 1 + 1 ≠ m1 + 1; omega) _
     ·exact Blk.set_other ((hgb _ (by omega) i3.lt).trans i3) (by show m1 + 1 + 1 + 1 ≠ m1 + 1; omega) _
     ·exact (Below.heap_setCell w5 _ _ m1 (by show m1 ≠ m1 + 1; omega)).trans ((hgb m1 (by omega) (Array.getElem?_eq_some_iff.1 i5).1).trans i5)
     ·exact Blk.set (show Blk w5 (m1 + 1) _ 151 from (hgb _ (by omega) i6.lt).trans i6) 11 _
     ·rw [HSN.out, HT2.out, hlen1]
      exact ownsRow_setCell_below ho5 (by show m1 + 1 < m1 + 9; omega) _
    have HPOST := Aside0.mk hpost
    clear hpost hHeld
    gi_wp2
    exact HPOST.out
   ·have hpos : 0 < T.length := Nat.pos_of_ne_zero (fun h => hTe (List.eq_nil_of_length_eq_zero h))
    obtain ⟨ad, hA, hc0, hc1, hc2, hc3, hc4, hc5⟩ := row_at_sc HROW.out (T.length - 1) (by omega)
    have hgl : T.getLast? = some (T[T.length - 1]'(by omega)) := by rw [List.getLast?_eq_getElem?]; simp
    generalize T[T.length - 1] = z at *
    obtain ⟨Ln, hLn⟩ : ∃ Ln : Int, (T.length : Int) - 1 = Ln := ⟨_, rfl⟩
    have hLt : T.length - 1 = Ln.toNat := by omega
    rw [hLt] at hc0 hc1 hc2 hc3 hc4 hc5
    have hL0 : 0 ≤ Ln := by omega
    have hL1 : Ln < (T.length : Int) := by omega
    have hne0 : ((T.length : Int) == 0) = false := by simp; omega
    have hw1 : wrap64 ((T.length : Int) - 1) = Ln := by rw [hLn]; exact IntWalk.wrap64_in _ (by omega)
    subst hA
    have HLT := Lib.hid hLt
    clear hLt hTe hLn
    by_cases hzy : z = y
    ·have HT2 := Lib.hid (show addT x T y = T by unfold addT; rw [HRT.out, if_pos rfl, hgl, hzy, if_pos rfl])
     have hzd : decide (z = y) = true := by simpa using hzy
     have HG := Lib.hid hgl
     clear hzy hgl
     gi_wp2
     apply toRound_
     ·kernel_rfl
     ·rintro ⟨_, _, h⟩; exact h
     ·kernel_rfl
     refine startAny_ (n := 27) (S := fun w' => w'.cell? ⟨w.heap.size, 0, none⟩ = some (.int .i64 x.f0) ∧ w'.cell? ⟨w.heap.size, 1, none⟩ = some (.int .i64 x.f1) ∧ w'.cell? ⟨w.heap.size, 2, none⟩ = some (.int .i64 x.f2) ∧ w'.cell? ⟨w.heap.size, 3, none⟩ = some (.int .i64 x.f3) ∧ w'.cell? ⟨w.heap.size, 4, none⟩ = some (.int .i64 x.f4) ∧ w'.cell? ⟨w.heap.size, 5, none⟩ = some (.slice A5 x.f5.length c5) ∧ w'.cell? ⟨w.heap.size, 6, none⟩ = some (.slice A6 x.f6.length c6) ∧ w'.cell? ⟨w.heap.size, 7, none⟩ = some (.int .i64 x.f7.f0) ∧ w'.cell? ⟨w.heap.size, 8, none⟩ = some (.int .i64 x.f7.f1) ∧ w'.cell? ⟨w.heap.size, 9, none⟩ = some (.slice A9 x.f8.length c9) ∧ w'.cell? ⟨w.heap.size, 10, none⟩ = some (.slice A10 x.f9.length c10) ∧ w'.cell? ⟨Bx, 0, none⟩ = some (.int .i64 y.h) ∧ w'.cell? ⟨Bx, 1, none⟩ = some (.int .i64 y.l0) ∧ w'.cell? ⟨Bx, 2, none⟩ = some (.int .i64 y.l1) ∧ w'.cell? ⟨Bx, 3, none⟩ = some (.int .i64 y.l2) ∧ w'.cell? ⟨Bx, 4, none⟩ = some (.int .i64 y.l3) ∧ w'.cell? ⟨Bx, 5, none⟩ = some (.int .i64 y.l4) ∧ w'.cell? ⟨m1 + 1 + 1, 0, none⟩ = some (.pointer (some ⟨m1 + 1, 0, none⟩)) ∧ w'.cell? ⟨m1 + 1, 11, none⟩ = some (.slice (some ad) T.length c) ∧ w'.cell? (ad.add (Ln.toNat * 6)) = some (.int .i64 z.h) ∧ w'.cell? ⟨(ad.add (Ln.toNat * 6)).block, (ad.add (Ln.toNat * 6)).off + 1, none⟩ = some (.int .i64 z.l0) ∧ w'.cell? ⟨(ad.add (Ln.toNat * 6)).block, (ad.add (Ln.toNat * 6)).off + 2, none⟩ = some (.int .i64 z.l1) ∧ w'.cell? ⟨(ad.add (Ln.toNat * 6)).block, (ad.add (Ln.toNat * 6)).off + 3, none⟩ = some (.int .i64 z.l2) ∧ w'.cell? ⟨(ad.add (Ln.toNat * 6)).block, (ad.add (Ln.toNat * 6)).off + 4, none⟩ = some (.int .i64 z.l3) ∧ w'.cell? ⟨(ad.add (Ln.toNat * 6)).block, (ad.add (Ln.toNat * 6)).off + 5, none⟩ = some (.int .i64 z.l4)) (ds := []) #[false, false, false, false, false, false, false, false, false, false, false, false, false, false, false, false, false, false, false, false, false, false, false, false, false, false, false] (by kernel_rfl) rfl rfl ⟨k0, k1, k2, k3, k4, k5, k6, k7, k8, k9, k10, b0, b1, b2, b3, b4, b5, kp, kt, hc0, hc1, hc2, hc3, hc4, hc5⟩ (fun hHeld => ?_)
     refine take_ (i := 0) (N := some 23) (v := ?_) (a' := ?_) (bs 27 1) rfl rfl (by kernel_rfl) (fun _ _ _ h => h) (Or.inl ⟨by rfl, ?_⟩) hHeld ?_ ?_
     rotate_left
     ·rintro w' ⟨s0, s1, s2, s3, s4, s5, s6, s7, s8, s9, s10, s11, s12, s13, s14, s15, s16, s17, s18, s19, s20, s21, s22, s23, s24⟩
      go_simp
      with_reducible rfl
     rotate_left
     ·simp only [Act.put, List.setIfInBounds_toArray, List.set_cons_zero, List.set_cons_succ, i64_w, i32_w]
      rfl
     refine take_ (i := 1) (N := some 24) (v := ?_) (a' := ?_) (bs 27 3) rfl rfl (by kernel_rfl) (fun _ _ _ h => h) (Or.inl ⟨by rfl, ?_⟩) hHeld ?_ ?_
     rotate_left
     ·rintro w' ⟨s0, s1, s2, s3, s4, s5, s6, s7, s8, s9, s10, s11, s12, s13, s14, s15, s16, s17, s18, s19, s20, s21, s22, s23, s24⟩
      go_simp
      with_reducible rfl
     rotate_left
     ·simp only [Act.put, List.setIfInBounds_toArray, List.set_cons_zero, List.set_cons_succ, i64_w, i32_w]
      rfl
     refine one_ (i := 2) (N := some 25) (bs 27 7) rfl rfl (by kernel_rfl) (by decide) (fun K hK => ?_)
     refine goes_ Try.func100 (by kernel_rfl) rfl #[.agg #[.int .i64 x.f0, .int .i64 x.f1, .int .i64 x.f2, .int .i64 x.f3, .int .i64 x.f4, .slice A5 x.f5.length c5, .slice A6 x.f6.length c6, .int .i64 x.f7.f0, .int .i64 x.f7.f1, .slice A9 x.f8.length c9, .slice A10 x.f9.length c10], .agg #[.int .i64 y.h, .int .i64 y.l0, .int .i64 y.l1, .int .i64 y.l2, .int .i64 y.l3, .int .i64 y.l4], .slice none 0 0] (by rfl) rfl rfl (by simp only [List.map_toArray, List.map_cons, List.map_nil]; rfl) ?_
     with_reducible refine (HCALL.out).mono ?_
     rintro e W3 ⟨rfl, hb3⟩
     refine ⟨_, rfl, ?_⟩
     refine hK.out _ _ ⟨pw_cell_below hb3 hHeld.1, pw_cell_below hb3 hHeld.2.1, pw_cell_below hb3 hHeld.2.2.1, pw_cell_below hb3 hHeld.2.2.2.1, pw_cell_below hb3 hHeld.2.2.2.2.1, pw_cell_below hb3 hHeld.2.2.2.2.2.1, pw_cell_below hb3 hHeld.2.2.2.2.2.2.1, pw_cell_below hb3 hHeld.2.2.2.2.2.2.2.1, pw_cell_below hb3 hHeld.2.2.2.2.2.2.2.2.1, pw_cell_below hb3 hHeld.2.2.2.2.2.2.2.2.2.1, pw_cell_below hb3 hHeld.2.2.2.2.2.2.2.2.2.2.1, pw_cell_below hb3 hHeld.2.2.2.2.2.2.2.2.2.2.2.1, pw_cell_below hb3 hHeld.2.2.2.2.2.2.2.2.2.2.2.2.1, pw_cell_below hb3 hHeld.2.2.2.2.2.2.2.2.2.2.2.2.2.1, pw_cell_below hb3 hHeld.2.2.2.2.2.2.2.2.2.2.2.2.2.2.1, pw_cell_below hb3 hHeld.2.2.2.2.2.2.2.2.2.2.2.2.2.2.2.1, pw_cell_below hb3 hHeld.2.2.2.2.2.2.2.2.2.2.2.2.2.2.2.2.1, pw_cell_below hb3 hHeld.2.2.2.2.2.2.2.2.2.2.2.2.2.2.2.2.2.1, pw_cell_below hb3 hHeld.2.2.2.2.2.2.2.2.2.2.2.2.2.2.2.2.2.2.1, pw_cell_below hb3 hHeld.2.2.2.2.2.2.2.2.2.2.2.2.2.2.2.2.2.2.2.1, pw_cell_below hb3 hHeld.2.2.2.2.2.2.2.2.2.2.2.2.2.2.2.2.2.2.2.2.1, pw_cell_below hb3 hHeld.2.2.2.2.2.2.2.2.2.2.2.2.2.2.2.2.2.2.2.2.2.1, pw_cell_below hb3 hHeld.2.2.2.2.2.2.2.2.2.2.2.2.2.2.2.2.2.2.2.2.2.2.1, pw_cell_below hb3 hHeld.2.2.2.2.2.2.2.2.2.2.2.2.2.2.2.2.2.2.2.2.2.2.2.1, pw_cell_below hb3 hHeld.2.2.2.2.2.2.2.2.2.2.2.2.2.2.2.2.2.2.2.2.2.2.2.2⟩ (fun hHeld => ?_)
     clear hK K
     refine norm_ (a' := ?_) ?_ ?_
     rotate_left
     ·show Act.put _ (some 25) _ = _
      simp only [Act.put, List.setIfInBounds_toArray, List.set_cons_zero, List.set_cons_succ, i64_w, i32_w]
      rfl
     refine pure_ (i := 3) (N := some 26) (v := ?_) (a' := ?_) (bs 27 15) rfl rfl (by kernel_rfl) (fun _ _ _ h => h) (Or.inl ⟨by rfl, ?_⟩) ?_ ?_
     rotate_left
     ·intro w'
      go_simp
      with_reducible rfl
     rotate_left
     ·simp only [Act.put, List.setIfInBounds_toArray, List.set_cons_zero, List.set_cons_succ, i64_w, i32_w]
      rfl
     refine take_ (i := 4) (N := some 27) (v := ?_) (a' := ?_) (bs 27 31) rfl rfl (by kernel_rfl) (fun _ _ _ h => h) (Or.inl ⟨by rfl, ?_⟩) hHeld ?_ ?_
     rotate_left
     ·rintro w' ⟨s0, s1, s2, s3, s4, s5, s6, s7, s8, s9, s10, s11, s12, s13, s14, s15, s16, s17, s18, s19, s20, s21, s22, s23, s24⟩
      go_simp
      with_reducible rfl
     rotate_left
     ·simp only [Act.put, List.setIfInBounds_toArray, List.set_cons_zero, List.set_cons_succ, i64_w, i32_w]
      rfl
     refine pure_ (i := 5) (N := some 28) (v := ?_) (a' := ?_) (bs 27 63) rfl rfl (by kernel_rfl) (fun _ _ _ h => h) (Or.inl ⟨by rfl, ?_⟩) ?_ ?_
     rotate_left
     ·intro w'
      go_simp
      with_reducible rfl
     rotate_left
     ·simp only [Act.put, List.setIfInBounds_toArray, List.set_cons_zero, List.set_cons_succ, i64_w, i32_w]
      rfl
     refine pure_ (i := 6) (N := some 29) (v := ?_) (a' := ?_) (bs 27 127) rfl rfl (by kernel_rfl) (fun _ _ _ h => h) (Or.inl ⟨by rfl, ?_⟩) ?_ ?_
     rotate_left
     ·intro w'
      go_simp
      with_reducible rfl
     rotate_left
     ·simp only [Act.put, List.setIfInBounds_toArray, List.set_cons_zero, List.set_cons_succ, i64_w, i32_w]
      rfl
     refine take_ (i := 7) (N := some 30) (v := ?_) (a' := ?_) (bs 27 255) rfl rfl (by kernel_rfl) (fun _ _ _ h => h) (Or.inl ⟨by rfl, ?_⟩) hHeld ?_ ?_
     rotate_left
     ·rintro w' ⟨s0, s1, s2, s3, s4, s5, s6, s7, s8, s9, s10, s11, s12, s13, s14, s15, s16, s17, s18, s19, s20, s21, s22, s23, s24⟩
      go_simp
      with_reducible rfl
     rotate_left
     ·simp only [Act.put, List.setIfInBounds_toArray, List.set_cons_zero, List.set_cons_succ, i64_w, i32_w]
      rfl
     refine pure_ (i := 8) (N := some 31) (v := ?_) (a' := ?_) (bs 27 511) rfl rfl (by kernel_rfl) (fun _ _ _ h => h) (Or.inl ⟨by rfl, ?_⟩) ?_ ?_
     rotate_left
     ·intro w'
      go_simp
      with_reducible rfl
     rotate_left
     ·simp only [Act.put, List.setIfInBounds_toArray, List.set_cons_zero, List.set_cons_succ, i64_w, i32_w]
      rfl
     refine pure_ (i := 9) (N := some 32) (v := ?_) (a' := ?_) (bs 27 1023) rfl rfl (by kernel_rfl) (fun _ _ _ h => h) (Or.inl ⟨by rfl, ?_⟩) ?_ ?_
     rotate_left
     ·intro w'
      go_simp
      with_reducible rfl
     rotate_left
     ·simp only [Act.put, List.setIfInBounds_toArray, List.set_cons_zero, List.set_cons_succ, i64_w, i32_w]
      rfl
     refine pure_ (i := 10) (N := some 33) (v := ?_) (a' := ?_) (bs 27 2047) rfl rfl (by kernel_rfl) (fun _ _ _ h => h) (Or.inl ⟨by rfl, ?_⟩) ?_ ?_
     rotate_left
     ·intro w'
      go_simp
      with_reducible rfl
     rotate_left
     ·simp only [Act.put, List.setIfInBounds_toArray, List.set_cons_zero, List.set_cons_succ, i64_w, i32_w]
      rfl
     refine take_ (i := 11) (N := some 34) (v := ?_) (a' := ?_) (bs 27 4095) rfl rfl (by kernel_rfl) (fun _ _ _ h => h) (Or.inl ⟨by rfl, ?_⟩) hHeld ?_ ?_
     rotate_left
     ·rintro w' ⟨s0, s1, s2, s3, s4, s5, s6, s7, s8, s9, s10, s11, s12, s13, s14, s15, s16, s17, s18, s19, s20, s21, s22, s23, s24⟩
      go_simp
      with_reducible rfl
     rotate_left
     ·simp only [Act.put, List.setIfInBounds_toArray, List.set_cons_zero, List.set_cons_succ, i64_w, i32_w]
      rfl
     refine pure_ (i := 12) (N := some 35) (v := ?_) (a' := ?_) (bs 27 8191) rfl rfl (by kernel_rfl) (fun _ _ _ h => h) (Or.inl ⟨by rfl, ?_⟩) ?_ ?_
     rotate_left
     ·intro w'
      go_simp
      with_reducible rfl
     rotate_left
     ·simp only [Act.put, List.setIfInBounds_toArray, List.set_cons_zero, List.set_cons_succ, i64_w, i32_w]
      rfl
     refine pure_ (i := 13) (N := some 36) (v := ?_) (a' := ?_) (bs 27 16383) rfl rfl (by kernel_rfl) (fun _ _ _ h => h) (Or.inl ⟨by rfl, ?_⟩) ?_ ?_
     rotate_left
     ·intro w'
      go_simp
      with_reducible rfl
     rotate_left
     ·simp only [Act.put, List.setIfInBounds_toArray, List.set_cons_zero, List.set_cons_succ, i64_w, i32_w]
      rfl
     refine take_ (i := 14) (N := some 37) (v := ?_) (a' := ?_) (bs 27 32767) rfl rfl (by kernel_rfl) (fun _ _ _ h => h) (Or.inl ⟨by rfl, ?_⟩) hHeld ?_ ?_
     rotate_left
     ·rintro w' ⟨s0, s1, s2, s3, s4, s5, s6, s7, s8, s9, s10, s11, s12, s13, s14, s15, s16, s17, s18, s19, s20, s21, s22, s23, s24⟩
      go_simp
      with_reducible rfl
     rotate_left
     ·simp only [Act.put, List.setIfInBounds_toArray, List.set_cons_zero, List.set_cons_succ, i64_w, i32_w]
      rfl
     refine take_ (i := 15) (N := some 38) (v := ?_) (a' := ?_) (bs 27 65535) rfl rfl (by kernel_rfl) (fun _ _ _ h => h) (Or.inl ⟨by rfl, ?_⟩) hHeld ?_ ?_
     rotate_left
     ·rintro w' ⟨s0, s1, s2, s3, s4, s5, s6, s7, s8, s9, s10, s11, s12, s13, s14, s15, s16, s17, s18, s19, s20, s21, s22, s23, s24⟩
      go_simp
      with_reducible rfl
     rotate_left
     ·simp only [Act.put, List.setIfInBounds_toArray, List.set_cons_zero, List.set_cons_succ, i64_w, i32_w]
      rfl
     refine pure_ (i := 16) (N := some 39) (v := ?_) (a' := ?_) (bs 27 131071) rfl rfl (by kernel_rfl) (fun _ _ _ h => h) (Or.inl ⟨by rfl, ?_⟩) ?_ ?_
     rotate_left
     ·intro w'
      go_simp
      with_reducible rfl
     rotate_left
     ·simp only [Act.put, List.setIfInBounds_toArray, List.set_cons_zero, List.set_cons_succ, i64_w, i32_w]
      rfl
     refine pure_ (i := 17) (N := some 40) (v := ?_) (a' := ?_) (bs 27 262143) rfl rfl (by kernel_rfl) (fun _ _ _ h => h) (Or.inl ⟨by rfl, ?_⟩) ?_ ?_
     rotate_left
     ·intro w'
      go_simp
      with_reducible rfl
     rotate_left
     ·simp only [Act.put, List.setIfInBounds_toArray, List.set_cons_zero, List.set_cons_succ, i64_w, i32_w]
      rfl
     refine take_ (i := 18) (N := some 41) (v := ?_) (a' := ?_) (bs 27 524287) rfl rfl (by kernel_rfl) (fun _ _ _ h => h) (Or.inl ⟨by rfl, ?_⟩) hHeld ?_ ?_
     rotate_left
     ·rintro w' ⟨s0, s1, s2, s3, s4, s5, s6, s7, s8, s9, s10, s11, s12, s13, s14, s15, s16, s17, s18, s19, s20, s21, s22, s23, s24⟩
      go_simp
      with_reducible rfl
     rotate_left
     ·simp only [Act.put, List.setIfInBounds_toArray, List.set_cons_zero, List.set_cons_succ, i64_w, i32_w]
      rfl
     refine pure_ (i := 19) (N := some 42) (v := ?_) (a' := ?_) (bs 27 1048575) rfl rfl (by kernel_rfl) (fun _ _ _ h => h) (Or.inl ⟨by rfl, ?_⟩) ?_ ?_
     rotate_left
     ·intro w'
      go_simp
      with_reducible rfl
     rotate_left
     ·simp only [Act.put, List.setIfInBounds_toArray, List.set_cons_zero, List.set_cons_succ, i64_w, i32_w]
      rfl
     refine pure_ (i := 20) (N := some 43) (v := ?_) (a' := ?_) (bs 27 2097151) rfl rfl (by kernel_rfl) (fun _ _ _ h => h) (Or.inl ⟨by rfl, ?_⟩) ?_ ?_
     rotate_left
     ·intro w'
      go_simp
      with_reducible rfl
     rotate_left
     ·simp only [Act.put, List.setIfInBounds_toArray, List.set_cons_zero, List.set_cons_succ, i64_w, i32_w]
      rfl
     refine pure_ (i := 21) (N := some 44) (v := ?_) (a' := ?_) (bs 27 4194303) rfl rfl (by kernel_rfl) (fun _ _ _ h => h) (Or.inl ⟨by rfl, ?_⟩) ?_ ?_
     rotate_left
     ·intro w'
      go_simp
      with_reducible rfl
     rotate_left
     ·simp only [Act.put, List.setIfInBounds_toArray, List.set_cons_zero, List.set_cons_succ, i64_w, i32_w]
      rfl
     refine take_ (i := 22) (N := some 45) (v := ?_) (a' := ?_) (bs 27 8388607) rfl rfl (by kernel_rfl) (fun _ _ _ h => h) (Or.inl ⟨by rfl, ?_⟩) hHeld ?_ ?_
     rotate_left
     ·rintro w' ⟨s0, s1, s2, s3, s4, s5, s6, s7, s8, s9, s10, s11, s12, s13, s14, s15, s16, s17, s18, s19, s20, s21, s22, s23, s24⟩
      go_simp
      with_reducible rfl
     rotate_left
     ·simp only [Act.put, List.setIfInBounds_toArray, List.set_cons_zero, List.set_cons_succ, i64_w, i32_w]
      rfl
     refine take_ (i := 23) (N := some 46) (v := ?_) (a' := ?_) (bs 27 16777215) rfl rfl (by kernel_rfl) (fun _ _ _ h => h) (Or.inl ⟨by rfl, ?_⟩) hHeld ?_ ?_
     rotate_left
     ·rintro w' ⟨s0, s1, s2, s3, s4, s5, s6, s7, s8, s9, s10, s11, s12, s13, s14, s15, s16, s17, s18, s19, s20, s21, s22, s23, s24⟩
      go_simp
      with_reducible rfl
     rotate_left
     ·simp only [Act.put, List.setIfInBounds_toArray, List.set_cons_zero, List.set_cons_succ, i64_w, i32_w]
      rfl
     refine one_ (i := 24) (N := some 47) (bs 27 33554431) rfl rfl (by kernel_rfl) (by decide) (fun K hK => ?_)
     refine value_ (w1 := W3) (v := .bool false) (by rfl) rfl ((neq_run (s := z) (t := y) (.tmp 45) (.tmp 46) rfl rfl).trans (by rw [hzd]; rfl)) ?_
     refine hK.out _ _ ⟨hHeld.1, hHeld.2.1, hHeld.2.2.1, hHeld.2.2.2.1, hHeld.2.2.2.2.1, hHeld.2.2.2.2.2.1, hHeld.2.2.2.2.2.2.1, hHeld.2.2.2.2.2.2.2.1, hHeld.2.2.2.2.2.2.2.2.1, hHeld.2.2.2.2.2.2.2.2.2.1, hHeld.2.2.2.2.2.2.2.2.2.2.1, hHeld.2.2.2.2.2.2.2.2.2.2.2.1, hHeld.2.2.2.2.2.2.2.2.2.2.2.2.1, hHeld.2.2.2.2.2.2.2.2.2.2.2.2.2.1, hHeld.2.2.2.2.2.2.2.2.2.2.2.2.2.2.1, hHeld.2.2.2.2.2.2.2.2.2.2.2.2.2.2.2.1, hHeld.2.2.2.2.2.2.2.2.2.2.2.2.2.2.2.2.1, hHeld.2.2.2.2.2.2.2.2.2.2.2.2.2.2.2.2.2.1, hHeld.2.2.2.2.2.2.2.2.2.2.2.2.2.2.2.2.2.2.1, hHeld.2.2.2.2.2.2.2.2.2.2.2.2.2.2.2.2.2.2.2.1, hHeld.2.2.2.2.2.2.2.2.2.2.2.2.2.2.2.2.2.2.2.2.1, hHeld.2.2.2.2.2.2.2.2.2.2.2.2.2.2.2.2.2.2.2.2.2.1, hHeld.2.2.2.2.2.2.2.2.2.2.2.2.2.2.2.2.2.2.2.2.2.2.1, hHeld.2.2.2.2.2.2.2.2.2.2.2.2.2.2.2.2.2.2.2.2.2.2.2.1, hHeld.2.2.2.2.2.2.2.2.2.2.2.2.2.2.2.2.2.2.2.2.2.2.2.2⟩ (fun hHeld => ?_)
     clear hK K
     refine norm_ (a' := ?_) ?_ ?_
     rotate_left
     ·show Act.put _ (some 47) _ = _
      simp only [Act.put, List.setIfInBounds_toArray, List.set_cons_zero, List.set_cons_succ, i64_w, i32_w]
      rfl
     refine pure_ (i := 25) (N := some 48) (v := ?_) (a' := ?_) (bs 27 67108863) rfl rfl (by kernel_rfl) (fun _ _ _ h => h) (Or.inl ⟨by rfl, ?_⟩) ?_ ?_
     rotate_left
     ·intro w'
      go_simp
      with_reducible rfl
     rotate_left
     ·simp only [Act.put, List.setIfInBounds_toArray, List.set_cons_zero, List.set_cons_succ, i64_w, i32_w]
      rfl
     refine pure_ (i := 26) (N := some 49) (v := ?_) (a' := ?_) (bs 27 134217727) rfl rfl (by kernel_rfl) (fun _ _ _ h => h) (Or.inl ⟨by rfl, ?_⟩) ?_ ?_
     rotate_left
     ·intro w'
      go_simp
      with_reducible rfl
     rotate_left
     ·simp only [Act.put, List.setIfInBounds_toArray, List.set_cons_zero, List.set_cons_succ, i64_w, i32_w]
      rfl
     refine done_ (by kernel_rfl) ?_
     clear hHeld
     have hb4 : Below W.heap.size W W3 := bel2 (below_drew (Below.refl _ _)) hb3
     have hpost : mPost W0.heap.size (3 + 2) (fun pre W => Blk W w.heap.size #[.int .i64 x.f0, .int .i64 x.f1, .int .i64 x.f2, .int .i64 x.f3, .int .i64 x.f4, .slice A5 x.f5.length c5, .slice A6 x.f6.length c6, .int .i64 x.f7.f0, .int .i64 x.f7.f1, .slice A9 x.f8.length c9, .slice A10 x.f9.length c10] 38 ∧ Blk W (m1 + 1 + 1) #[.pointer (some ⟨m1 + 1, 0, none⟩)] 107 ∧ Blk W (m1 + 1 + 1 + 1) #[.int .i64 x.f0, .int .i64 x.f1, .int .i64 x.f2, .int .i64 x.f3, .int .i64 x.f4, .slice A5 x.f5.length c5, .slice A6 x.f6.length c6, .int .i64 x.f7.f0, .int .i64 x.f7.f1, .slice A9 x.f8.length c9, .slice A10 x.f9.length c10] 38 ∧ Below w.heap.size w W ∧ W.heap[m1]? = some (.map #[] 0) ∧ ∃ v, Blk W (m1 + 1) #[.int .i64 x.f0, .int .i64 x.f1, .int .i64 x.f2, .int .i64 x.f3, .int .i64 x.f4, .slice A5 x.f5.length c5, .slice A6 x.f6.length c6, .int .i64 x.f7.f0, .int .i64 x.f7.f1, .slice A9 x.f8.length c9, .slice A10 x.f9.length c10, v, .map (some m1)] 151 ∧ W.ownsRow (m1 + 9) 133 6 v (truthTo x pre).length (scCells (truthTo x pre))) (fun _ _ _ => False) (pre ++ [y]) W .normal { tmps := #[], defers := [] } W3 := by
      obtain ⟨i1, i2, i3, i4, i5, i6, i7⟩ := II.out
      refine ⟨KeepI.of_below hb4 (by omega), i1.below hb4, i2.below hb4, i3.below hb4, bel2 i4 hb4, (hb4.block m1 (Array.getElem?_eq_some_iff.1 i5).1).trans i5, _, i6.below hb4, ?_⟩
      rw [HSN.out, HT2.out]
      exact own_move i7 (fun k hk2 => hb4.block k (own_lt i7 k hk2))
     have HPOST := Aside0.mk hpost
     clear hpost hb4 hb3
     gi_wp2
     exact HPOST.out
    ·have HT2 := Lib.hid (show addT x T y = T ++ [y] by
       unfold addT
       rw [HRT.out, if_pos rfl, hgl, if_neg (by simpa using hzy)])
     have hzd : decide (z = y) = false := by simpa using hzy
     have HG := Lib.hid hgl
     clear hzy hgl
     gi_wp2
     apply toRound_
     ·kernel_rfl
     ·rintro ⟨_, _, h⟩; exact h
     ·kernel_rfl
     refine startAny_ (n := 27) (S := fun w' => w'.cell? ⟨w.heap.size, 0, none⟩ = some (.int .i64 x.f0) ∧ w'.cell? ⟨w.heap.size, 1, none⟩ = some (.int .i64 x.f1) ∧ w'.cell? ⟨w.heap.size, 2, none⟩ = some (.int .i64 x.f2) ∧ w'.cell? ⟨w.heap.size, 3, none⟩ = some (.int .i64 x.f3) ∧ w'.cell? ⟨w.heap.size, 4, none⟩ = some (.int .i64 x.f4) ∧ w'.cell? ⟨w.heap.size, 5, none⟩ = some (.slice A5 x.f5.length c5) ∧ w'.cell? ⟨w.heap.size, 6, none⟩ = some (.slice A6 x.f6.length c6) ∧ w'.cell? ⟨w.heap.size, 7, none⟩ = some (.int .i64 x.f7.f0) ∧ w'.cell? ⟨w.heap.size, 8, none⟩ = some (.int .i64 x.f7.f1) ∧ w'.cell? ⟨w.heap.size, 9, none⟩ = some (.slice A9 x.f8.length c9) ∧ w'.cell? ⟨w.heap.size, 10, none⟩ = some (.slice A10 x.f9.length c10) ∧ w'.cell? ⟨Bx, 0, none⟩ = some (.int .i64 y.h) ∧ w'.cell? ⟨Bx, 1, none⟩ = some (.int .i64 y.l0) ∧ w'.cell? ⟨Bx, 2, none⟩ = some (.int .i64 y.l1) ∧ w'.cell? ⟨Bx, 3, none⟩ = some (.int .i64 y.l2) ∧ w'.cell? ⟨Bx, 4, none⟩ = some (.int .i64 y.l3) ∧ w'.cell? ⟨Bx, 5, none⟩ = some (.int .i64 y.l4) ∧ w'.cell? ⟨m1 + 1 + 1, 0, none⟩ = some (.pointer (some ⟨m1 + 1, 0, none⟩)) ∧ w'.cell? ⟨m1 + 1, 11, none⟩ = some (.slice (some ad) T.length c) ∧ w'.cell? (ad.add (Ln.toNat * 6)) = some (.int .i64 z.h) ∧ w'.cell? ⟨(ad.add (Ln.toNat * 6)).block, (ad.add (Ln.toNat * 6)).off + 1, none⟩ = some (.int .i64 z.l0) ∧ w'.cell? ⟨(ad.add (Ln.toNat * 6)).block, (ad.add (Ln.toNat * 6)).off + 2, none⟩ = some (.int .i64 z.l1) ∧ w'.cell? ⟨(ad.add (Ln.toNat * 6)).block, (ad.add (Ln.toNat * 6)).off + 3, none⟩ = some (.int .i64 z.l2) ∧ w'.cell? ⟨(ad.add (Ln.toNat * 6)).block, (ad.add (Ln.toNat * 6)).off + 4, none⟩ = some (.int .i64 z.l3) ∧ w'.cell? ⟨(ad.add (Ln.toNat * 6)).block, (ad.add (Ln.toNat * 6)).off + 5, none⟩ = some (.int .i64 z.l4)) (ds := []) #[false, false, false, false, false, false, false, false, false, false, false, false, false, false, false, false, false, false, false, false, false, false, false, false, false, false, false] (by kernel_rfl) rfl rfl ⟨k0, k1, k2, k3, k4, k5, k6, k7, k8, k9, k10, b0, b1, b2, b3, b4, b5, kp, kt, hc0, hc1, hc2, hc3, hc4, hc5⟩ (fun hHeld => ?_)
     refine take_ (i := 0) (N := some 23) (v := ?_) (a' := ?_) (bs 27 1) rfl rfl (by kernel_rfl) (fun _ _ _ h => h) (Or.inl ⟨by rfl, ?_⟩) hHeld ?_ ?_
     rotate_left
     ·rintro w' ⟨s0, s1, s2, s3, s4, s5, s6, s7, s8, s9, s10, s11, s12, s13, s14, s15, s16, s17, s18, s19, s20, s21, s22, s23, s24⟩
      go_simp
      with_reducible rfl
     rotate_left
     ·simp only [Act.put, List.setIfInBounds_toArray, List.set_cons_zero, List.set_cons_succ, i64_w, i32_w]
      rfl
     refine take_ (i := 1) (N := some 24) (v := ?_) (a' := ?_) (bs 27 3) rfl rfl (by kernel_rfl) (fun _ _ _ h => h) (Or.inl ⟨by rfl, ?_⟩) hHeld ?_ ?_
     rotate_left
     ·rintro w' ⟨s0, s1, s2, s3, s4, s5, s6, s7, s8, s9, s10, s11, s12, s13, s14, s15, s16, s17, s18, s19, s20, s21, s22, s23, s24⟩
      go_simp
      with_reducible rfl
     rotate_left
     ·simp only [Act.put, List.setIfInBounds_toArray, List.set_cons_zero, List.set_cons_succ, i64_w, i32_w]
      rfl
     refine one_ (i := 2) (N := some 25) (bs 27 7) rfl rfl (by kernel_rfl) (by decide) (fun K hK => ?_)
     refine goes_ Try.func100 (by kernel_rfl) rfl #[.agg #[.int .i64 x.f0, .int .i64 x.f1, .int .i64 x.f2, .int .i64 x.f3, .int .i64 x.f4, .slice A5 x.f5.length c5, .slice A6 x.f6.length c6, .int .i64 x.f7.f0, .int .i64 x.f7.f1, .slice A9 x.f8.length c9, .slice A10 x.f9.length c10], .agg #[.int .i64 y.h, .int .i64 y.l0, .int .i64 y.l1, .int .i64 y.l2, .int .i64 y.l3, .int .i64 y.l4], .slice none 0 0] (by rfl) rfl rfl (by simp only [List.map_toArray, List.map_cons, List.map_nil]; rfl) ?_
     with_reducible refine (HCALL.out).mono ?_
     rintro e W3 ⟨rfl, hb3⟩
     refine ⟨_, rfl, ?_⟩
     refine hK.out _ _ ⟨pw_cell_below hb3 hHeld.1, pw_cell_below hb3 hHeld.2.1, pw_cell_below hb3 hHeld.2.2.1, pw_cell_below hb3 hHeld.2.2.2.1, pw_cell_below hb3 hHeld.2.2.2.2.1, pw_cell_below hb3 hHeld.2.2.2.2.2.1, pw_cell_below hb3 hHeld.2.2.2.2.2.2.1, pw_cell_below hb3 hHeld.2.2.2.2.2.2.2.1, pw_cell_below hb3 hHeld.2.2.2.2.2.2.2.2.1, pw_cell_below hb3 hHeld.2.2.2.2.2.2.2.2.2.1, pw_cell_below hb3 hHeld.2.2.2.2.2.2.2.2.2.2.1, pw_cell_below hb3 hHeld.2.2.2.2.2.2.2.2.2.2.2.1, pw_cell_below hb3 hHeld.2.2.2.2.2.2.2.2.2.2.2.2.1, pw_cell_below hb3 hHeld.2.2.2.2.2.2.2.2.2.2.2.2.2.1, pw_cell_below hb3 hHeld.2.2.2.2.2.2.2.2.2.2.2.2.2.2.1, pw_cell_below hb3 hHeld.2.2.2.2.2.2.2.2.2.2.2.2.2.2.2.1, pw_cell_below hb3 hHeld.2.2.2.2.2.2.2.2.2.2.2.2.2.2.2.2.1, pw_cell_below hb3 hHeld.2.2.2.2.2.2.2.2.2.2.2.2.2.2.2.2.2.1, pw_cell_below hb3 hHeld.2.2.2.2.2.2.2.2.2.2.2.2.2.2.2.2.2.2.1, pw_cell_below hb3 hHeld.2.2.2.2.2.2.2.2.2.2.2.2.2.2.2.2.2.2.2.1, pw_cell_below hb3 hHeld.2.2.2.2.2.2.2.2.2.2.2.2.2.2.2.2.2.2.2.2.1, pw_cell_below hb3 hHeld.2.2.2.2.2.2.2.2.2.2.2.2.2.2.2.2.2.2.2.2.2.1, pw_cell_below hb3 hHeld.2.2.2.2.2.2.2.2.2.2.2.2.2.2.2.2.2.2.2.2.2.2.1, pw_cell_below hb3 hHeld.2.2.2.2.2.2.2.2.2.2.2.2.2.2.2.2.2.2.2.2.2.2.2.1, pw_cell_below hb3 hHeld.2.2.2.2.2.2.2.2.2.2.2.2.2.2.2.2.2.2.2.2.2.2.2.2⟩ (fun hHeld => ?_)
     clear hK K
     refine norm_ (a' := ?_) ?_ ?_
     rotate_left
     ·show Act.put _ (some 25) _ = _
      simp only [Act.put, List.setIfInBounds_toArray, List.set_cons_zero, List.set_cons_succ, i64_w, i32_w]
      rfl
     refine pure_ (i := 3) (N := some 26) (v := ?_) (a' := ?_) (bs 27 15) rfl rfl (by kernel_rfl) (fun _ _ _ h => h) (Or.inl ⟨by rfl, ?_⟩) ?_ ?_
     rotate_left
     ·intro w'
      go_simp
      with_reducible rfl
     rotate_left
     ·simp only [Act.put, List.setIfInBounds_toArray, List.set_cons_zero, List.set_cons_succ, i64_w, i32_w]
      rfl
     refine take_ (i := 4) (N := some 27) (v := ?_) (a' := ?_) (bs 27 31) rfl rfl (by kernel_rfl) (fun _ _ _ h => h) (Or.inl ⟨by rfl, ?_⟩) hHeld ?_ ?_
     rotate_left
     ·rintro w' ⟨s0, s1, s2, s3, s4, s5, s6, s7, s8, s9, s10, s11, s12, s13, s14, s15, s16, s17, s18, s19, s20, s21, s22, s23, s24⟩
      go_simp
      with_reducible rfl
     rotate_left
     ·simp only [Act.put, List.setIfInBounds_toArray, List.set_cons_zero, List.set_cons_succ, i64_w, i32_w]
      rfl
     refine pure_ (i := 5) (N := some 28) (v := ?_) (a' := ?_) (bs 27 63) rfl rfl (by kernel_rfl) (fun _ _ _ h => h) (Or.inl ⟨by rfl, ?_⟩) ?_ ?_
     rotate_left
     ·intro w'
      go_simp
      with_reducible rfl
     rotate_left
     ·simp only [Act.put, List.setIfInBounds_toArray, List.set_cons_zero, List.set_cons_succ, i64_w, i32_w]
      rfl
     refine pure_ (i := 6) (N := some 29) (v := ?_) (a' := ?_) (bs 27 127) rfl rfl (by kernel_rfl) (fun _ _ _ h => h) (Or.inl ⟨by rfl, ?_⟩) ?_ ?_
     rotate_left
     ·intro w'
      go_simp
      with_reducible rfl
     rotate_left
     ·simp only [Act.put, List.setIfInBounds_toArray, List.set_cons_zero, List.set_cons_succ, i64_w, i32_w]
      rfl
     refine take_ (i := 7) (N := some 30) (v := ?_) (a' := ?_) (bs 27 255) rfl rfl (by kernel_rfl) (fun _ _ _ h => h) (Or.inl ⟨by rfl, ?_⟩) hHeld ?_ ?_
     rotate_left
     ·rintro w' ⟨s0, s1, s2, s3, s4, s5, s6, s7, s8, s9, s10, s11, s12, s13, s14, s15, s16, s17, s18, s19, s20, s21, s22, s23, s24⟩
      go_simp
      with_reducible rfl
     rotate_left
     ·simp only [Act.put, List.setIfInBounds_toArray, List.set_cons_zero, List.set_cons_succ, i64_w, i32_w]
      rfl
     refine pure_ (i := 8) (N := some 31) (v := ?_) (a' := ?_) (bs 27 511) rfl rfl (by kernel_rfl) (fun _ _ _ h => h) (Or.inl ⟨by rfl, ?_⟩) ?_ ?_
     rotate_left
     ·intro w'
      go_simp
      with_reducible rfl
     rotate_left
     ·simp only [Act.put, List.setIfInBounds_toArray, List.set_cons_zero, List.set_cons_succ, i64_w, i32_w]
      rfl
     refine pure_ (i := 9) (N := some 32) (v := ?_) (a' := ?_) (bs 27 1023) rfl rfl (by kernel_rfl) (fun _ _ _ h => h) (Or.inl ⟨by rfl, ?_⟩) ?_ ?_
     rotate_left
     ·intro w'
      go_simp
      with_reducible rfl
     rotate_left
     ·simp only [Act.put, List.setIfInBounds_toArray, List.set_cons_zero, List.set_cons_succ, i64_w, i32_w]
      rfl
     refine pure_ (i := 10) (N := some 33) (v := ?_) (a' := ?_) (bs 27 2047) rfl rfl (by kernel_rfl) (fun _ _ _ h => h) (Or.inl ⟨by rfl, ?_⟩) ?_ ?_
     rotate_left
     ·intro w'
      go_simp
      with_reducible rfl
     rotate_left
     ·simp only [Act.put, List.setIfInBounds_toArray, List.set_cons_zero, List.set_cons_succ, i64_w, i32_w]
      rfl
     refine take_ (i := 11) (N := some 34) (v := ?_) (a' := ?_) (bs 27 4095) rfl rfl (by kernel_rfl) (fun _ _ _ h => h) (Or.inl ⟨by rfl, ?_⟩) hHeld ?_ ?_
     rotate_left
     ·rintro w' ⟨s0, s1, s2, s3, s4, s5, s6, s7, s8, s9, s10, s11, s12, s13, s14, s15, s16, s17, s18, s19, s20, s21, s22, s23, s24⟩
      go_simp
      with_reducible rfl
     rotate_left
     ·simp only [Act.put, List.setIfInBounds_toArray, List.set_cons_zero, List.set_cons_succ, i64_w, i32_w]
      rfl
     refine pure_ (i := 12) (N := some 35) (v := ?_) (a' := ?_) (bs 27 8191) rfl rfl (by kernel_rfl) (fun _ _ _ h => h) (Or.inl ⟨by rfl, ?_⟩) ?_ ?_
     rotate_left
     ·intro w'
      go_simp
      with_reducible rfl
     rotate_left
     ·simp only [Act.put, List.setIfInBounds_toArray, List.set_cons_zero, List.set_cons_succ, i64_w, i32_w]
      rfl
     refine pure_ (i := 13) (N := some 36) (v := ?_) (a' := ?_) (bs 27 16383) rfl rfl (by kernel_rfl) (fun _ _ _ h => h) (Or.inl ⟨by rfl, ?_⟩) ?_ ?_
     rotate_left
     ·intro w'
      go_simp
      with_reducible rfl
     rotate_left
     ·simp only [Act.put, List.setIfInBounds_toArray, List.set_cons_zero, List.set_cons_succ, i64_w, i32_w]
      rfl
     refine take_ (i := 14) (N := some 37) (v := ?_) (a' := ?_) (bs 27 32767) rfl rfl (by kernel_rfl) (fun _ _ _ h => h) (Or.inl ⟨by rfl, ?_⟩) hHeld ?_ ?_
     rotate_left
     ·rintro w' ⟨s0, s1, s2, s3, s4, s5, s6, s7, s8, s9, s10, s11, s12, s13, s14, s15, s16, s17, s18, s19, s20, s21, s22, s23, s24⟩
      go_simp
      with_reducible rfl
     rotate_left
     ·simp only [Act.put, List.setIfInBounds_toArray, List.set_cons_zero, List.set_cons_succ, i64_w, i32_w]
      rfl
     refine take_ (i := 15) (N := some 38) (v := ?_) (a' := ?_) (bs 27 65535) rfl rfl (by kernel_rfl) (fun _ _ _ h => h) (Or.inl ⟨by rfl, ?_⟩) hHeld ?_ ?_
     rotate_left
     ·rintro w' ⟨s0, s1, s2, s3, s4, s5, s6, s7, s8, s9, s10, s11, s12, s13, s14, s15, s16, s17, s18, s19, s20, s21, s22, s23, s24⟩
      go_simp
      with_reducible rfl
     rotate_left
     ·simp only [Act.put, List.setIfInBounds_toArray, List.set_cons_zero, List.set_cons_succ, i64_w, i32_w]
      rfl
     refine pure_ (i := 16) (N := some 39) (v := ?_) (a' := ?_) (bs 27 131071) rfl rfl (by kernel_rfl) (fun _ _ _ h => h) (Or.inl ⟨by rfl, ?_⟩) ?_ ?_
     rotate_left
     ·intro w'
      go_simp
      with_reducible rfl
     rotate_left
     ·simp only [Act.put, List.setIfInBounds_toArray, List.set_cons_zero, List.set_cons_succ, i64_w, i32_w]
      rfl
     refine pure_ (i := 17) (N := some 40) (v := ?_) (a' := ?_) (bs 27 262143) rfl rfl (by kernel_rfl) (fun _ _ _ h => h) (Or.inl ⟨by rfl, ?_⟩) ?_ ?_
     rotate_left
     ·intro w'
      go_simp
      with_reducible rfl
     rotate_left
     ·simp only [Act.put, List.setIfInBounds_toArray, List.set_cons_zero, List.set_cons_succ, i64_w, i32_w]
      rfl
     refine take_ (i := 18) (N := some 41) (v := ?_) (a' := ?_) (bs 27 524287) rfl rfl (by kernel_rfl) (fun _ _ _ h => h) (Or.inl ⟨by rfl, ?_⟩) hHeld ?_ ?_
     rotate_left
     ·rintro w' ⟨s0, s1, s2, s3, s4, s5, s6, s7, s8, s9, s10, s11, s12, s13, s14, s15, s16, s17, s18, s19, s20, s21, s22, s23, s24⟩
      go_simp
      with_reducible rfl
     rotate_left
     ·simp only [Act.put, List.setIfInBounds_toArray, List.set_cons_zero, List.set_cons_succ, i64_w, i32_w]
      rfl
     refine pure_ (i := 19) (N := some 42) (v := ?_) (a' := ?_) (bs 27 1048575) rfl rfl (by kernel_rfl) (fun _ _ _ h => h) (Or.inl ⟨by rfl, ?_⟩) ?_ ?_
     rotate_left
     ·intro w'
      go_simp
      with_reducible rfl
     rotate_left
     ·simp only [Act.put, List.setIfInBounds_toArray, List.set_cons_zero, List.set_cons_succ, i64_w, i32_w]
      rfl
     refine pure_ (i := 20) (N := some 43) (v := ?_) (a' := ?_) (bs 27 2097151) rfl rfl (by kernel_rfl) (fun _ _ _ h => h) (Or.inl ⟨by rfl, ?_⟩) ?_ ?_
     rotate_left
     ·intro w'
      go_simp
      with_reducible rfl
     rotate_left
     ·simp only [Act.put, List.setIfInBounds_toArray, List.set_cons_zero, List.set_cons_succ, i64_w, i32_w]
      rfl
     refine pure_ (i := 21) (N := some 44) (v := ?_) (a' := ?_) (bs 27 4194303) rfl rfl (by kernel_rfl) (fun _ _ _ h => h) (Or.inl ⟨by rfl, ?_⟩) ?_ ?_
     rotate_left
     ·intro w'
      go_simp
      with_reducible rfl
     rotate_left
     ·simp only [Act.put, List.setIfInBounds_toArray, List.set_cons_zero, List.set_cons_succ, i64_w, i32_w]
      rfl
     refine take_ (i := 22) (N := some 45) (v := ?_) (a' := ?_) (bs 27 8388607) rfl rfl (by kernel_rfl) (fun _ _ _ h => h) (Or.inl ⟨by rfl, ?_⟩) hHeld ?_ ?_
     rotate_left
     ·rintro w' ⟨s0, s1, s2, s3, s4, s5, s6, s7, s8, s9, s10, s11, s12, s13, s14, s15, s16, s17, s18, s19, s20, s21, s22, s23, s24⟩
      go_simp
      with_reducible rfl
     rotate_left
     ·simp only [Act.put, List.setIfInBounds_toArray, List.set_cons_zero, List.set_cons_succ, i64_w, i32_w]
      rfl
     refine take_ (i := 23) (N := some 46) (v := ?_) (a' := ?_) (bs 27 16777215) rfl rfl (by kernel_rfl) (fun _ _ _ h => h) (Or.inl ⟨by rfl, ?_⟩) hHeld ?_ ?_
     rotate_left
     ·rintro w' ⟨s0, s1, s2, s3, s4, s5, s6, s7, s8, s9, s10, s11, s12, s13, s14, s15, s16, s17, s18, s19, s20, s21, s22, s23, s24⟩
      go_simp
      with_reducible rfl
     rotate_left
     ·simp only [Act.put, List.setIfInBounds_toArray, List.set_cons_zero, List.set_cons_succ, i64_w, i32_w]
      rfl
     refine one_ (i := 24) (N := some 47) (bs 27 33554431) rfl rfl (by kernel_rfl) (by decide) (fun K hK => ?_)
     refine value_ (w1 := W3) (v := .bool true) (by rfl) rfl ((neq_run (s := z) (t := y) (.tmp 45) (.tmp 46) rfl rfl).trans (by rw [hzd]; rfl)) ?_
     refine hK.out _ _ ⟨hHeld.1, hHeld.2.1, hHeld.2.2.1, hHeld.2.2.2.1, hHeld.2.2.2.2.1, hHeld.2.2.2.2.2.1, hHeld.2.2.2.2.2.2.1, hHeld.2.2.2.2.2.2.2.1, hHeld.2.2.2.2.2.2.2.2.1, hHeld.2.2.2.2.2.2.2.2.2.1, hHeld.2.2.2.2.2.2.2.2.2.2.1, hHeld.2.2.2.2.2.2.2.2.2.2.2.1, hHeld.2.2.2.2.2.2.2.2.2.2.2.2.1, hHeld.2.2.2.2.2.2.2.2.2.2.2.2.2.1, hHeld.2.2.2.2.2.2.2.2.2.2.2.2.2.2.1, hHeld.2.2.2.2.2.2.2.2.2.2.2.2.2.2.2.1, hHeld.2.2.2.2.2.2.2.2.2.2.2.2.2.2.2.2.1, hHeld.2.2.2.2.2.2.2.2.2.2.2.2.2.2.2.2.2.1, hHeld.2.2.2.2.2.2.2.2.2.2.2.2.2.2.2.2.2.2.1, hHeld.2.2.2.2.2.2.2.2.2.2.2.2.2.2.2.2.2.2.2.1, hHeld.2.2.2.2.2.2.2.2.2.2.2.2.2.2.2.2.2.2.2.2.1, hHeld.2.2.2.2.2.2.2.2.2.2.2.2.2.2.2.2.2.2.2.2.2.1, hHeld.2.2.2.2.2.2.2.2.2.2.2.2.2.2.2.2.2.2.2.2.2.2.1, hHeld.2.2.2.2.2.2.2.2.2.2.2.2.2.2.2.2.2.2.2.2.2.2.2.1, hHeld.2.2.2.2.2.2.2.2.2.2.2.2.2.2.2.2.2.2.2.2.2.2.2.2⟩ (fun hHeld => ?_)
     clear hK K
     refine norm_ (a' := ?_) ?_ ?_
     rotate_left
     ·show Act.put _ (some 47) _ = _
      simp only [Act.put, List.setIfInBounds_toArray, List.set_cons_zero, List.set_cons_succ, i64_w, i32_w]
      rfl
     refine pure_ (i := 25) (N := some 48) (v := ?_) (a' := ?_) (bs 27 67108863) rfl rfl (by kernel_rfl) (fun _ _ _ h => h) (Or.inl ⟨by rfl, ?_⟩) ?_ ?_
     rotate_left
     ·intro w'
      go_simp
      with_reducible rfl
     rotate_left
     ·simp only [Act.put, List.setIfInBounds_toArray, List.set_cons_zero, List.set_cons_succ, i64_w, i32_w]
      rfl
     refine pure_ (i := 26) (N := some 49) (v := ?_) (a' := ?_) (bs 27 134217727) rfl rfl (by kernel_rfl) (fun _ _ _ h => h) (Or.inl ⟨by rfl, ?_⟩) ?_ ?_
     rotate_left
     ·intro w'
      go_simp
      with_reducible rfl
     rotate_left
     ·simp only [Act.put, List.setIfInBounds_toArray, List.set_cons_zero, List.set_cons_succ, i64_w, i32_w]
      rfl
     refine done_ (by kernel_rfl) ?_
     have hb4 : Below W.heap.size W W3 := bel2 (below_drew (Below.refl _ _)) hb3
     have HB4 := Aside0.mk hb4
     have q0 := hHeld.1
     have q1 := hHeld.2.1
     have q2 := hHeld.2.2.1
     have q3 := hHeld.2.2.2.1
     have q4 := hHeld.2.2.2.2.1
     have q5 := hHeld.2.2.2.2.2.1
     have q6 := hHeld.2.2.2.2.2.2.1
     have q7 := hHeld.2.2.2.2.2.2.2.1
     have q8 := hHeld.2.2.2.2.2.2.2.2.1
     have q9 := hHeld.2.2.2.2.2.2.2.2.2.1
     have q10 := hHeld.2.2.2.2.2.2.2.2.2.2.1
     have q11 := hHeld.2.2.2.2.2.2.2.2.2.2.2.1
     have q12 := hHeld.2.2.2.2.2.2.2.2.2.2.2.2.1
     have q13 := hHeld.2.2.2.2.2.2.2.2.2.2.2.2.2.1
     have q14 := hHeld.2.2.2.2.2.2.2.2.2.2.2.2.2.2.1
     have q15 := hHeld.2.2.2.2.2.2.2.2.2.2.2.2.2.2.2.1
     have q16 := hHeld.2.2.2.2.2.2.2.2.2.2.2.2.2.2.2.2.1
     have q17 := hHeld.2.2.2.2.2.2.2.2.2.2.2.2.2.2.2.2.2.1
     have q18 := hHeld.2.2.2.2.2.2.2.2.2.2.2.2.2.2.2.2.2.2.1
     have hbz := HBX.out.below hb4
     have HBZ := Aside0.mk hbz
     clear hHeld hb3 hb4 hbz
     have hs3 : W.heap.size ≤ W3.heap.size := HB4.out.size
     have HOWN : Aside0 (((W3.alloc (.cells #[.int .i64 y.h, .int .i64 y.l0, .int .i64 y.l1, .int .i64 y.l2, .int .i64 y.l3, .int .i64 y.l4] 133)).drew).ownsRow (m1 + 9) 133 6 (.slice (some ad) T.length c) T.length (scCells T)) := ⟨(own_move II.out.2.2.2.2.2.2 (fun k hk2 => HB4.out.block k (own_lt II.out.2.2.2.2.2.2 k hk2))).alloc _⟩
     have HF5 : Aside0 (∀ w5, ((W3.alloc (.cells #[.int .i64 y.h, .int .i64 y.l0, .int .i64 y.l1, .int .i64 y.l2, .int .i64 y.l3, .int .i64 y.l4] 133)).drew).grownBy w5 (Value.slice (some ad) T.length c).ownBlock → w5.frozen? ⟨m1 + 1, 11, none⟩ = false) := ⟨fun w5 hg => (((II.out.2.2.2.2.2.1.below HB4.out).alloc _).drew.grown hg (fun e => by have := own_base HOWN.out _ e.symm; omega)).frozen 11⟩
     gi_wp2
     apply toRound_
     ·kernel_rfl
     ·rintro ⟨_, _, h⟩; exact h
     ·kernel_rfl
     refine startAny_ (n := 11) (S := fun w' => w'.cell? ⟨m1 + 1 + 1, 0, none⟩ = some (.pointer (some ⟨m1 + 1, 0, none⟩)) ∧ w'.cell? ⟨m1 + 1, 11, none⟩ = some (.slice (some ad) T.length c) ∧ w'.cell? ⟨Bx, 0, none⟩ = some (.int .i64 y.h) ∧ w'.cell? ⟨Bx, 1, none⟩ = some (.int .i64 y.l0) ∧ w'.cell? ⟨Bx, 2, none⟩ = some (.int .i64 y.l1) ∧ w'.cell? ⟨Bx, 3, none⟩ = some (.int .i64 y.l2) ∧ w'.cell? ⟨Bx, 4, none⟩ = some (.int .i64 y.l3) ∧ w'.cell? ⟨Bx, 5, none⟩ = some (.int .i64 y.l4)) (ds := [10]) #[false, false, false, false, false, false, false, false, false, false, false] (by kernel_rfl) rfl rfl ⟨q17, q18, q11, q12, q13, q14, q15, q16⟩ (fun hHeld => ?_)
     refine take_ (i := 0) (N := some 50) (v := ?_) (a' := ?_) (bs 11 1) rfl rfl (by kernel_rfl) (fun _ _ _ h => h) (Or.inl ⟨by rfl, ?_⟩) hHeld ?_ ?_
     rotate_left
     ·rintro w' ⟨s0, s1, s2, s3, s4, s5, s6, s7⟩
      go_simp
      with_reducible rfl
     rotate_left
     ·simp only [Act.put, List.setIfInBounds_toArray, List.set_cons_zero, List.set_cons_succ, i64_w, i32_w]
      rfl
     refine take_ (i := 1) (N := some 51) (v := ?_) (a' := ?_) (bs 11 3) rfl rfl (by kernel_rfl) (fun _ _ _ h => h) (Or.inl ⟨by rfl, ?_⟩) hHeld ?_ ?_
     rotate_left
     ·rintro w' ⟨s0, s1, s2, s3, s4, s5, s6, s7⟩
      go_simp
      with_reducible rfl
     rotate_left
     ·simp only [Act.put, List.setIfInBounds_toArray, List.set_cons_zero, List.set_cons_succ, i64_w, i32_w]
      rfl
     refine pure_ (i := 2) (N := some 52) (v := ?_) (a' := ?_) (bs 11 7) rfl rfl (by kernel_rfl) (fun _ _ _ h => h) (Or.inl ⟨by rfl, ?_⟩) ?_ ?_
     rotate_left
     ·intro w'
      go_simp
      with_reducible rfl
     rotate_left
     ·simp only [Act.put, List.setIfInBounds_toArray, List.set_cons_zero, List.set_cons_succ, i64_w, i32_w]
      rfl
     refine pure_ (i := 3) (N := some 53) (v := ?_) (a' := ?_) (bs 11 15) rfl rfl (by kernel_rfl) (fun _ _ _ h => h) (Or.inl ⟨by rfl, ?_⟩) ?_ ?_
     rotate_left
     ·intro w'
      go_simp
      with_reducible rfl
     rotate_left
     ·simp only [Act.put, List.setIfInBounds_toArray, List.set_cons_zero, List.set_cons_succ, i64_w, i32_w]
      rfl
     refine take_ (i := 4) (N := some 54) (v := ?_) (a' := ?_) (bs 11 31) rfl rfl (by kernel_rfl) (fun _ _ _ h => h) (Or.inl ⟨by rfl, ?_⟩) hHeld ?_ ?_
     rotate_left
     ·rintro w' ⟨s0, s1, s2, s3, s4, s5, s6, s7⟩
      go_simp
      with_reducible rfl
     rotate_left
     ·simp only [Act.put, List.setIfInBounds_toArray, List.set_cons_zero, List.set_cons_succ, i64_w, i32_w]
      rfl
     refine take_ (i := 5) (N := some 55) (v := ?_) (a' := ?_) (bs 11 63) rfl rfl (by kernel_rfl) (fun _ _ _ h => h) (Or.inl ⟨by rfl, ?_⟩) hHeld ?_ ?_
     rotate_left
     ·rintro w' ⟨s0, s1, s2, s3, s4, s5, s6, s7⟩
      go_simp
      with_reducible rfl
     rotate_left
     ·simp only [Act.put, List.setIfInBounds_toArray, List.set_cons_zero, List.set_cons_succ, i64_w, i32_w]
      rfl
     refine one_ (i := 6) (N := some 56) (bs 11 127) rfl rfl (by kernel_rfl) (by decide) (fun K hK => ?_)
     refine value_ (w1 := ?_) (v := ?_) (by rfl) rfl ?_ ?_
     rotate_left 2
     ·go_simp
      constructor
      ·rfl
      ·rfl
     refine hK.out _ _ ⟨cell_al _ (hHeld.1), cell_al _ (hHeld.2.1), cell_al _ (hHeld.2.2.1), cell_al _ (hHeld.2.2.2.1), cell_al _ (hHeld.2.2.2.2.1), cell_al _ (hHeld.2.2.2.2.2.1), cell_al _ (hHeld.2.2.2.2.2.2.1), cell_al _ (hHeld.2.2.2.2.2.2.2)⟩ (fun hHeld => ?_)
     clear hK K
     refine norm_ (a' := ?_) ?_ ?_
     rotate_left
     ·show Act.put _ (some 56) _ = _
      simp only [Act.put, List.setIfInBounds_toArray, List.set_cons_zero, List.set_cons_succ, i64_w, i32_w]
      rfl
     refine one_ (i := 7) (N := some 57) (bs 11 255) rfl rfl (by kernel_rfl) (by decide) (fun K hK => ?_)
     refine append6_op (.tmp 54) (.tmp 56) (by rfl) rfl (m1 + 9) (.slice (some ad) T.length c) T y W3.heap.size 1 rfl rfl HOWN.out (Blk.drew (Blk.new _ _ _ _ rfl)) hlen (by show m1 + 9 ≤ (W3.alloc _).heap.size; simp; omega) ?_
     intro v5 w5 ho5 hg5 hat5
     obtain ⟨A7, c7, rfl, hrow5⟩ := sc_own_C ho5
     have hge := own_base HOWN.out
     have hn1 : some (m1 + 1) ≠ (Value.slice (some ad) T.length c).ownBlock := fun e => by have := hge _ e.symm; omega
     have hn2 : some (m1 + 1 + 1) ≠ (Value.slice (some ad) T.length c).ownBlock := fun e => by have := hge _ e.symm; omega
     have hn3 : some Bx ≠ (Value.slice (some ad) T.length c).ownBlock := fun e => HAP.out e.symm
     have HO5 := Aside0.mk (And.intro ho5 hg5)
     refine hK.out _ _ ⟨cell_grown' hg5 (hHeld.1) hn2, cell_grown' hg5 (hHeld.2.1) hn1, cell_grown' hg5 (hHeld.2.2.1) hn3, cell_grown' hg5 (hHeld.2.2.2.1) hn3, cell_grown' hg5 (hHeld.2.2.2.2.1) hn3, cell_grown' hg5 (hHeld.2.2.2.2.2.1) hn3, cell_grown' hg5 (hHeld.2.2.2.2.2.2.1) hn3, cell_grown' hg5 (hHeld.2.2.2.2.2.2.2) hn3⟩ (fun hHeld => ?_)
     clear hK K
     refine norm_ (a' := ?_) ?_ ?_
     rotate_left
     ·show Act.put _ (some 57) _ = _
      simp only [Act.put, List.setIfInBounds_toArray, List.set_cons_zero, List.set_cons_succ, i64_w, i32_w]
      rfl
     refine pure_ (i := 8) (N := some 58) (v := ?_) (a' := ?_) (bs 11 511) rfl rfl (by kernel_rfl) (fun _ _ _ h => h) (Or.inl ⟨by rfl, ?_⟩) ?_ ?_
     rotate_left
     ·intro w'
      go_simp
      with_reducible rfl
     rotate_left
     ·simp only [Act.put, List.setIfInBounds_toArray, List.set_cons_zero, List.set_cons_succ, i64_w, i32_w]
      rfl
     refine pure_ (i := 9) (N := some 59) (v := ?_) (a' := ?_) (bs 11 1023) rfl rfl (by kernel_rfl) (fun _ _ _ h => h) (Or.inl ⟨by rfl, ?_⟩) ?_ ?_
     rotate_left
     ·intro w'
      go_simp
      with_reducible rfl
     rotate_left
     ·simp only [Act.put, List.setIfInBounds_toArray, List.set_cons_zero, List.set_cons_succ, i64_w, i32_w]
      rfl
     refine last_ (i := 10) (N := none) (bs 11 2047) rfl rfl (by kernel_rfl) (by decide) (fun K hK => ?_)
     have hc_ : w5.cell? ⟨m1 + 1, 11, none⟩ = _ := hHeld.2.1
     have hf_ : w5.frozen? ⟨m1 + 1, 11, none⟩ = false := HF5.out w5 HO5.out.2
     refine skip_ (w1 := ?_) (by rfl) rfl ?_ ?_
     rotate_left
     ·go_simp
      rfl
     refine hK.out _ _ ?_
     clear hK K
     refine done_ (by kernel_rfl) ?_
     have hpost : mPost W0.heap.size (3 + 2) (fun pre W => Blk W w.heap.size #[.int .i64 x.f0, .int .i64 x.f1, .int .i64 x.f2, .int .i64 x.f3, .int .i64 x.f4, .slice A5 x.f5.length c5, .slice A6 x.f6.length c6, .int .i64 x.f7.f0, .int .i64 x.f7.f1, .slice A9 x.f8.length c9, .slice A10 x.f9.length c10] 38 ∧ Blk W (m1 + 1 + 1) #[.pointer (some ⟨m1 + 1, 0, none⟩)] 107 ∧ Blk W (m1 + 1 + 1 + 1) #[.int .i64 x.f0, .int .i64 x.f1, .int .i64 x.f2, .int .i64 x.f3, .int .i64 x.f4, .slice A5 x.f5.length c5, .slice A6 x.f6.length c6, .int .i64 x.f7.f0, .int .i64 x.f7.f1, .slice A9 x.f8.length c9, .slice A10 x.f9.length c10] 38 ∧ Below w.heap.size w W ∧ W.heap[m1]? = some (.map #[] 0) ∧ ∃ v, Blk W (m1 + 1) #[.int .i64 x.f0, .int .i64 x.f1, .int .i64 x.f2, .int .i64 x.f3, .int .i64 x.f4, .slice A5 x.f5.length c5, .slice A6 x.f6.length c6, .int .i64 x.f7.f0, .int .i64 x.f7.f1, .slice A9 x.f8.length c9, .slice A10 x.f9.length c10, v, .map (some m1)] 151 ∧ W.ownsRow (m1 + 9) 133 6 v (truthTo x pre).length (scCells (truthTo x pre))) (fun _ _ _ => False) (pre ++ [y]) W .normal { tmps := #[], defers := [] } (w5.setCell ⟨m1 + 1, 11, none⟩ (.slice A7 (T.length + 1) c7)) := by
      have hlen1 : (T ++ [y]).length = T.length + 1 := by simp
      have ho5 := HO5.out.1
      rw [hlen1] at ho5
      obtain ⟨i1, i2, i3, i4, i5, i6, i7⟩ := II.out
      have hg := HO5.out.2
      have hge := own_base HOWN.out
      have hlz := i6.lt
      have hBV : Below W.heap.size W ((W3.alloc (.cells #[.int .i64 y.h, .int .i64 y.l0, .int .i64 y.l1, .int .i64 y.l2, .int .i64 y.l3, .int .i64 y.l4] 133)).drew) := below_drew (below_alloc HB4.out _)
      have hgb : ∀ k, k < m1 + 9 → k < W.heap.size → w5.heap[k]? = W.heap[k]? := fun k h1 h2 => (hg.block k (by have := hBV.size; omega) (fun e => by have := hge _ e.symm; omega)).trans (hBV.block k h2)
      have hB5 : Below w.heap.size w w5 := (bel2 i4 hBV).grown hg (by have := (bel2 i4 hBV).size; exact this) (fun k e => by have := hge _ e; omega)
      refine ⟨fun k h1 h2 => ?_, ?_, ?_, ?_, hB5.setCell (p := ⟨m1 + 1, 11, none⟩) (by show w.heap.size ≤ m1 + 1; omega) _, ?_, .slice A7 (T.length + 1) c7, ?_, ?_⟩
      ·exact (Below.heap_setCell w5 _ _ k (by show k ≠ m1 + 1; omega)).trans (hgb k (by omega) (by omega))
      ·exact Blk.set_other ((hgb _ (by omega) i1.lt).trans i1) (by show w.heap.size ≠ m1 + 1; omega) _
      ·exact Blk.set_other ((hgb _ (by omega) i2.lt).trans i2) (by show m1 + 1 + 1 ≠ m1 + 1; omega) _
      ·exact Blk.set_other ((hgb _ (by omega) i3.lt).trans i3) (by show m1 + 1 + 1 + 1 ≠ m1 + 1; omega) _
      ·exact (Below.heap_setCell w5 _ _ m1 (by show m1 ≠ m1 + 1; omega)).trans ((hgb m1 (by omega) (Array.getElem?_eq_some_iff.1 i5).1).trans i5)
      ·exact Blk.set (show Blk w5 (m1 + 1) _ 151 from (hgb _ (by omega) i6.lt).trans i6) 11 _
      ·rw [HSN.out, HT2.out, hlen1]
       exact ownsRow_setCell_below ho5 (by show m1 + 1 < m1 + 9; omega) _
     have HPOST := Aside0.mk hpost
     clear hpost hHeld
     gi_wp2
     exact HPOST.out
 case done =>
  intro W hI hK
  obtain ⟨i1, i2, i3, i4, i5, v, i6, i7⟩ := hI
  have hmk : MachKeep W0.heap.size 1 W (W.putObj W0.heap.size (.deferred none)) := MachKeep.putObj _ _ (by omega) (by omega)
  have hbf : Below w.heap.size w (W.putObj W0.heap.size (.deferred none)) := hmk.below i4 (Nat.le_refl _) (by omega)
  have hwk : WorkAt x [.int .i64 x.f0, .int .i64 x.f1, .int .i64 x.f2, .int .i64 x.f3, .int .i64 x.f4, .slice A5 x.f5.length c5, .slice A6 x.f6.length c6, .int .i64 x.f7.f0, .int .i64 x.f7.f1, .slice A9 x.f8.length c9, .slice A10 x.f9.length c10] (m1 + 1) m1 (W.putObj W0.heap.size (.deferred none)) := by
   have i7f : (W.putObj W0.heap.size (.deferred none)).ownsRow (m1 + 9) 133 6 v (truthL x).length (scCells (truthL x)) := own_move i7 (fun k hk2 => hmk.block k (own_lt i7 k hk2) (by have := own_base i7 k hk2; omega))
   obtain ⟨A', c', hv', hrow'⟩ := sc_own_C i7f
   subst hv'
   exact ⟨A', c', i6.mach hmk (by omega), hrow'⟩
  have hmm : (W.putObj W0.heap.size (.deferred none)).heap[m1]? = some (.map #[] 0) := (hmk.block m1 (Array.getElem?_eq_some_iff.1 i5).1 (by omega)).trans i5
  obtain ⟨A, c, rfl, hrow⟩ := sc_own_C i7
  have kp := i2.cell 0 _ rfl
  have kt := i6.cell 11 _ rfl
  have hTT : truthTo x (allSc x) = truthL x := rfl
  rw [hTT] at kt
  have hl5 := hrow.2.1
  rw [hTT] at hl5
  have HK := Aside0.mk hK
  have HF := Aside0.mk (And.intro hbf (And.intro hwk hmm))
  have hmz : w.heap.size ≤ m1 := by omega
  clear hz hK hbf hwk hmm hmk hrow i1 i2 i3 i4 i5 i6 i7 HI hTT
  cases hE : (truthL x).isEmpty with
  | true =>
   have hEl : ((truthL x).length : Int) = 0 := by
    have := List.isEmpty_iff.1 hE
    rw [this]; rfl
   have HE := Lib.hid hE
   clear hE
   gi_wp2
   refine ⟨by simp, .inl ⟨_, _, rfl, run_takeDeferred HK.out, ?_⟩⟩
   refine ⟨_, results_tmp2 rfl _ _ _, HF.out.1, ?_⟩
   rw [if_pos HE.out]; rfl
  | false =>
   have hEl : (((truthL x).length : Int) == 0) = false := by
    have h1 : truthL x ≠ [] := fun e => by rw [e] at hE; cases hE
    have : (truthL x).length ≠ 0 := fun e => h1 (List.eq_nil_of_length_eq_zero e)
    simp only [beq_eq_false_iff_ne]
    omega
   have HE := Lib.hid hE
   clear hE
   gi_wp2
   refine ⟨by simp, .inl ⟨_, _, rfl, run_takeDeferred HK.out, ?_⟩⟩
   refine ⟨_, results_tmp2 rfl _ _ _, HF.out.1, ?_⟩
   rw [if_neg (by rw [HE.out]; decide)]
   exact ⟨m1 + 1, m1, rfl, by omega, hmz, HF.out.2.1, HF.out.2.2⟩
 case stop =>
  rintro _ _ _ _ h
  exact h.elim
end Go.Proofs.Ytdgkhoflajdidaa
