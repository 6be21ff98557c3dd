/- Lemmas for the law's proof: Ld, Q0, Qb, Ra. -/
import Derived.Test.YtdgkhoflajdidaaKeeps14
import Derived.Test.YtdgkhoflajdidaaKeeps12
import Derived.Test.YtdgkhoflajdidaaKeeps17
import Derived.Test.YtdgkhoflajdidaaKeeps19
import Derived.Test.YtdgkhoflajdidaaKeeps18
import Derived.Test.YtdgkhoflajdidaaKeeps03
import Derived.WalkKit
import Derived.ProofKit
import Derived.OpenShut
import Derived.ShutString
import Derived.ChangeOld
import Derived.ChangeArms
import Derived.ChangeSlices
import Derived.Deep.Slices
import Derived.Carry
import Derived.Below
import Derived.SizedLaws
/- awake: the first examples of the document. -/
namespace Go.Proofs.Ytdgkhoflajdidaa
open Go.RowKit Go.Proofs.YtdgkhoflajdidaaW.PrintWords Go.Proofs.YtdgkhoflajdidaaW.PrintMore Go.Proofs.YtdgkhoflajdidaaW.PrintLast Go.Proofs.Ytdgkhoflajdidaa.Print
set_option linter.unusedVariables false
set_option linter.unusedSimpArgs false
theorem ex_play {W : World} {cs : List Value} {g : Nat} (hk : k38.K W (threeX 0 2) cs) (hb : Blk W g #[.int .i64 3, .int .i64 4, .int .i64 2] 3) : Calls Try.prog 47 #[.agg cs.toArray, .agg #[.int .i64 10, .slice (some ⟨g, 0, none⟩) 3 3]] W fun e w' => ∃ A a B b, e = .returned (.tuple #[.slice A 3 a, .slice B 3 b, .int .i64 0]) ∧ Aside0 (Kd.C (Kd.int .i64) w' A [(6 : Int), 4, 2].length [6, 4, 2] ∧ Kd.C (Kd.int .i64) w' B [(12 : Int), 10, 0].length [12, 10, 0]) ∧ Aside0 (Below W.heap.size W w') := by
  have h1 : playF (threeX 0 2) ⟨10, [3, 4, 2]⟩ = ([6, 4, 2], [12, 10, 0], 0) := by kernel_rfl
  have h2 := playT_calls (threeX 0 2) cs ⟨10, [3, 4, 2]⟩ _ W hk (k75_mk W ⟨10, [3, 4, 2]⟩ (c1 := 3) (Nat.le_refl _) (ints3_C 3 4 2 hb))
  rw [h1] at h2
  refine h2.mono ?_
  rintro e w' ⟨A, a, B, b, rfl, hA, hB, hb⟩
  exact ⟨A, a, B, b, rfl, ⟨hA, hB⟩, ⟨hb⟩⟩
theorem ex_bounds {W : World} {cs : List Value} (hk : k38.K W (threeX 1 2) cs) : Calls Try.prog 21 #[.agg cs.toArray] W fun e w' => ∃ A a B b, e = .returned (.tuple #[.slice A 3 a, .slice B 3 b, .int .i64 0]) ∧ Aside0 (Kd.C k35 w' A [(⟨6, 6⟩ : S35), ⟨4, 5⟩, ⟨2, 3⟩].length [⟨6, 6⟩, ⟨4, 5⟩, ⟨2, 3⟩] ∧ Kd.C k35 w' B [(⟨12, 15⟩ : S35), ⟨10, 14⟩, ⟨0, 6⟩].length [⟨12, 15⟩, ⟨10, 14⟩, ⟨0, 6⟩]) ∧ Aside0 (Below W.heap.size W w') := by
  have h1 : boundsF (threeX 1 2) = ([⟨6, 6⟩, ⟨4, 5⟩, ⟨2, 3⟩], [⟨12, 15⟩, ⟨10, 14⟩, ⟨0, 6⟩], 0) := by kernel_rfl
  have h2 := boundsF_calls (threeX 1 2) cs W hk
  unfold BndPost at h2
  rw [h1] at h2
  refine h2.mono ?_
  rintro e w' ⟨A, a, B, b, rfl, hA, hB, hb⟩
  exact ⟨A, a, B, b, rfl, ⟨hA, hB⟩, ⟨hb⟩⟩
theorem ex_keeps {W : World} {cs : List Value} (hk : k38.K W (threeX 0 3) cs) : Calls Try.prog 52 #[.agg cs.toArray] W fun e w' => ∃ A a, e = .returned (.tuple #[.slice A 3 a, .int .i64 0]) ∧ Aside0 (Kd.C (Kd.int .i64) w' A [(1 : Int), 1, 3].length [1, 1, 3]) ∧ Aside0 (Below W.heap.size W w') := by
  have h1 : keepsF (threeX 0 3) = ([1, 1, 3], 0) := by kernel_rfl
  have h2 := keepsF_calls (threeX 0 3) cs W hk
  unfold KeepPost at h2
  rw [h1] at h2
  refine h2.mono ?_
  rintro e w' ⟨A, a, rfl, hA, hb⟩
  exact ⟨A, a, rfl, ⟨hA⟩, ⟨hb⟩⟩
theorem ex_more {W : World} {cs : List Value} {g : Nat} (hk : k38.K W (threeX 0 2) cs) (hb : Blk W g #[.int .i64 2, .int .i64 1, .int .i64 0] 3) : Calls Try.prog 26 #[.agg cs.toArray, .slice (some ⟨g, 0, none⟩) 3 3] W fun e w' => e = .returned (.tuple #[.int .i64 2, .int .i64 0]) ∧ Aside0 (Below W.heap.size W w') := by
  have h1 : moreF (threeX 0 2) [2, 1, 0] = (2, 0) := by kernel_rfl
  have h2 := moreF_calls (threeX 0 2) cs _ 3 [2, 1, 0] W hk (ints3_C 2 1 0 hb)
  rw [h1] at h2
  exact h2.mono fun e w' h => ⟨h.1, ⟨h.2⟩⟩
theorem ex_spare {W : World} {cs : List Value} (hk : k38.K W (threeX 2 2) cs) : Calls Try.prog 28 #[.agg cs.toArray, .int .i64 2] W fun e w' => e = .returned (.tuple #[.int .i64 1, .int .i64 0]) ∧ Aside0 (Below W.heap.size W w') := by
  have h1 : spareF (threeX 2 2) 2 = (1, 0) := by kernel_rfl
  have h2 := spareF_calls (threeX 2 2) cs 2 W hk
  rw [h1] at h2
  exact h2.mono fun e w' h => ⟨h.1, ⟨h.2⟩⟩
theorem ex_least {W : World} {cs : List Value} (hk : k38.K W (threeX 0 2) cs) : Calls Try.prog 63 #[.agg cs.toArray] W fun e w' => ∃ A a, e = .returned (.tuple #[.slice A 3 a, .int .i64 0]) ∧ Aside0 (Kd.C (Kd.int .i64) w' A [(1 : Int), 1, 1].length [1, 1, 1]) ∧ Aside0 (Below W.heap.size W w') := by
  have h1 : leastF (threeX 0 2) = ([1, 1, 1], 0) := by kernel_rfl
  have h2 := leastF_calls (threeX 0 2) cs W hk
  unfold LeastPost at h2
  rw [h1] at h2
  refine h2.mono ?_
  rintro e w' ⟨A, a, rfl, hA, hb⟩
  exact ⟨A, a, rfl, ⟨hA⟩, ⟨hb⟩⟩
theorem ex_first {W : World} {cs : List Value} (hk : k38.K W (threeX 3 2) cs) : Calls Try.prog 35 #[.agg cs.toArray] W fun e w' => e = .returned (.tuple #[.int .i64 2, .int .i64 0]) ∧ Aside0 (Below W.heap.size W w') := by
  have h1 : firstF (threeX 3 2) = (2, 0) := by kernel_rfl
  have h2 := first_calls (threeX 3 2) cs W hk
  rw [h1] at h2
  exact h2.mono fun e w' h => ⟨h.1, ⟨h.2⟩⟩
theorem ex_leave {W : World} {cs : List Value} (hk : k38.K W (threeX 3 2) cs) : Calls Try.prog 36 #[.agg cs.toArray] W fun e w' => ∃ A a, e = .returned (.tuple #[.slice A 1 a, .int .i64 0]) ∧ Aside0 (Kd.C (Kd.int .i64) w' A [(0 : Int)].length [0]) ∧ Aside0 (Below W.heap.size W w') := by
  have h1 : leaveF (threeX 3 2) = ([0], 0) := by kernel_rfl
  have h2 := leave_calls (threeX 3 2) cs W hk
  rw [h1] at h2
  refine h2.mono ?_
  rintro e w' ⟨A, a, rfl, hA, hb⟩
  exact ⟨A, a, rfl, ⟨hA⟩, ⟨hb⟩⟩
theorem ex_same {W : World} {A : Option Addr} {c g : Nat} {a b d : Int} (hA : Kd.C (Kd.int .i64) W A [a, b, d].length [a, b, d]) (hb : Blk W g #[.int .i64 a, .int .i64 b, .int .i64 d] 3) : Calls Try.prog 38 #[.slice A 3 c, .slice (some ⟨g, 0, none⟩) 3 3] W fun e w' => e = .returned (.bool true) ∧ Aside0 (Below W.heap.size W w') := by
  have h2 := same_calls A (some ⟨g, 0, none⟩) c 3 [a, b, d] [a, b, d] W hA (ints3_C a b d hb)
  rw [decide_eq_true rfl] at h2
  exact h2.mono fun e w' h => ⟨h.1, ⟨h.2⟩⟩
theorem ex_same1 {W : World} {A : Option Addr} {c g : Nat} {a : Int} (hA : Kd.C (Kd.int .i64) W A [a].length [a]) (hb : Blk W g #[.int .i64 a] 3) : Calls Try.prog 38 #[.slice A 1 c, .slice (some ⟨g, 0, none⟩) 1 1] W fun e w' => e = .returned (.bool true) ∧ Aside0 (Below W.heap.size W w') := by
  have h2 := same_calls A (some ⟨g, 0, none⟩) c 1 [a] [a] W hA (cells_C (Kd.int .i64) (fun p => [.int .i64 p]) (fun _ _ => rfl) (fun _ => rfl) [a] [] (by exact hb) (by simp))
  rw [decide_eq_true rfl] at h2
  exact h2.mono fun e w' h => ⟨h.1, ⟨h.2⟩⟩
def upTo (n k : Nat) : Array Bool := (List.replicate k true ++ List.replicate (n - k) false).toArray
/-- What awake keeps: rows. -/
structure St (w W : World) (l : List (Option Addr × List Int)) (m : List (Option Addr × List S35)) : Prop where
  bel : Below w.heap.size w W
  ints : ∀ p ∈ l, Kd.C (Kd.int .i64) W p.1 p.2.length p.2
  rgs : ∀ p ∈ m, Kd.C k35 W p.1 p.2.length p.2
theorem St.step {w W V : World} {l : List (Option Addr × List Int)} {m : List (Option Addr × List S35)} (h : St w W l m) (hb : Below W.heap.size W V) : St w V l m := ⟨bel2 h.bel hb, fun p hp => Kd.C_below (h.ints p hp) hb, fun p hp => Kd.C_below (h.rgs p hp) hb⟩
theorem St.alloc {w W : World} {l : List (Option Addr × List Int)} {m : List (Option Addr × List S35)} (h : St w W l m) (o : Obj) : St w (W.alloc o) l m := h.step (below_alloc (Below.refl _ _) o)
theorem St.addI {w W : World} {l : List (Option Addr × List Int)} {m : List (Option Addr × List S35)} (h : St w W l m) {A : Option Addr} {xs : List Int} (hc : Kd.C (Kd.int .i64) W A xs.length xs) : St w W ((A, xs) :: l) m :=
  ⟨h.bel, fun p hp => (List.mem_cons.1 hp).elim (fun e => by rw [e]; exact hc) (h.ints p), h.rgs⟩
theorem St.addR {w W : World} {l : List (Option Addr × List Int)} {m : List (Option Addr × List S35)} (h : St w W l m) {A : Option Addr} {xs : List S35} (hc : Kd.C k35 W A xs.length xs) : St w W l ((A, xs) :: m) :=
  ⟨h.bel, h.ints, fun p hp => (List.mem_cons.1 hp).elim (fun e => by rw [e]; exact hc) (h.rgs p)⟩
set_option maxRecDepth 100000
def awk.T9 : Bool × List (List Nat × List Nat) := (true, [([], []), ([0], [0]), ([1], [1]), ([2], [2]), ([2], [2]), ([3, 4, 2, 2], [2, 3, 4]), ([2, 5], [2, 5]), ([6, 5], [6]), ([7], [7]), ([7], [7]), ([8, 9, 7, 7], [7, 8, 9]), ([7, 10], [7, 10]), ([11, 10], [11]), ([12], [12]), ([13, 12], [12, 13]), ([12, 14], [12, 14]), ([15, 12], [15]), ([16], [16]), ([17, 16], [16, 17]), ([18, 16], [16, 18]), ([16, 19], [16, 19]), ([20, 16], [20]), ([21], [21]), ([22, 21], [21, 22]), ([23, 21], [21, 23]), ([21, 24], [21, 24]), ([25, 21], [25]), ([26], [26]), ([27, 26], [26, 27]), ([28, 26], [26, 28]), ([26, 26], [26]), ([29, 30, 26], [26, 29, 30]), ([26, 31], [26, 31]), ([32, 30], [32]), ([33], [33]), ([34, 33], [33, 34]), ([35, 33], [33, 35]), ([33, 33], [33]), ([36, 37, 33], [33, 36, 37]), ([33, 38], [33, 38]), ([39, 37], [39]), ([40], [40]), ([41, 40], [40, 41]), ([40, 42], [40, 42]), ([43, 40], [43]), ([44], [44]), ([44], [44]), ([45, 46, 44, 44], [44, 45, 46]), ([44, 47], [44, 47]), ([48, 47], [48]), ([49], [49]), ([50, 49], [49, 50]), ([49, 51], [49, 51]), ([52, 49], [52]), ([53], [53]), ([54, 53], [53, 54]), ([53, 55], [53, 55]), ([56, 53], [56]), ([57], [57]), ([58, 57], [57, 58]), ([57, 59], [57, 59]), ([60, 57], [60]), ([61], [61]), ([62, 61], [61, 62]), ([61, 63], [61, 63]), ([64, 61], [64]), ([65], [65]), ([66, 65], [65, 66]), ([65, 67], [65, 67]), ([68, 65], [68]), ([69], [69]), ([69], [69]), ([70, 71, 69, 69], [69, 70, 71]), ([69, 72], [69, 72]), ([73, 72], [73]), ([74], [74]), ([75, 74], [74, 75]), ([74, 76], [74, 76]), ([77, 74], [77]), ([78], [78]), ([79, 78], [78, 79]), ([78, 80], [78, 80]), ([81, 78], [81]), ([82], [82]), ([83, 82], [82, 83]), ([82, 84], [82, 84]), ([85, 82], [85]), ([86], [86]), ([86], [86]), ([87, 88, 86, 86], [86, 87, 88]), ([86, 89], [86, 89]), ([90, 89, 0, 1, 2, 3, 4, 5, 6, 7, 8, 9, 10, 11, 12, 13, 14, 15, 16, 17, 18, 19, 20, 21, 22, 23, 24, 25, 26, 27, 28, 29, 30, 31, 32, 33, 34, 35, 36, 37, 38, 39, 40, 41, 42, 43, 44, 45, 46, 47, 48, 49, 50, 51, 52, 53, 54, 55, 56, 57, 58, 59, 60, 61, 62, 63, 64, 65, 66, 67, 68, 69, 70, 71, 72, 73, 74, 75, 76, 77, 78, 79, 80, 81, 82, 83, 84, 85, 86, 87, 88, 89, 90], [90])])
def awk.B9 : List Nat := [0, 1, 3, 7, 7, 31, 63, 127, 255, 255, 1023, 2047, 4095, 8191, 16383, 32767, 65535, 131071, 262143, 524287, 1048575, 2097151, 4194303, 8388607, 16777215, 33554431, 67108863, 134217727, 268435455, 536870911, 134217727, 2147483647, 4294967295, 8589934591, 17179869183, 34359738367, 68719476735, 17179869183, 274877906943, 549755813887, 1099511627775, 2199023255551, 4398046511103, 8796093022207, 17592186044415, 35184372088831, 35184372088831, 140737488355327, 281474976710655, 562949953421311, 1125899906842623, 2251799813685247, 4503599627370495, 9007199254740991, 18014398509481983, 36028797018963967, 72057594037927935, 144115188075855871, 288230376151711743, 576460752303423487, 1152921504606846975, 2305843009213693951, 4611686018427387903, 9223372036854775807, 18446744073709551615, 36893488147419103231, 73786976294838206463, 147573952589676412927, 295147905179352825855, 590295810358705651711, 1180591620717411303423, 1180591620717411303423, 4722366482869645213695, 9444732965739290427391, 18889465931478580854783, 37778931862957161709567, 75557863725914323419135, 151115727451828646838271, 302231454903657293676543, 604462909807314587353087, 1208925819614629174706175, 2417851639229258349412351, 4835703278458516698824703, 9671406556917033397649407, 19342813113834066795298815, 38685626227668133590597631, 77371252455336267181195263, 154742504910672534362390527, 154742504910672534362390527, 618970019642690137449562111, 1237940039285380274899124223, 2475880078570760549798248447]
theorem awk.tab9 : rtab .any (opsOf Try.f20 9) = awk.T9 := by kernel_rfl
theorem awk.bits9 : waitsOk awk.T9.2 awk.B9 = true := by kernel_rfl
set_option maxHeartbeats 4000000 in
/-- awake returns true. -/
theorem awake_calls (w : World) : Calls Try.prog 20 #[] w fun e w' => e = .returned (.bool true) ∧ Below w.heap.size w w' := by
  have hu3 := Try.underlying35
  have H0 : Aside0 (St w w [] []) := ⟨⟨Below.refl _ _, fun p hp => (by cases hp), fun p hp => (by cases hp)⟩⟩
  go_enter Try.func20, Try.ntmps20
  go_wp2_with fail
  refine (threeK_calls 0 (by decide) _).mono ?_
  rintro e w1 ⟨cs1, rfl, hb, hk⟩
  have K1 := Aside0.mk hk
  have H1 := Aside0.mk (H0.out.step hb)
  clear hb hk H0
  go_wp2_with fail
  refine (ex_play (k38.K_below (below_alloc (Below.refl _ _) _) K1.out) (Blk.new _ _ _ _ rfl)).mono ?_
  rintro e w2 ⟨A1, a1, B1, b1, rfl, hc, hb⟩
  have H2 := Aside0.mk ((((H1.out.alloc _).step hb.out).addI hc.out.1).addI hc.out.2)
  clear hb H1 hc K1
  go_wp2_with fail
  refine (threeK_calls 1 (by decide) _).mono ?_
  rintro e w3 ⟨cs3, rfl, hb, hk⟩
  have K3 := Aside0.mk hk
  have H3 := Aside0.mk (H2.out.step hb)
  clear hb hk H2
  go_wp2_with fail
  refine (ex_bounds K3.out).mono ?_
  rintro e w4 ⟨A2, a2, B2, b2, rfl, hc, hb⟩
  have H4 := Aside0.mk (((H3.out.step hb.out).addR hc.out.1).addR hc.out.2)
  clear hb H3 hc K3
  go_wp2_with fail
  refine (wanting_calls 3 _).mono ?_
  rintro e w5 ⟨cs5, rfl, hb, hk⟩
  have K5 := Aside0.mk hk
  have H5 := Aside0.mk (H4.out.step hb)
  clear hb hk H4
  go_wp2_with fail
  refine (ex_keeps K5.out).mono ?_
  rintro e w6 ⟨A3, a3, rfl, hc, hb⟩
  have H6 := Aside0.mk ((H5.out.step hb.out).addI hc.out)
  clear hb H5 hc K5
  go_wp2_with fail
  refine (threeK_calls 0 (by decide) _).mono ?_
  rintro e w7 ⟨cs7, rfl, hb, hk⟩
  have K7 := Aside0.mk hk
  have H7 := Aside0.mk (H6.out.step hb)
  clear hb hk H6
  go_wp2_with fail
  refine (ex_more (k38.K_below (below_alloc (Below.refl _ _) _) K7.out) (Blk.new _ _ _ _ rfl)).mono ?_
  rintro e w8 ⟨rfl, hb⟩
  have H8 := Aside0.mk ((H7.out.alloc _).step hb.out)
  clear hb H7 K7
  go_wp2_with fail
  refine (threeK_calls 2 (by decide) _).mono ?_
  rintro e w9 ⟨cs9, rfl, hb, hk⟩
  have K9 := Aside0.mk hk
  have H9 := Aside0.mk (H8.out.step hb)
  clear hb hk H8
  go_wp2_with fail
  refine (ex_spare K9.out).mono ?_
  rintro e w10 ⟨rfl, hb⟩
  have H10 := Aside0.mk (H9.out.step hb.out)
  clear hb H9 K9
  go_wp2_with fail
  refine (threeK_calls 0 (by decide) _).mono ?_
  rintro e w11 ⟨cs11, rfl, hb, hk⟩
  have K11 := Aside0.mk hk
  have H11 := Aside0.mk (H10.out.step hb)
  clear hb hk H10
  go_wp2_with fail
  refine (ex_least K11.out).mono ?_
  rintro e w12 ⟨A4, a4, rfl, hc, hb⟩
  have H12 := Aside0.mk ((H11.out.step hb.out).addI hc.out)
  clear hb H11 hc K11
  go_wp2_with fail
  refine (threeK_calls 3 (by decide) _).mono ?_
  rintro e w13 ⟨cs13, rfl, hb, hk⟩
  have K13 := Aside0.mk hk
  have H13 := Aside0.mk (H12.out.step hb)
  clear hb hk H12
  go_wp2_with fail
  refine (ex_first K13.out).mono ?_
  rintro e w14 ⟨rfl, hb⟩
  have H14 := Aside0.mk (H13.out.step hb.out)
  clear hb H13 K13
  go_wp2_with fail
  refine (threeK_calls 3 (by decide) _).mono ?_
  rintro e w15 ⟨cs15, rfl, hb, hk⟩
  have K15 := Aside0.mk hk
  have H15 := Aside0.mk (H14.out.step hb)
  clear hb hk H14
  go_wp2_with fail
  refine (ex_leave K15.out).mono ?_
  rintro e w16 ⟨A5, a5, rfl, hc, hb⟩
  have H16 := Aside0.mk ((H15.out.step hb.out).addI hc.out)
  clear hb H15 hc K15
  go_wp2
  obtain ⟨ax, hax, kx0, kx1⟩ := row_at_rg (H16.out.rgs (A2, [⟨6, 6⟩, ⟨4, 5⟩, ⟨2, 3⟩]) (by simp)) 1 (by simp)
  obtain ⟨ay, hay, ky0, ky1⟩ := row_at_rg (H16.out.rgs (B2, [⟨12, 15⟩, ⟨10, 14⟩, ⟨0, 6⟩]) (by simp)) 2 (by simp)
  simp only at hax hay
  subst hax
  subst hay
  refine start_ (n := 92) (S := fun w' => w'.cell? ⟨ax.block, ax.off + 2, none⟩ = some (.int .i64 4) ∧ w'.cell? ⟨ax.block, ax.off + 2 + 1, none⟩ = some (.int .i64 5) ∧ w'.cell? ⟨ay.block, ay.off + 4, none⟩ = some (.int .i64 0) ∧ w'.cell? ⟨ay.block, ay.off + 4 + 1, none⟩ = some (.int .i64 6)) (ds := []) (upTo 92 0) (by kernel_rfl) rfl (by kernel_rfl) ⟨kx0, kx1, ky0, ky1⟩ (fun hHeld => ?_)
  refine with_tabW awk.tab9 awk.bits9 (fun HT_ HW_ => ?_)
  refine pure_ (i := 0) (N := some 64) (v := ?_) (a' := ?_) (upTo 92 1) rfl rfl (any_of HT_.out (by kernel_rfl)) (fun _ _ _ h => h) (Or.inl ⟨by rfl, ?_⟩) ?_ ?_
  rotate_left
  · intro w'
    go_simp
    with_reducible rfl
  rotate_left
  · simp only [Act.put, List.setIfInBounds_toArray, List.set_cons_zero, List.set_cons_succ, i64_w, i32_w]
    rfl
  refine pure_ (i := 1) (N := some 65) (v := ?_) (a' := ?_) (upTo 92 2) rfl rfl (any_of HT_.out (by kernel_rfl)) (fun _ _ _ h => h) (Or.inl ⟨by rfl, ?_⟩) ?_ ?_
  rotate_left
  · intro w'
    go_simp
    with_reducible rfl
  rotate_left
  · simp only [Act.put, List.setIfInBounds_toArray, List.set_cons_zero, List.set_cons_succ, i64_w, i32_w]
    rfl
  refine pure_ (i := 2) (N := some 66) (v := ?_) (a' := ?_) (upTo 92 3) rfl rfl (any_of HT_.out (by kernel_rfl)) (fun _ _ _ h => h) (Or.inl ⟨by rfl, ?_⟩) ?_ ?_
  rotate_left
  · intro w'
    go_simp
    with_reducible rfl
  rotate_left
  · simp only [Act.put, List.setIfInBounds_toArray, List.set_cons_zero, List.set_cons_succ, i64_w, i32_w]
    rfl
  refine pure_ (i := 3) (N := some 67) (v := ?_) (a' := ?_) (upTo 92 4) rfl rfl (any_of HT_.out (by kernel_rfl)) (fun _ _ _ h => h) (Or.inl ⟨by rfl, ?_⟩) ?_ ?_
  rotate_left
  · intro w'
    go_simp
    with_reducible rfl
  rotate_left
  · simp only [Act.put, List.setIfInBounds_toArray, List.set_cons_zero, List.set_cons_succ, i64_w, i32_w]
    rfl
  refine one_ (i := 4) (N := some 68) (upTo 92 5) rfl rfl (one_of HT_.out (by kernel_rfl)) (by decide) (fun K hK => ?_)
  refine value_ (w1 := ?_) (v := ?_) (by rfl) rfl ?_ ?_
  rotate_left 2
  · go_simp
    constructor
    · rfl
    · rfl
  refine hK.out _ _ ⟨cell_al _ (hHeld.1), cell_al _ (hHeld.2.1), cell_al _ (hHeld.2.2.1), cell_al _ (hHeld.2.2.2)⟩ (fun hHeld => ?_)
  clear hK K
  refine norm_ (a' := ?_) ?_ ?_
  rotate_left
  · show Act.put _ (some 68) _ = _
    simp only [Act.put, List.setIfInBounds_toArray, List.set_cons_zero, List.set_cons_succ, i64_w, i32_w]
    rfl
  refine one_ (i := 5) (N := some 69) (upTo 92 6) rfl rfl (one_of HT_.out (by kernel_rfl)) (by decide) (fun K hK => ?_)
  refine goes_ Try.func38 (by kernel_rfl) rfl #[.slice A1 3 a1, .slice (some ⟨w16.heap.size, 0, none⟩) 3 3] (by rfl) rfl rfl (by simp only [List.map_toArray, List.map_cons, List.map_nil]; rfl) ?_
  with_reducible refine (ex_same (g := w16.heap.size) (A := A1) (c := a1) (a := 6) (b := 4) (d := 2) (((H16.out.alloc _).step (below_drew (Below.refl _ _))).ints (A1, [6, 4, 2]) (by simp)) (Blk.drew (Blk.new _ _ _ _ rfl))).mono ?_
  rintro e w17 ⟨rfl, hb⟩
  have H17 := Aside0.mk (((H16.out.alloc _).step (below_drew (Below.refl _ _))).step hb.out)
  refine ⟨_, rfl, ?_⟩
  refine hK.out _ _ ⟨pw_cell_below hb.out (hHeld.1), pw_cell_below hb.out (hHeld.2.1), pw_cell_below hb.out (hHeld.2.2.1), pw_cell_below hb.out (hHeld.2.2.2)⟩ (fun hHeld => ?_)
  clear hK K
  refine norm_ (a' := ?_) ?_ ?_
  rotate_left
  · show Act.put _ (some 69) _ = _
    simp only [Act.put, List.setIfInBounds_toArray, List.set_cons_zero, List.set_cons_succ, i64_w, i32_w]
    rfl
  refine pure_ (i := 6) (N := some 70) (v := ?_) (a' := ?_) (upTo 92 7) rfl rfl (any_of HT_.out (by kernel_rfl)) (fun _ _ _ h => h) (Or.inl ⟨by rfl, ?_⟩) ?_ ?_
  rotate_left
  · intro w'
    go_simp
    with_reducible rfl
  rotate_left
  · simp only [Act.put, List.setIfInBounds_toArray, List.set_cons_zero, List.set_cons_succ, i64_w, i32_w]
    rfl
  refine pure_ (i := 7) (N := some 71) (v := ?_) (a' := ?_) (upTo 92 8) rfl rfl (any_of HT_.out (by kernel_rfl)) (fun _ _ _ h => h) (Or.inl ⟨by rfl, ?_⟩) ?_ ?_
  rotate_left
  · intro w'
    go_simp
    with_reducible rfl
  rotate_left
  · simp only [Act.put, List.setIfInBounds_toArray, List.set_cons_zero, List.set_cons_succ, i64_w, i32_w]
    rfl
  refine pure_ (i := 8) (N := some 72) (v := ?_) (a' := ?_) (upTo 92 9) rfl rfl (any_of HT_.out (by kernel_rfl)) (fun _ _ _ h => h) (Or.inl ⟨by rfl, ?_⟩) ?_ ?_
  rotate_left
  · intro w'
    go_simp
    with_reducible rfl
  rotate_left
  · simp only [Act.put, List.setIfInBounds_toArray, List.set_cons_zero, List.set_cons_succ, i64_w, i32_w]
    rfl
  refine one_ (i := 9) (N := some 73) (upTo 92 10) rfl rfl (one_of HT_.out (by kernel_rfl)) (by decide) (fun K hK => ?_)
  refine value_ (w1 := ?_) (v := ?_) (by rfl) rfl ?_ ?_
  rotate_left 2
  · go_simp
    constructor
    · rfl
    · rfl
  refine hK.out _ _ ⟨cell_al _ (hHeld.1), cell_al _ (hHeld.2.1), cell_al _ (hHeld.2.2.1), cell_al _ (hHeld.2.2.2)⟩ (fun hHeld => ?_)
  clear hK K
  refine norm_ (a' := ?_) ?_ ?_
  rotate_left
  · show Act.put _ (some 73) _ = _
    simp only [Act.put, List.setIfInBounds_toArray, List.set_cons_zero, List.set_cons_succ, i64_w, i32_w]
    rfl
  refine one_ (i := 10) (N := some 74) (upTo 92 11) rfl rfl (one_of HT_.out (by kernel_rfl)) (by decide) (fun K hK => ?_)
  refine goes_ Try.func38 (by kernel_rfl) rfl #[.slice B1 3 b1, .slice (some ⟨w17.heap.size, 0, none⟩) 3 3] (by rfl) rfl rfl (by simp only [List.map_toArray, List.map_cons, List.map_nil]; rfl) ?_
  with_reducible refine (ex_same (g := w17.heap.size) (A := B1) (c := b1) (a := 12) (b := 10) (d := 0) ((H17.out.alloc _).ints (B1, [12, 10, 0]) (by simp)) (Blk.new _ _ _ _ rfl)).mono ?_
  rintro e w18 ⟨rfl, hb⟩
  have H18 := Aside0.mk ((H17.out.alloc _).step hb.out)
  refine ⟨_, rfl, ?_⟩
  refine hK.out _ _ ⟨pw_cell_below hb.out (hHeld.1), pw_cell_below hb.out (hHeld.2.1), pw_cell_below hb.out (hHeld.2.2.1), pw_cell_below hb.out (hHeld.2.2.2)⟩ (fun hHeld => ?_)
  clear hK K
  refine norm_ (a' := ?_) ?_ ?_
  rotate_left
  · show Act.put _ (some 74) _ = _
    simp only [Act.put, List.setIfInBounds_toArray, List.set_cons_zero, List.set_cons_succ, i64_w, i32_w]
    rfl
  refine pure_ (i := 11) (N := some 75) (v := ?_) (a' := ?_) (upTo 92 12) rfl rfl (any_of HT_.out (by kernel_rfl)) (fun _ _ _ h => h) (Or.inl ⟨by rfl, ?_⟩) ?_ ?_
  rotate_left
  · intro w'
    go_simp
    with_reducible rfl
  rotate_left
  · simp only [Act.put, List.setIfInBounds_toArray, List.set_cons_zero, List.set_cons_succ, i64_w, i32_w]
    rfl
  refine pure_ (i := 12) (N := some 76) (v := ?_) (a' := ?_) (upTo 92 13) rfl rfl (any_of HT_.out (by kernel_rfl)) (fun _ _ _ h => h) (Or.inl ⟨by rfl, ?_⟩) ?_ ?_
  rotate_left
  · intro w'
    go_simp
    with_reducible rfl
  rotate_left
  · simp only [Act.put, List.setIfInBounds_toArray, List.set_cons_zero, List.set_cons_succ, i64_w, i32_w]
    rfl
  refine pure_ (i := 13) (N := some 77) (v := ?_) (a' := ?_) (upTo 92 14) rfl rfl (any_of HT_.out (by kernel_rfl)) (fun _ _ _ h => h) (Or.inl ⟨by rfl, ?_⟩) ?_ ?_
  rotate_left
  · intro w'
    go_simp
    with_reducible rfl
  rotate_left
  · simp only [Act.put, List.setIfInBounds_toArray, List.set_cons_zero, List.set_cons_succ, i64_w, i32_w]
    rfl
  refine pure_ (i := 14) (N := some 78) (v := ?_) (a' := ?_) (upTo 92 15) rfl rfl (any_of HT_.out (by kernel_rfl)) (fun _ _ _ h => h) (Or.inl ⟨by rfl, ?_⟩) ?_ ?_
  rotate_left
  · intro w'
    go_simp
    with_reducible rfl
  rotate_left
  · simp only [Act.put, List.setIfInBounds_toArray, List.set_cons_zero, List.set_cons_succ, i64_w, i32_w]
    rfl
  refine pure_ (i := 15) (N := some 79) (v := ?_) (a' := ?_) (upTo 92 16) rfl rfl (any_of HT_.out (by kernel_rfl)) (fun _ _ _ h => h) (Or.inl ⟨by rfl, ?_⟩) ?_ ?_
  rotate_left
  · intro w'
    go_simp
    with_reducible rfl
  rotate_left
  · simp only [Act.put, List.setIfInBounds_toArray, List.set_cons_zero, List.set_cons_succ, i64_w, i32_w]
    rfl
  refine pure_ (i := 16) (N := some 80) (v := ?_) (a' := ?_) (upTo 92 17) rfl rfl (any_of HT_.out (by kernel_rfl)) (fun _ _ _ h => h) (Or.inl ⟨by rfl, ?_⟩) ?_ ?_
  rotate_left
  · intro w'
    go_simp
    with_reducible rfl
  rotate_left
  · simp only [Act.put, List.setIfInBounds_toArray, List.set_cons_zero, List.set_cons_succ, i64_w, i32_w]
    rfl
  refine pure_ (i := 17) (N := some 81) (v := ?_) (a' := ?_) (upTo 92 18) rfl rfl (any_of HT_.out (by kernel_rfl)) (fun _ _ _ h => h) (Or.inl ⟨by rfl, ?_⟩) ?_ ?_
  rotate_left
  · intro w'
    go_simp
    with_reducible rfl
  rotate_left
  · simp only [Act.put, List.setIfInBounds_toArray, List.set_cons_zero, List.set_cons_succ, i64_w, i32_w]
    rfl
  refine pure_ (i := 18) (N := some 82) (v := ?_) (a' := ?_) (upTo 92 19) rfl rfl (any_of HT_.out (by kernel_rfl)) (fun _ _ _ h => h) (Or.inl ⟨by rfl, ?_⟩) ?_ ?_
  rotate_left
  · intro w'
    go_simp
    with_reducible rfl
  rotate_left
  · simp only [Act.put, List.setIfInBounds_toArray, List.set_cons_zero, List.set_cons_succ, i64_w, i32_w]
    rfl
  refine pure_ (i := 19) (N := some 83) (v := ?_) (a' := ?_) (upTo 92 20) rfl rfl (any_of HT_.out (by kernel_rfl)) (fun _ _ _ h => h) (Or.inl ⟨by rfl, ?_⟩) ?_ ?_
  rotate_left
  · intro w'
    go_simp
    with_reducible rfl
  rotate_left
  · simp only [Act.put, List.setIfInBounds_toArray, List.set_cons_zero, List.set_cons_succ, i64_w, i32_w]
    rfl
  refine pure_ (i := 20) (N := some 84) (v := ?_) (a' := ?_) (upTo 92 21) rfl rfl (any_of HT_.out (by kernel_rfl)) (fun _ _ _ h => h) (Or.inl ⟨by rfl, ?_⟩) ?_ ?_
  rotate_left
  · intro w'
    go_simp
    with_reducible rfl
  rotate_left
  · simp only [Act.put, List.setIfInBounds_toArray, List.set_cons_zero, List.set_cons_succ, i64_w, i32_w]
    rfl
  refine pure_ (i := 21) (N := some 85) (v := ?_) (a' := ?_) (upTo 92 22) rfl rfl (any_of HT_.out (by kernel_rfl)) (fun _ _ _ h => h) (Or.inl ⟨by rfl, ?_⟩) ?_ ?_
  rotate_left
  · intro w'
    go_simp
    with_reducible rfl
  rotate_left
  · simp only [Act.put, List.setIfInBounds_toArray, List.set_cons_zero, List.set_cons_succ, i64_w, i32_w]
    rfl
  refine pure_ (i := 22) (N := some 86) (v := ?_) (a' := ?_) (upTo 92 23) rfl rfl (any_of HT_.out (by kernel_rfl)) (fun _ _ _ h => h) (Or.inl ⟨by rfl, ?_⟩) ?_ ?_
  rotate_left
  · intro w'
    go_simp
    with_reducible rfl
  rotate_left
  · simp only [Act.put, List.setIfInBounds_toArray, List.set_cons_zero, List.set_cons_succ, i64_w, i32_w]
    rfl
  refine pure_ (i := 23) (N := some 87) (v := ?_) (a' := ?_) (upTo 92 24) rfl rfl (any_of HT_.out (by kernel_rfl)) (fun _ _ _ h => h) (Or.inl ⟨by rfl, ?_⟩) ?_ ?_
  rotate_left
  · intro w'
    go_simp
    with_reducible rfl
  rotate_left
  · simp only [Act.put, List.setIfInBounds_toArray, List.set_cons_zero, List.set_cons_succ, i64_w, i32_w]
    rfl
  refine pure_ (i := 24) (N := some 88) (v := ?_) (a' := ?_) (upTo 92 25) rfl rfl (any_of HT_.out (by kernel_rfl)) (fun _ _ _ h => h) (Or.inl ⟨by rfl, ?_⟩) ?_ ?_
  rotate_left
  · intro w'
    go_simp
    with_reducible rfl
  rotate_left
  · simp only [Act.put, List.setIfInBounds_toArray, List.set_cons_zero, List.set_cons_succ, i64_w, i32_w]
    rfl
  refine pure_ (i := 25) (N := some 89) (v := ?_) (a' := ?_) (upTo 92 26) rfl rfl (any_of HT_.out (by kernel_rfl)) (fun _ _ _ h => h) (Or.inl ⟨by rfl, ?_⟩) ?_ ?_
  rotate_left
  · intro w'
    go_simp
    with_reducible rfl
  rotate_left
  · simp only [Act.put, List.setIfInBounds_toArray, List.set_cons_zero, List.set_cons_succ, i64_w, i32_w]
    rfl
  refine pure_ (i := 26) (N := some 90) (v := ?_) (a' := ?_) (upTo 92 27) rfl rfl (any_of HT_.out (by kernel_rfl)) (fun _ _ _ h => h) (Or.inl ⟨by rfl, ?_⟩) ?_ ?_
  rotate_left
  · intro w'
    go_simp
    with_reducible rfl
  rotate_left
  · simp only [Act.put, List.setIfInBounds_toArray, List.set_cons_zero, List.set_cons_succ, i64_w, i32_w]
    rfl
  refine pure_ (i := 27) (N := some 91) (v := ?_) (a' := ?_) (upTo 92 28) rfl rfl (any_of HT_.out (by kernel_rfl)) (fun _ _ _ h => h) (Or.inl ⟨by rfl, ?_⟩) ?_ ?_
  rotate_left
  · intro w'
    go_simp
    with_reducible rfl
  rotate_left
  · simp only [Act.put, List.setIfInBounds_toArray, List.set_cons_zero, List.set_cons_succ, i64_w, i32_w]
    rfl
  refine pure_ (i := 28) (N := some 92) (v := ?_) (a' := ?_) (upTo 92 29) rfl rfl (any_of HT_.out (by kernel_rfl)) (fun _ _ _ h => h) (Or.inl ⟨by rfl, ?_⟩) ?_ ?_
  rotate_left
  · intro w'
    go_simp
    with_reducible rfl
  rotate_left
  · simp only [Act.put, List.setIfInBounds_toArray, List.set_cons_zero, List.set_cons_succ, i64_w, i32_w]
    rfl
  refine take_ (i := 29) (N := some 93) (v := ?_) (a' := ?_) (upTo 92 30) rfl rfl (take_ofW HT_.out HW_.out (by kernel_rfl)) (fun _ _ _ h => h) (Or.inl ⟨by rfl, ?_⟩) hHeld ?_ ?_
  rotate_left
  · rintro w' ⟨s0, s1, s2, s3⟩
    go_simp
    with_reducible rfl
  rotate_left
  · simp only [Act.put, List.setIfInBounds_toArray, List.set_cons_zero, List.set_cons_succ, i64_w, i32_w]
    rfl
  refine one_ (i := 30) (N := some 94) (upTo 92 31) rfl rfl (one_of HT_.out (by kernel_rfl)) (by decide) (fun K hK => ?_)
  refine goes_ Try.func76 (by kernel_rfl) rfl #[.int .i64 4, .int .i64 5] (by rfl) rfl rfl (by simp only [List.map_toArray, List.map_cons, List.map_nil]; rfl) ?_
  with_reducible refine (between_calls 4 5 _).mono ?_
  rintro e w19 ⟨rfl, hb0⟩
  have hb := Aside0.mk hb0
  have H19 := Aside0.mk (H18.out.step hb.out)
  refine ⟨_, rfl, ?_⟩
  refine hK.out _ _ ⟨pw_cell_below hb.out (hHeld.1), pw_cell_below hb.out (hHeld.2.1), pw_cell_below hb.out (hHeld.2.2.1), pw_cell_below hb.out (hHeld.2.2.2)⟩ (fun hHeld => ?_)
  clear hK K
  refine norm_ (a' := ?_) ?_ ?_
  rotate_left
  · show Act.put _ (some 94) _ = _
    simp only [Act.put, List.setIfInBounds_toArray, List.set_cons_zero, List.set_cons_succ, i64_w, i32_w]
    rfl
  refine pure_ (i := 31) (N := some 95) (v := ?_) (a' := ?_) (upTo 92 32) rfl rfl (any_of HT_.out (by kernel_rfl)) (fun _ _ _ h => h) (Or.inl ⟨by rfl, ?_⟩) ?_ ?_
  rotate_left
  · intro w'
    go_simp
    with_reducible rfl
  rotate_left
  · simp only [Act.put, List.setIfInBounds_toArray, List.set_cons_zero, List.set_cons_succ, i64_w, i32_w]
    rfl
  refine pure_ (i := 32) (N := some 96) (v := ?_) (a' := ?_) (upTo 92 33) rfl rfl (any_of HT_.out (by kernel_rfl)) (fun _ _ _ h => h) (Or.inl ⟨by rfl, ?_⟩) ?_ ?_
  rotate_left
  · intro w'
    go_simp
    with_reducible rfl
  rotate_left
  · simp only [Act.put, List.setIfInBounds_toArray, List.set_cons_zero, List.set_cons_succ, i64_w, i32_w]
    rfl
  refine pure_ (i := 33) (N := some 97) (v := ?_) (a' := ?_) (upTo 92 34) rfl rfl (any_of HT_.out (by kernel_rfl)) (fun _ _ _ h => h) (Or.inl ⟨by rfl, ?_⟩) ?_ ?_
  rotate_left
  · intro w'
    go_simp
    with_reducible rfl
  rotate_left
  · simp only [Act.put, List.setIfInBounds_toArray, List.set_cons_zero, List.set_cons_succ, i64_w, i32_w]
    rfl
  refine pure_ (i := 34) (N := some 98) (v := ?_) (a' := ?_) (upTo 92 35) rfl rfl (any_of HT_.out (by kernel_rfl)) (fun _ _ _ h => h) (Or.inl ⟨by rfl, ?_⟩) ?_ ?_
  rotate_left
  · intro w'
    go_simp
    with_reducible rfl
  rotate_left
  · simp only [Act.put, List.setIfInBounds_toArray, List.set_cons_zero, List.set_cons_succ, i64_w, i32_w]
    rfl
  refine pure_ (i := 35) (N := some 99) (v := ?_) (a' := ?_) (upTo 92 36) rfl rfl (any_of HT_.out (by kernel_rfl)) (fun _ _ _ h => h) (Or.inl ⟨by rfl, ?_⟩) ?_ ?_
  rotate_left
  · intro w'
    go_simp
    with_reducible rfl
  rotate_left
  · simp only [Act.put, List.setIfInBounds_toArray, List.set_cons_zero, List.set_cons_succ, i64_w, i32_w]
    rfl
  refine take_ (i := 36) (N := some 100) (v := ?_) (a' := ?_) (upTo 92 37) rfl rfl (take_ofW HT_.out HW_.out (by kernel_rfl)) (fun _ _ _ h => h) (Or.inl ⟨by rfl, ?_⟩) hHeld ?_ ?_
  rotate_left
  · rintro w' ⟨s0, s1, s2, s3⟩
    go_simp
    with_reducible rfl
  rotate_left
  · simp only [Act.put, List.setIfInBounds_toArray, List.set_cons_zero, List.set_cons_succ, i64_w, i32_w]
    rfl
  refine one_ (i := 37) (N := some 101) (upTo 92 38) rfl rfl (one_of HT_.out (by kernel_rfl)) (by decide) (fun K hK => ?_)
  refine goes_ Try.func76 (by kernel_rfl) rfl #[.int .i64 0, .int .i64 6] (by rfl) rfl rfl (by simp only [List.map_toArray, List.map_cons, List.map_nil]; rfl) ?_
  with_reducible refine (between_calls 0 6 _).mono ?_
  rintro e w20 ⟨rfl, hb0⟩
  have hb := Aside0.mk hb0
  have H20 := Aside0.mk (H19.out.step hb.out)
  refine ⟨_, rfl, ?_⟩
  refine hK.out _ _ ⟨pw_cell_below hb.out (hHeld.1), pw_cell_below hb.out (hHeld.2.1), pw_cell_below hb.out (hHeld.2.2.1), pw_cell_below hb.out (hHeld.2.2.2)⟩ (fun hHeld => ?_)
  clear hK K
  refine norm_ (a' := ?_) ?_ ?_
  rotate_left
  · show Act.put _ (some 101) _ = _
    simp only [Act.put, List.setIfInBounds_toArray, List.set_cons_zero, List.set_cons_succ, i64_w, i32_w]
    rfl
  refine pure_ (i := 38) (N := some 102) (v := ?_) (a' := ?_) (upTo 92 39) rfl rfl (any_of HT_.out (by kernel_rfl)) (fun _ _ _ h => h) (Or.inl ⟨by rfl, ?_⟩) ?_ ?_
  rotate_left
  · intro w'
    go_simp
    with_reducible rfl
  rotate_left
  · simp only [Act.put, List.setIfInBounds_toArray, List.set_cons_zero, List.set_cons_succ, i64_w, i32_w]
    rfl
  refine pure_ (i := 39) (N := some 103) (v := ?_) (a' := ?_) (upTo 92 40) rfl rfl (any_of HT_.out (by kernel_rfl)) (fun _ _ _ h => h) (Or.inl ⟨by rfl, ?_⟩) ?_ ?_
  rotate_left
  · intro w'
    go_simp
    with_reducible rfl
  rotate_left
  · simp only [Act.put, List.setIfInBounds_toArray, List.set_cons_zero, List.set_cons_succ, i64_w, i32_w]
    rfl
  refine pure_ (i := 40) (N := some 104) (v := ?_) (a' := ?_) (upTo 92 41) rfl rfl (any_of HT_.out (by kernel_rfl)) (fun _ _ _ h => h) (Or.inl ⟨by rfl, ?_⟩) ?_ ?_
  rotate_left
  · intro w'
    go_simp
    with_reducible rfl
  rotate_left
  · simp only [Act.put, List.setIfInBounds_toArray, List.set_cons_zero, List.set_cons_succ, i64_w, i32_w]
    rfl
  refine pure_ (i := 41) (N := some 105) (v := ?_) (a' := ?_) (upTo 92 42) rfl rfl (any_of HT_.out (by kernel_rfl)) (fun _ _ _ h => h) (Or.inl ⟨by rfl, ?_⟩) ?_ ?_
  rotate_left
  · intro w'
    go_simp
    with_reducible rfl
  rotate_left
  · simp only [Act.put, List.setIfInBounds_toArray, List.set_cons_zero, List.set_cons_succ, i64_w, i32_w]
    rfl
  refine pure_ (i := 42) (N := some 106) (v := ?_) (a' := ?_) (upTo 92 43) rfl rfl (any_of HT_.out (by kernel_rfl)) (fun _ _ _ h => h) (Or.inl ⟨by rfl, ?_⟩) ?_ ?_
  rotate_left
  · intro w'
    go_simp
    with_reducible rfl
  rotate_left
  · simp only [Act.put, List.setIfInBounds_toArray, List.set_cons_zero, List.set_cons_succ, i64_w, i32_w]
    rfl
  refine pure_ (i := 43) (N := some 107) (v := ?_) (a' := ?_) (upTo 92 44) rfl rfl (any_of HT_.out (by kernel_rfl)) (fun _ _ _ h => h) (Or.inl ⟨by rfl, ?_⟩) ?_ ?_
  rotate_left
  · intro w'
    go_simp
    with_reducible rfl
  rotate_left
  · simp only [Act.put, List.setIfInBounds_toArray, List.set_cons_zero, List.set_cons_succ, i64_w, i32_w]
    rfl
  refine pure_ (i := 44) (N := some 108) (v := ?_) (a' := ?_) (upTo 92 45) rfl rfl (any_of HT_.out (by kernel_rfl)) (fun _ _ _ h => h) (Or.inl ⟨by rfl, ?_⟩) ?_ ?_
  rotate_left
  · intro w'
    go_simp
    with_reducible rfl
  rotate_left
  · simp only [Act.put, List.setIfInBounds_toArray, List.set_cons_zero, List.set_cons_succ, i64_w, i32_w]
    rfl
  refine pure_ (i := 45) (N := some 109) (v := ?_) (a' := ?_) (upTo 92 46) rfl rfl (any_of HT_.out (by kernel_rfl)) (fun _ _ _ h => h) (Or.inl ⟨by rfl, ?_⟩) ?_ ?_
  rotate_left
  · intro w'
    go_simp
    with_reducible rfl
  rotate_left
  · simp only [Act.put, List.setIfInBounds_toArray, List.set_cons_zero, List.set_cons_succ, i64_w, i32_w]
    rfl
  refine one_ (i := 46) (N := some 110) (upTo 92 47) rfl rfl (one_of HT_.out (by kernel_rfl)) (by decide) (fun K hK => ?_)
  refine value_ (w1 := ?_) (v := ?_) (by rfl) rfl ?_ ?_
  rotate_left 2
  · go_simp
    constructor
    · rfl
    · rfl
  refine hK.out _ _ ⟨cell_al _ (hHeld.1), cell_al _ (hHeld.2.1), cell_al _ (hHeld.2.2.1), cell_al _ (hHeld.2.2.2)⟩ (fun hHeld => ?_)
  clear hK K
  refine norm_ (a' := ?_) ?_ ?_
  rotate_left
  · show Act.put _ (some 110) _ = _
    simp only [Act.put, List.setIfInBounds_toArray, List.set_cons_zero, List.set_cons_succ, i64_w, i32_w]
    rfl
  refine one_ (i := 47) (N := some 111) (upTo 92 48) rfl rfl (one_of HT_.out (by kernel_rfl)) (by decide) (fun K hK => ?_)
  refine goes_ Try.func38 (by kernel_rfl) rfl #[.slice A3 3 a3, .slice (some ⟨w20.heap.size, 0, none⟩) 3 3] (by rfl) rfl rfl (by simp only [List.map_toArray, List.map_cons, List.map_nil]; rfl) ?_
  with_reducible refine (ex_same (g := w20.heap.size) (A := A3) (c := a3) (a := 1) (b := 1) (d := 3) ((H20.out.alloc _).ints (A3, [1, 1, 3]) (by simp)) (Blk.new _ _ _ _ rfl)).mono ?_
  rintro e w21 ⟨rfl, hb⟩
  have H21 := Aside0.mk ((H20.out.alloc _).step hb.out)
  refine ⟨_, rfl, ?_⟩
  refine hK.out _ _ ⟨pw_cell_below hb.out (hHeld.1), pw_cell_below hb.out (hHeld.2.1), pw_cell_below hb.out (hHeld.2.2.1), pw_cell_below hb.out (hHeld.2.2.2)⟩ (fun hHeld => ?_)
  clear hK K
  refine norm_ (a' := ?_) ?_ ?_
  rotate_left
  · show Act.put _ (some 111) _ = _
    simp only [Act.put, List.setIfInBounds_toArray, List.set_cons_zero, List.set_cons_succ, i64_w, i32_w]
    rfl
  refine pure_ (i := 48) (N := some 112) (v := ?_) (a' := ?_) (upTo 92 49) rfl rfl (any_of HT_.out (by kernel_rfl)) (fun _ _ _ h => h) (Or.inl ⟨by rfl, ?_⟩) ?_ ?_
  rotate_left
  · intro w'
    go_simp
    with_reducible rfl
  rotate_left
  · simp only [Act.put, List.setIfInBounds_toArray, List.set_cons_zero, List.set_cons_succ, i64_w, i32_w]
    rfl
  refine pure_ (i := 49) (N := some 113) (v := ?_) (a' := ?_) (upTo 92 50) rfl rfl (any_of HT_.out (by kernel_rfl)) (fun _ _ _ h => h) (Or.inl ⟨by rfl, ?_⟩) ?_ ?_
  rotate_left
  · intro w'
    go_simp
    with_reducible rfl
  rotate_left
  · simp only [Act.put, List.setIfInBounds_toArray, List.set_cons_zero, List.set_cons_succ, i64_w, i32_w]
    rfl
  refine pure_ (i := 50) (N := some 114) (v := ?_) (a' := ?_) (upTo 92 51) rfl rfl (any_of HT_.out (by kernel_rfl)) (fun _ _ _ h => h) (Or.inl ⟨by rfl, ?_⟩) ?_ ?_
  rotate_left
  · intro w'
    go_simp
    with_reducible rfl
  rotate_left
  · simp only [Act.put, List.setIfInBounds_toArray, List.set_cons_zero, List.set_cons_succ, i64_w, i32_w]
    rfl
  refine pure_ (i := 51) (N := some 115) (v := ?_) (a' := ?_) (upTo 92 52) rfl rfl (any_of HT_.out (by kernel_rfl)) (fun _ _ _ h => h) (Or.inl ⟨by rfl, ?_⟩) ?_ ?_
  rotate_left
  · intro w'
    go_simp
    with_reducible rfl
  rotate_left
  · simp only [Act.put, List.setIfInBounds_toArray, List.set_cons_zero, List.set_cons_succ, i64_w, i32_w]
    rfl
  refine pure_ (i := 52) (N := some 116) (v := ?_) (a' := ?_) (upTo 92 53) rfl rfl (any_of HT_.out (by kernel_rfl)) (fun _ _ _ h => h) (Or.inl ⟨by rfl, ?_⟩) ?_ ?_
  rotate_left
  · intro w'
    go_simp
    with_reducible rfl
  rotate_left
  · simp only [Act.put, List.setIfInBounds_toArray, List.set_cons_zero, List.set_cons_succ, i64_w, i32_w]
    rfl
  refine pure_ (i := 53) (N := some 117) (v := ?_) (a' := ?_) (upTo 92 54) rfl rfl (any_of HT_.out (by kernel_rfl)) (fun _ _ _ h => h) (Or.inl ⟨by rfl, ?_⟩) ?_ ?_
  rotate_left
  · intro w'
    go_simp
    with_reducible rfl
  rotate_left
  · simp only [Act.put, List.setIfInBounds_toArray, List.set_cons_zero, List.set_cons_succ, i64_w, i32_w]
    rfl
  refine pure_ (i := 54) (N := some 118) (v := ?_) (a' := ?_) (upTo 92 55) rfl rfl (any_of HT_.out (by kernel_rfl)) (fun _ _ _ h => h) (Or.inl ⟨by rfl, ?_⟩) ?_ ?_
  rotate_left
  · intro w'
    go_simp
    with_reducible rfl
  rotate_left
  · simp only [Act.put, List.setIfInBounds_toArray, List.set_cons_zero, List.set_cons_succ, i64_w, i32_w]
    rfl
  refine pure_ (i := 55) (N := some 119) (v := ?_) (a' := ?_) (upTo 92 56) rfl rfl (any_of HT_.out (by kernel_rfl)) (fun _ _ _ h => h) (Or.inl ⟨by rfl, ?_⟩) ?_ ?_
  rotate_left
  · intro w'
    go_simp
    with_reducible rfl
  rotate_left
  · simp only [Act.put, List.setIfInBounds_toArray, List.set_cons_zero, List.set_cons_succ, i64_w, i32_w]
    rfl
  refine pure_ (i := 56) (N := some 120) (v := ?_) (a' := ?_) (upTo 92 57) rfl rfl (any_of HT_.out (by kernel_rfl)) (fun _ _ _ h => h) (Or.inl ⟨by rfl, ?_⟩) ?_ ?_
  rotate_left
  · intro w'
    go_simp
    with_reducible rfl
  rotate_left
  · simp only [Act.put, List.setIfInBounds_toArray, List.set_cons_zero, List.set_cons_succ, i64_w, i32_w]
    rfl
  refine pure_ (i := 57) (N := some 121) (v := ?_) (a' := ?_) (upTo 92 58) rfl rfl (any_of HT_.out (by kernel_rfl)) (fun _ _ _ h => h) (Or.inl ⟨by rfl, ?_⟩) ?_ ?_
  rotate_left
  · intro w'
    go_simp
    with_reducible rfl
  rotate_left
  · simp only [Act.put, List.setIfInBounds_toArray, List.set_cons_zero, List.set_cons_succ, i64_w, i32_w]
    rfl
  refine pure_ (i := 58) (N := some 122) (v := ?_) (a' := ?_) (upTo 92 59) rfl rfl (any_of HT_.out (by kernel_rfl)) (fun _ _ _ h => h) (Or.inl ⟨by rfl, ?_⟩) ?_ ?_
  rotate_left
  · intro w'
    go_simp
    with_reducible rfl
  rotate_left
  · simp only [Act.put, List.setIfInBounds_toArray, List.set_cons_zero, List.set_cons_succ, i64_w, i32_w]
    rfl
  refine pure_ (i := 59) (N := some 123) (v := ?_) (a' := ?_) (upTo 92 60) rfl rfl (any_of HT_.out (by kernel_rfl)) (fun _ _ _ h => h) (Or.inl ⟨by rfl, ?_⟩) ?_ ?_
  rotate_left
  · intro w'
    go_simp
    with_reducible rfl
  rotate_left
  · simp only [Act.put, List.setIfInBounds_toArray, List.set_cons_zero, List.set_cons_succ, i64_w, i32_w]
    rfl
  refine pure_ (i := 60) (N := some 124) (v := ?_) (a' := ?_) (upTo 92 61) rfl rfl (any_of HT_.out (by kernel_rfl)) (fun _ _ _ h => h) (Or.inl ⟨by rfl, ?_⟩) ?_ ?_
  rotate_left
  · intro w'
    go_simp
    with_reducible rfl
  rotate_left
  · simp only [Act.put, List.setIfInBounds_toArray, List.set_cons_zero, List.set_cons_succ, i64_w, i32_w]
    rfl
  refine pure_ (i := 61) (N := some 125) (v := ?_) (a' := ?_) (upTo 92 62) rfl rfl (any_of HT_.out (by kernel_rfl)) (fun _ _ _ h => h) (Or.inl ⟨by rfl, ?_⟩) ?_ ?_
  rotate_left
  · intro w'
    go_simp
    with_reducible rfl
  rotate_left
  · simp only [Act.put, List.setIfInBounds_toArray, List.set_cons_zero, List.set_cons_succ, i64_w, i32_w]
    rfl
  refine pure_ (i := 62) (N := some 126) (v := ?_) (a' := ?_) (upTo 92 63) rfl rfl (any_of HT_.out (by kernel_rfl)) (fun _ _ _ h => h) (Or.inl ⟨by rfl, ?_⟩) ?_ ?_
  rotate_left
  · intro w'
    go_simp
    with_reducible rfl
  rotate_left
  · simp only [Act.put, List.setIfInBounds_toArray, List.set_cons_zero, List.set_cons_succ, i64_w, i32_w]
    rfl
  refine pure_ (i := 63) (N := some 127) (v := ?_) (a' := ?_) (upTo 92 64) rfl rfl (any_of HT_.out (by kernel_rfl)) (fun _ _ _ h => h) (Or.inl ⟨by rfl, ?_⟩) ?_ ?_
  rotate_left
  · intro w'
    go_simp
    with_reducible rfl
  rotate_left
  · simp only [Act.put, List.setIfInBounds_toArray, List.set_cons_zero, List.set_cons_succ, i64_w, i32_w]
    rfl
  refine pure_ (i := 64) (N := some 128) (v := ?_) (a' := ?_) (upTo 92 65) rfl rfl (any_of HT_.out (by kernel_rfl)) (fun _ _ _ h => h) (Or.inl ⟨by rfl, ?_⟩) ?_ ?_
  rotate_left
  · intro w'
    go_simp
    with_reducible rfl
  rotate_left
  · simp only [Act.put, List.setIfInBounds_toArray, List.set_cons_zero, List.set_cons_succ, i64_w, i32_w]
    rfl
  refine pure_ (i := 65) (N := some 129) (v := ?_) (a' := ?_) (upTo 92 66) rfl rfl (any_of HT_.out (by kernel_rfl)) (fun _ _ _ h => h) (Or.inl ⟨by rfl, ?_⟩) ?_ ?_
  rotate_left
  · intro w'
    go_simp
    with_reducible rfl
  rotate_left
  · simp only [Act.put, List.setIfInBounds_toArray, List.set_cons_zero, List.set_cons_succ, i64_w, i32_w]
    rfl
  refine pure_ (i := 66) (N := some 130) (v := ?_) (a' := ?_) (upTo 92 67) rfl rfl (any_of HT_.out (by kernel_rfl)) (fun _ _ _ h => h) (Or.inl ⟨by rfl, ?_⟩) ?_ ?_
  rotate_left
  · intro w'
    go_simp
    with_reducible rfl
  rotate_left
  · simp only [Act.put, List.setIfInBounds_toArray, List.set_cons_zero, List.set_cons_succ, i64_w, i32_w]
    rfl
  refine pure_ (i := 67) (N := some 131) (v := ?_) (a' := ?_) (upTo 92 68) rfl rfl (any_of HT_.out (by kernel_rfl)) (fun _ _ _ h => h) (Or.inl ⟨by rfl, ?_⟩) ?_ ?_
  rotate_left
  · intro w'
    go_simp
    with_reducible rfl
  rotate_left
  · simp only [Act.put, List.setIfInBounds_toArray, List.set_cons_zero, List.set_cons_succ, i64_w, i32_w]
    rfl
  refine pure_ (i := 68) (N := some 132) (v := ?_) (a' := ?_) (upTo 92 69) rfl rfl (any_of HT_.out (by kernel_rfl)) (fun _ _ _ h => h) (Or.inl ⟨by rfl, ?_⟩) ?_ ?_
  rotate_left
  · intro w'
    go_simp
    with_reducible rfl
  rotate_left
  · simp only [Act.put, List.setIfInBounds_toArray, List.set_cons_zero, List.set_cons_succ, i64_w, i32_w]
    rfl
  refine pure_ (i := 69) (N := some 133) (v := ?_) (a' := ?_) (upTo 92 70) rfl rfl (any_of HT_.out (by kernel_rfl)) (fun _ _ _ h => h) (Or.inl ⟨by rfl, ?_⟩) ?_ ?_
  rotate_left
  · intro w'
    go_simp
    with_reducible rfl
  rotate_left
  · simp only [Act.put, List.setIfInBounds_toArray, List.set_cons_zero, List.set_cons_succ, i64_w, i32_w]
    rfl
  refine pure_ (i := 70) (N := some 134) (v := ?_) (a' := ?_) (upTo 92 71) rfl rfl (any_of HT_.out (by kernel_rfl)) (fun _ _ _ h => h) (Or.inl ⟨by rfl, ?_⟩) ?_ ?_
  rotate_left
  · intro w'
    go_simp
    with_reducible rfl
  rotate_left
  · simp only [Act.put, List.setIfInBounds_toArray, List.set_cons_zero, List.set_cons_succ, i64_w, i32_w]
    rfl
  refine one_ (i := 71) (N := some 135) (upTo 92 72) rfl rfl (one_of HT_.out (by kernel_rfl)) (by decide) (fun K hK => ?_)
  refine value_ (w1 := ?_) (v := ?_) (by rfl) rfl ?_ ?_
  rotate_left 2
  · go_simp
    constructor
    · rfl
    · rfl
  refine hK.out _ _ ⟨cell_al _ (hHeld.1), cell_al _ (hHeld.2.1), cell_al _ (hHeld.2.2.1), cell_al _ (hHeld.2.2.2)⟩ (fun hHeld => ?_)
  clear hK K
  refine norm_ (a' := ?_) ?_ ?_
  rotate_left
  · show Act.put _ (some 135) _ = _
    simp only [Act.put, List.setIfInBounds_toArray, List.set_cons_zero, List.set_cons_succ, i64_w, i32_w]
    rfl
  refine one_ (i := 72) (N := some 136) (upTo 92 73) rfl rfl (one_of HT_.out (by kernel_rfl)) (by decide) (fun K hK => ?_)
  refine goes_ Try.func38 (by kernel_rfl) rfl #[.slice A4 3 a4, .slice (some ⟨w21.heap.size, 0, none⟩) 3 3] (by rfl) rfl rfl (by simp only [List.map_toArray, List.map_cons, List.map_nil]; rfl) ?_
  with_reducible refine (ex_same (g := w21.heap.size) (A := A4) (c := a4) (a := 1) (b := 1) (d := 1) ((H21.out.alloc _).ints (A4, [1, 1, 1]) (by simp)) (Blk.new _ _ _ _ rfl)).mono ?_
  rintro e w22 ⟨rfl, hb⟩
  have H22 := Aside0.mk ((H21.out.alloc _).step hb.out)
  refine ⟨_, rfl, ?_⟩
  refine hK.out _ _ ⟨pw_cell_below hb.out (hHeld.1), pw_cell_below hb.out (hHeld.2.1), pw_cell_below hb.out (hHeld.2.2.1), pw_cell_below hb.out (hHeld.2.2.2)⟩ (fun hHeld => ?_)
  clear hK K
  refine norm_ (a' := ?_) ?_ ?_
  rotate_left
  · show Act.put _ (some 136) _ = _
    simp only [Act.put, List.setIfInBounds_toArray, List.set_cons_zero, List.set_cons_succ, i64_w, i32_w]
    rfl
  refine pure_ (i := 73) (N := some 137) (v := ?_) (a' := ?_) (upTo 92 74) rfl rfl (any_of HT_.out (by kernel_rfl)) (fun _ _ _ h => h) (Or.inl ⟨by rfl, ?_⟩) ?_ ?_
  rotate_left
  · intro w'
    go_simp
    with_reducible rfl
  rotate_left
  · simp only [Act.put, List.setIfInBounds_toArray, List.set_cons_zero, List.set_cons_succ, i64_w, i32_w]
    rfl
  refine pure_ (i := 74) (N := some 138) (v := ?_) (a' := ?_) (upTo 92 75) rfl rfl (any_of HT_.out (by kernel_rfl)) (fun _ _ _ h => h) (Or.inl ⟨by rfl, ?_⟩) ?_ ?_
  rotate_left
  · intro w'
    go_simp
    with_reducible rfl
  rotate_left
  · simp only [Act.put, List.setIfInBounds_toArray, List.set_cons_zero, List.set_cons_succ, i64_w, i32_w]
    rfl
  refine pure_ (i := 75) (N := some 139) (v := ?_) (a' := ?_) (upTo 92 76) rfl rfl (any_of HT_.out (by kernel_rfl)) (fun _ _ _ h => h) (Or.inl ⟨by rfl, ?_⟩) ?_ ?_
  rotate_left
  · intro w'
    go_simp
    with_reducible rfl
  rotate_left
  · simp only [Act.put, List.setIfInBounds_toArray, List.set_cons_zero, List.set_cons_succ, i64_w, i32_w]
    rfl
  refine pure_ (i := 76) (N := some 140) (v := ?_) (a' := ?_) (upTo 92 77) rfl rfl (any_of HT_.out (by kernel_rfl)) (fun _ _ _ h => h) (Or.inl ⟨by rfl, ?_⟩) ?_ ?_
  rotate_left
  · intro w'
    go_simp
    with_reducible rfl
  rotate_left
  · simp only [Act.put, List.setIfInBounds_toArray, List.set_cons_zero, List.set_cons_succ, i64_w, i32_w]
    rfl
  refine pure_ (i := 77) (N := some 141) (v := ?_) (a' := ?_) (upTo 92 78) rfl rfl (any_of HT_.out (by kernel_rfl)) (fun _ _ _ h => h) (Or.inl ⟨by rfl, ?_⟩) ?_ ?_
  rotate_left
  · intro w'
    go_simp
    with_reducible rfl
  rotate_left
  · simp only [Act.put, List.setIfInBounds_toArray, List.set_cons_zero, List.set_cons_succ, i64_w, i32_w]
    rfl
  refine pure_ (i := 78) (N := some 142) (v := ?_) (a' := ?_) (upTo 92 79) rfl rfl (any_of HT_.out (by kernel_rfl)) (fun _ _ _ h => h) (Or.inl ⟨by rfl, ?_⟩) ?_ ?_
  rotate_left
  · intro w'
    go_simp
    with_reducible rfl
  rotate_left
  · simp only [Act.put, List.setIfInBounds_toArray, List.set_cons_zero, List.set_cons_succ, i64_w, i32_w]
    rfl
  refine pure_ (i := 79) (N := some 143) (v := ?_) (a' := ?_) (upTo 92 80) rfl rfl (any_of HT_.out (by kernel_rfl)) (fun _ _ _ h => h) (Or.inl ⟨by rfl, ?_⟩) ?_ ?_
  rotate_left
  · intro w'
    go_simp
    with_reducible rfl
  rotate_left
  · simp only [Act.put, List.setIfInBounds_toArray, List.set_cons_zero, List.set_cons_succ, i64_w, i32_w]
    rfl
  refine pure_ (i := 80) (N := some 144) (v := ?_) (a' := ?_) (upTo 92 81) rfl rfl (any_of HT_.out (by kernel_rfl)) (fun _ _ _ h => h) (Or.inl ⟨by rfl, ?_⟩) ?_ ?_
  rotate_left
  · intro w'
    go_simp
    with_reducible rfl
  rotate_left
  · simp only [Act.put, List.setIfInBounds_toArray, List.set_cons_zero, List.set_cons_succ, i64_w, i32_w]
    rfl
  refine pure_ (i := 81) (N := some 145) (v := ?_) (a' := ?_) (upTo 92 82) rfl rfl (any_of HT_.out (by kernel_rfl)) (fun _ _ _ h => h) (Or.inl ⟨by rfl, ?_⟩) ?_ ?_
  rotate_left
  · intro w'
    go_simp
    with_reducible rfl
  rotate_left
  · simp only [Act.put, List.setIfInBounds_toArray, List.set_cons_zero, List.set_cons_succ, i64_w, i32_w]
    rfl
  refine pure_ (i := 82) (N := some 146) (v := ?_) (a' := ?_) (upTo 92 83) rfl rfl (any_of HT_.out (by kernel_rfl)) (fun _ _ _ h => h) (Or.inl ⟨by rfl, ?_⟩) ?_ ?_
  rotate_left
  · intro w'
    go_simp
    with_reducible rfl
  rotate_left
  · simp only [Act.put, List.setIfInBounds_toArray, List.set_cons_zero, List.set_cons_succ, i64_w, i32_w]
    rfl
  refine pure_ (i := 83) (N := some 147) (v := ?_) (a' := ?_) (upTo 92 84) rfl rfl (any_of HT_.out (by kernel_rfl)) (fun _ _ _ h => h) (Or.inl ⟨by rfl, ?_⟩) ?_ ?_
  rotate_left
  · intro w'
    go_simp
    with_reducible rfl
  rotate_left
  · simp only [Act.put, List.setIfInBounds_toArray, List.set_cons_zero, List.set_cons_succ, i64_w, i32_w]
    rfl
  refine pure_ (i := 84) (N := some 148) (v := ?_) (a' := ?_) (upTo 92 85) rfl rfl (any_of HT_.out (by kernel_rfl)) (fun _ _ _ h => h) (Or.inl ⟨by rfl, ?_⟩) ?_ ?_
  rotate_left
  · intro w'
    go_simp
    with_reducible rfl
  rotate_left
  · simp only [Act.put, List.setIfInBounds_toArray, List.set_cons_zero, List.set_cons_succ, i64_w, i32_w]
    rfl
  refine pure_ (i := 85) (N := some 149) (v := ?_) (a' := ?_) (upTo 92 86) rfl rfl (any_of HT_.out (by kernel_rfl)) (fun _ _ _ h => h) (Or.inl ⟨by rfl, ?_⟩) ?_ ?_
  rotate_left
  · intro w'
    go_simp
    with_reducible rfl
  rotate_left
  · simp only [Act.put, List.setIfInBounds_toArray, List.set_cons_zero, List.set_cons_succ, i64_w, i32_w]
    rfl
  refine pure_ (i := 86) (N := some 150) (v := ?_) (a' := ?_) (upTo 92 87) rfl rfl (any_of HT_.out (by kernel_rfl)) (fun _ _ _ h => h) (Or.inl ⟨by rfl, ?_⟩) ?_ ?_
  rotate_left
  · intro w'
    go_simp
    with_reducible rfl
  rotate_left
  · simp only [Act.put, List.setIfInBounds_toArray, List.set_cons_zero, List.set_cons_succ, i64_w, i32_w]
    rfl
  refine pure_ (i := 87) (N := some 151) (v := ?_) (a' := ?_) (upTo 92 88) rfl rfl (any_of HT_.out (by kernel_rfl)) (fun _ _ _ h => h) (Or.inl ⟨by rfl, ?_⟩) ?_ ?_
  rotate_left
  · intro w'
    go_simp
    with_reducible rfl
  rotate_left
  · simp only [Act.put, List.setIfInBounds_toArray, List.set_cons_zero, List.set_cons_succ, i64_w, i32_w]
    rfl
  refine one_ (i := 88) (N := some 152) (upTo 92 89) rfl rfl (one_of HT_.out (by kernel_rfl)) (by decide) (fun K hK => ?_)
  refine value_ (w1 := ?_) (v := ?_) (by rfl) rfl ?_ ?_
  rotate_left 2
  · go_simp
    constructor
    · rfl
    · rfl
  refine hK.out _ _ ⟨cell_al _ (hHeld.1), cell_al _ (hHeld.2.1), cell_al _ (hHeld.2.2.1), cell_al _ (hHeld.2.2.2)⟩ (fun hHeld => ?_)
  clear hK K
  refine norm_ (a' := ?_) ?_ ?_
  rotate_left
  · show Act.put _ (some 152) _ = _
    simp only [Act.put, List.setIfInBounds_toArray, List.set_cons_zero, List.set_cons_succ, i64_w, i32_w]
    rfl
  refine one_ (i := 89) (N := some 153) (upTo 92 90) rfl rfl (one_of HT_.out (by kernel_rfl)) (by decide) (fun K hK => ?_)
  refine goes_ Try.func38 (by kernel_rfl) rfl #[.slice A5 1 a5, .slice (some ⟨w22.heap.size, 0, none⟩) 1 1] (by rfl) rfl rfl (by simp only [List.map_toArray, List.map_cons, List.map_nil]; rfl) ?_
  with_reducible refine (ex_same1 (g := w22.heap.size) (A := A5) (c := a5) (a := 0) ((H22.out.alloc _).ints (A5, [0]) (by simp)) (Blk.new _ _ _ _ rfl)).mono ?_
  rintro e w23 ⟨rfl, hb⟩
  have H23 := Aside0.mk ((H22.out.alloc _).step hb.out)
  refine ⟨_, rfl, ?_⟩
  refine hK.out _ _ ⟨pw_cell_below hb.out (hHeld.1), pw_cell_below hb.out (hHeld.2.1), pw_cell_below hb.out (hHeld.2.2.1), pw_cell_below hb.out (hHeld.2.2.2)⟩ (fun hHeld => ?_)
  clear hK K
  refine norm_ (a' := ?_) ?_ ?_
  rotate_left
  · show Act.put _ (some 153) _ = _
    simp only [Act.put, List.setIfInBounds_toArray, List.set_cons_zero, List.set_cons_succ, i64_w, i32_w]
    rfl
  refine pure_ (i := 90) (N := some 154) (v := ?_) (a' := ?_) (upTo 92 91) rfl rfl (any_of HT_.out (by kernel_rfl)) (fun _ _ _ h => h) (Or.inl ⟨by rfl, ?_⟩) ?_ ?_
  rotate_left
  · intro w'
    go_simp
    with_reducible rfl
  rotate_left
  · simp only [Act.put, List.setIfInBounds_toArray, List.set_cons_zero, List.set_cons_succ, i64_w, i32_w]
    rfl
  refine pure_ (i := 91) (N := some 0) (v := ?_) (a' := ?_) (upTo 92 92) rfl rfl (any_of HT_.out (by kernel_rfl)) (fun _ _ _ h => h) (Or.inl ⟨by rfl, ?_⟩) ?_ ?_
  rotate_left
  · intro w'
    go_simp
    with_reducible rfl
  rotate_left
  · simp only [Act.put, List.setIfInBounds_toArray, List.set_cons_zero, List.set_cons_succ, i64_w, i32_w]
    rfl
  refine done_ (done_of HT_.out (by kernel_rfl)) ?_
  clear hHeld
  go_wp2
  go_ret
  exact ⟨rfl, H23.out.bel⟩
end Go.Proofs.Ytdgkhoflajdidaa
/- What a law keeps. -/
namespace Go.Proofs.Ytdgkhoflajdidaa
open Go.RowKit Go.Proofs.YtdgkhoflajdidaaW.PrintWords Go.Proofs.YtdgkhoflajdidaaW.PrintMore Go.Proofs.YtdgkhoflajdidaaW.PrintLast Go.Proofs.Ytdgkhoflajdidaa.Print
/-- What a law keeps: the box of the coppers, and what was returned. -/
structure LwSt (w : World) (B : Array Value) (P : World → Prop) (W : World) : Prop where
  bel : Below w.heap.size w W
  box : Blk W w.heap.size B 28
  rows : P W
theorem LwSt.step {w : World} {B : Array Value} {P : World → Prop} {W V : World} (h : LwSt w B P W) (hP : ∀ W V, P W → Below W.heap.size W V → P V) (hb : Below W.heap.size W V) : LwSt w B P V :=
  ⟨bel2 h.bel hb, h.box.below hb, hP _ _ h.rows hb⟩
end Go.Proofs.Ytdgkhoflajdidaa
/- CopperKeeps: the walk. -/
namespace Go.Proofs.Ytdgkhoflajdidaa
open Go.RowKit Go.Proofs.YtdgkhoflajdidaaW.PrintWords Go.Proofs.YtdgkhoflajdidaaW.PrintMore Go.Proofs.YtdgkhoflajdidaaW.PrintLast Go.Proofs.Ytdgkhoflajdidaa.Print
set_option linter.unusedVariables false
set_option linter.unusedSimpArgs false
set_option maxRecDepth 100000
set_option maxHeartbeats 4000000
theorem keeps_awake (x : S38) (cs : List Value) (w : World) (hx : k38.K w x cs) (h : thinB x = false) : Calls Try.prog 16 #[.agg cs.toArray] w fun e w' => e = .returned (.bool true) ∧ Below w.heap.size w w' := by
  have hthin := fun W (hW : Below w.heap.size w W) => thin_calls x cs W (k38.K_below hW hx)
  obtain ⟨A5, c5, A6, c6, A9, c9, A10, c10, rfl, _⟩ := k38_open hx
  clear hx
  have hu := Try.underlying28
  have ZB := Aside0.mk (below_alloc (Below.refl w.heap.size w) (.cells #[.int .i64 x.f0, .int .i64 x.f1, .int .i64 x.f2, .int .i64 x.f3, .int .i64 x.f4, .slice A5 x.f5.length c5, .slice A6 x.f6.length c6, .int .i64 x.f7.f0, .int .i64 x.f7.f1, .slice A9 x.f8.length c9, .slice A10 x.f9.length c10] 28))
  have hth := hthin _ ZB.out
  rw [h] at hth
  clear hthin h
  go_enter Try.func16, Try.ntmps16
  go_wp2_with fail
  refine hth.mono ?_
  rintro e w1 ⟨rfl, hb⟩
  have HB := Aside0.mk (bel2 ZB.out hb)
  clear hb hth
  go_wp2_with fail
  refine (awake_calls _).mono ?_
  rintro e w2 ⟨rfl, hb⟩
  have HB2 := Aside0.mk (bel2 HB.out hb)
  clear hb
  go_wp2
  go_ret
  exact ⟨rfl, HB2.out⟩
theorem keeps_main (x : S38) (cs : List Value) (w : World) (hx : k38.K w x cs) (h1 : thinB x = true) : Calls Try.prog 16 #[.agg cs.toArray] w fun e w' => e = .returned (.bool true) ∧ Below w.heap.size w w' := by
  have hthin := fun W (hW : Below w.heap.size w W) => thin_calls x cs W (k38.K_below hW hx)
  rw [h1] at hthin
  have HCP := Aside0.mk (fun W (hW : Below w.heap.size w W) => copper_calls x cs W (k38.K_below hW hx) h1)
  have HSU := Aside0.mk (fun W (hW : Below w.heap.size w W) => lsure_calls x cs W (k38.K_below hW hx))
  have hkp := fun W ds (hd : k38.K W x ds) => keepsF_calls x ds W hd
  have hlk := fun W ds (hd : k38.K W x ds) => lacksF_calls x ds W hd
  have HX := Aside0.mk hx
  obtain ⟨A5, c5, A6, c6, A9, c9, A10, c10, rfl, _⟩ := k38_open hx
  clear hx h1
  have hu := Try.underlying28
  have ZB := Aside0.mk (And.intro (below_alloc (Below.refl w.heap.size w) (.cells #[.int .i64 x.f0, .int .i64 x.f1, .int .i64 x.f2, .int .i64 x.f3, .int .i64 x.f4, .slice A5 x.f5.length c5, .slice A6 x.f6.length c6, .int .i64 x.f7.f0, .int .i64 x.f7.f1, .slice A9 x.f8.length c9, .slice A10 x.f9.length c10] 28)) (Blk.new w #[.int .i64 x.f0, .int .i64 x.f1, .int .i64 x.f2, .int .i64 x.f3, .int .i64 x.f4, .slice A5 x.f5.length c5, .slice A6 x.f6.length c6, .int .i64 x.f7.f0, .int .i64 x.f7.f1, .slice A9 x.f8.length c9, .slice A10 x.f9.length c10] 28 _ rfl))
  have hth := hthin _ ZB.out.1
  clear hthin
  obtain ⟨va, hva⟩ : ∃ l, (keepsF x).1 = l := ⟨_, rfl⟩
  obtain ⟨ve, hve⟩ : ∃ l, (keepsF x).2 = l := ⟨_, rfl⟩
  obtain ⟨ln, hln⟩ : ∃ l, (lacksF x).1 = l := ⟨_, rfl⟩
  obtain ⟨le, hle⟩ : ∃ l, (lacksF x).2 = l := ⟨_, rfl⟩
  unfold KeepPost at hkp
  rw [hva, hve] at hkp
  rw [hln, hle] at hlk
  have HKP := Aside0.mk hkp
  have HLK := Aside0.mk hlk
  have HEQ := Lib.hid (And.intro hva (And.intro hve (And.intro hln hle)))
  clear hkp hlk hva hve hln hle
  go_enter Try.func16, Try.ntmps16
  go_wp2_with fail
  refine hth.mono ?_
  rintro e w1 ⟨rfl, hb⟩
  have H1 := Aside0.mk (And.intro (bel2 ZB.out.1 hb) (ZB.out.2.below hb))
  clear hb hth ZB
  have k0 := H1.out.2.cell 0 _ rfl
  have k1 := H1.out.2.cell 1 _ rfl
  have k2 := H1.out.2.cell 2 _ rfl
  have k3 := H1.out.2.cell 3 _ rfl
  have k4 := H1.out.2.cell 4 _ rfl
  have k5 := H1.out.2.cell 5 _ rfl
  have k6 := H1.out.2.cell 6 _ rfl
  have k7 := H1.out.2.cell 7 _ rfl
  have k8 := H1.out.2.cell 8 _ rfl
  have k9 := H1.out.2.cell 9 _ rfl
  have k10 := H1.out.2.cell 10 _ rfl
  go_wp2_with fail
  refine (HCP.out _ H1.out.1).mono ?_
  rintro e w2 ⟨ds, rfl, hb, hkd⟩
  have H2 := Aside0.mk (And.intro (bel2 H1.out.1 hb) (H1.out.2.below hb))
  clear hb H1 k0 k1 k2 k3 k4 k5 k6 k7 k8 k9 k10
  go_wp2_with fail
  refine (HKP.out _ ds hkd).mono ?_
  rintro e w3 ⟨Av, av, rfl, hcv, hb⟩
  have HP := Aside0.mk (fun W V (h : Kd.C (Kd.int .i64) W Av va.length va) (hb : Below W.heap.size W V) => Kd.C_below h hb)
  have H3 := Aside0.mk (LwSt.mk (w := w) (B := #[.int .i64 x.f0, .int .i64 x.f1, .int .i64 x.f2, .int .i64 x.f3, .int .i64 x.f4, .slice A5 x.f5.length c5, .slice A6 x.f6.length c6, .int .i64 x.f7.f0, .int .i64 x.f7.f1, .slice A9 x.f8.length c9, .slice A10 x.f9.length c10]) (P := fun W => Kd.C (Kd.int .i64) W Av va.length va) (bel2 H2.out.1 hb) (H2.out.2.below hb) hcv)
  clear hb H2 hcv hkd HKP
  have k0 := H3.out.box.cell 0 _ rfl
  have k1 := H3.out.box.cell 1 _ rfl
  have k2 := H3.out.box.cell 2 _ rfl
  have k3 := H3.out.box.cell 3 _ rfl
  have k4 := H3.out.box.cell 4 _ rfl
  have k5 := H3.out.box.cell 5 _ rfl
  have k6 := H3.out.box.cell 6 _ rfl
  have k7 := H3.out.box.cell 7 _ rfl
  have k8 := H3.out.box.cell 8 _ rfl
  have k9 := H3.out.box.cell 9 _ rfl
  have k10 := H3.out.box.cell 10 _ rfl
  go_wp2_with fail
  refine (HCP.out _ H3.out.bel).mono ?_
  rintro e w4 ⟨es, rfl, hb, hkd⟩
  have H4 := Aside0.mk (H3.out.step HP.out hb)
  clear hb H3 k0 k1 k2 k3 k4 k5 k6 k7 k8 k9 k10
  go_wp2_with fail
  refine (HLK.out _ es hkd).mono ?_
  rintro e w5 ⟨rfl, hb⟩
  have H5 := Aside0.mk (H4.out.step HP.out hb)
  clear hb H4 hkd
  have k0 := H5.out.box.cell 0 _ rfl
  have k1 := H5.out.box.cell 1 _ rfl
  have k2 := H5.out.box.cell 2 _ rfl
  have k3 := H5.out.box.cell 3 _ rfl
  have k4 := H5.out.box.cell 4 _ rfl
  have k5 := H5.out.box.cell 5 _ rfl
  have k6 := H5.out.box.cell 6 _ rfl
  have k7 := H5.out.box.cell 7 _ rfl
  have k8 := H5.out.box.cell 8 _ rfl
  have k9 := H5.out.box.cell 9 _ rfl
  have k10 := H5.out.box.cell 10 _ rfl
  go_wp2_with fail
  refine (HSU.out _ H5.out.bel).mono ?_
  rintro e w6 hls
  unfold LsPost at hls
  clear k0 k1 k2 k3 k4 k5 k6 k7 k8 k9 k10
  have hkf : keepsF x = if askE x true = 0 then (keepsL x (x.f0 + 1).toNat, 0) else ([], askE x true) := rfl
  have hlf : lacksF x = if (keepsF x).2 = 0 then (if fIdx notAlways (keepsF x).1 < 0 then (0, 7) else (fIdx notAlways (keepsF x).1, 0)) else (0, (keepsF x).2) := rfl
  by_cases hE : askE x true = 0
  · rw [if_pos hE] at hls hkf
    obtain ⟨At, ct, rfl, hb, hC⟩ := hls
    obtain rfl : ve = 0 := by rw [← HEQ.out.2.1, hkf]
    have e1 : va = keepsL x (x.f0 + 1).toNat := by rw [← HEQ.out.1, hkf]
    have HV := Aside0.mk ((valid_iff x).1 (askE_nonneg hE).1)
    have hne : truthL x ≠ [] := fun h => by
      have := (askE_nonneg hE).2.2
      rw [h] at this
      cases this
    rw [HEQ.out.2.1, if_pos rfl, HEQ.out.1] at hlf
    have hkr := keepsR_eq HV.out hne
    rw [← e1] at hkr
    have hn1 : va.length = (x.f0 + 1).toNat := by rw [e1]; simp [keepsL]
    have HG := Aside0.mk (show ∀ k (hk : k < va.length), verd (cnt (fun t => keptAt x (toSc t) x.f5 x.f6 k) (truthsX x) : Nat) (truthsX x).length = va[k] from fun k hk => by
      have h0 := HV.out.last0
      subst e1
      rw [kept_verd HV.out hne (by omega)]
      simp [keepsL])
    have hl0 := HV.out.last0
    have hl1 := HV.out.last1
    have hz1 : x.f0 + 1 = (va.length : Int) := by omega
    have HNN := Lib.hid hn1
    have H6 := Aside0.mk (And.intro (H5.out.step HP.out hb) (Below.refl w6.heap.size w6))
    have HTA := Aside0.mk (fun V (hb : Below w.heap.size w V) (h6 : Below w6.heap.size w6 V) => (⟨k38.K_below hb HX.out, Kd.C_below hC h6, (k38_rows (k38.K_below hb HX.out)).1, (k38_rows (k38.K_below hb HX.out)).2, fun t ht => ⟨HV.out.play0 ((trs_in HV.out ht).1.ok HV.out), by have := (trs_in HV.out ht).2; have := HV.out.lossN; omega⟩, by
      have := trs_len (x := x) (manyX x).toNat
      have := manyX_ok HV.out
      unfold truthsX
      omega, hl0, hl1⟩ : TrArgs x _ At A5 A6 (truthsX x) x.f5 x.f6 V))
    clear hb hC hkf e1 hn1 hE hne H5
    generalize truthsX x = TL at *
    have HCC := Aside0.mk (show ∀ B5 B6 B9 B10 d5 d6 d9 d10, ([.int .i64 x.f0, .int .i64 x.f1, .int .i64 x.f2, .int .i64 x.f3, .int .i64 x.f4, .slice A5 x.f5.length c5, .slice A6 x.f6.length c6, .int .i64 x.f7.f0, .int .i64 x.f7.f1, .slice A9 x.f8.length c9, .slice A10 x.f9.length c10] : List Value) = [.int .i64 x.f0, .int .i64 x.f1, .int .i64 x.f2, .int .i64 x.f3, .int .i64 x.f4, .slice B5 x.f5.length d5, .slice B6 x.f6.length d6, .int .i64 x.f7.f0, .int .i64 x.f7.f1, .slice B9 x.f8.length d9, .slice B10 x.f9.length d10] → B5 = A5 ∧ B6 = A6 from fun _ _ _ _ _ _ _ _ he => by
      simp only [List.cons.injEq, Value.slice.injEq, true_and, and_true] at he
      obtain ⟨⟨rfl, rfl⟩, ⟨rfl, rfl⟩, _⟩ := he
      exact ⟨rfl, rfl⟩)
    have k0 := H6.out.1.box.cell 0 _ rfl
    go_wp2
    clear hz1 k0
    go_loopw [9] (fun s9 wr => ∃ k : Nat, k ≤ va.length ∧ s9 = .int .i64 k ∧ Aside0 (LwSt w #[.int .i64 x.f0, .int .i64 x.f1, .int .i64 x.f2, .int .i64 x.f3, .int .i64 x.f4, .slice A5 x.f5.length c5, .slice A6 x.f6.length c6, .int .i64 x.f7.f0, .int .i64 x.f7.f1, .slice A9 x.f8.length c9, .slice A10 x.f9.length c10] (fun W => Kd.C (Kd.int .i64) W Av va.length va) wr ∧ Below w6.heap.size w6 wr)) (fun s9 _ => va.length - (intOf s9).toNat)
    case atStart => exact ⟨0, Nat.zero_le _, rfl, H6⟩
    case round =>
      obtain ⟨k, hk, rfl, HW⟩ := hrel
      have k0 := HW.out.1.box.cell 0 _ rfl
      have k1 := HW.out.1.box.cell 1 _ rfl
      have k2 := HW.out.1.box.cell 2 _ rfl
      have k3 := HW.out.1.box.cell 3 _ rfl
      have k4 := HW.out.1.box.cell 4 _ rfl
      have k5 := HW.out.1.box.cell 5 _ rfl
      have k6 := HW.out.1.box.cell 6 _ rfl
      have k7 := HW.out.1.box.cell 7 _ rfl
      have k8 := HW.out.1.box.cell 8 _ rfl
      have k9 := HW.out.1.box.cell 9 _ rfl
      have k10 := HW.out.1.box.cell 10 _ rfl
      by_cases hlt : k < va.length
      · have hkz : (k : Int) < (va.length : Int) := by omega
        have hkf : (k : Int) ≤ x.f0 := by have := HNN.out; omega
        have hrk := fun V (hb : Below wr.heap.size wr V) => rKeeps_calls (c := ct) k (HTA.out V (bel2 HW.out.1.bel hb) (bel2 HW.out.2 hb)) (fun A5 A6 A9 A10 c5 c6 c9 c10 e => ⟨(HCC.out _ _ _ _ _ _ _ _ e).1, (HCC.out _ _ _ _ _ _ _ _ e).2, rfl, rfl⟩) hkf
        rw [HG.out k hlt] at hrk
        have HRK := Aside0.mk hrk
        obtain ⟨qa, hqa, qv⟩ := row_at_int HW.out.1.rows k hlt
        subst hqa
        clear hrk
        generalize va[k] = vk at *
        go_wp2
        refine start_ (n := 9) (S := fun w' => w'.cell? ⟨w.heap.size, 0, none⟩ = some (.int .i64 x.f0) ∧ w'.cell? ⟨w.heap.size, 1, none⟩ = some (.int .i64 x.f1) ∧ w'.cell? ⟨w.heap.size, 2, none⟩ = some (.int .i64 x.f2) ∧ w'.cell? ⟨w.heap.size, 3, none⟩ = some (.int .i64 x.f3) ∧ w'.cell? ⟨w.heap.size, 4, none⟩ = some (.int .i64 x.f4) ∧ w'.cell? ⟨w.heap.size, 5, none⟩ = some (.slice A5 x.f5.length c5) ∧ w'.cell? ⟨w.heap.size, 6, none⟩ = some (.slice A6 x.f6.length c6) ∧ w'.cell? ⟨w.heap.size, 7, none⟩ = some (.int .i64 x.f7.f0) ∧ w'.cell? ⟨w.heap.size, 8, none⟩ = some (.int .i64 x.f7.f1) ∧ w'.cell? ⟨w.heap.size, 9, none⟩ = some (.slice A9 x.f8.length c9) ∧ w'.cell? ⟨w.heap.size, 10, none⟩ = some (.slice A10 x.f9.length c10) ∧ w'.cell? (qa.add k) = some (.int .i64 vk)) (ds := []) #[false, false, false, false, false, false, false, false, false] (by kernel_rfl) rfl rfl ⟨k0, k1, k2, k3, k4, k5, k6, k7, k8, k9, k10, qv⟩ (fun hHeld => ?_)
        refine pure_ (i := 0) (N := some 70) (v := ?_) (a' := ?_) #[true, false, false, false, false, false, false, false, false] rfl rfl (by kernel_rfl) (fun _ _ _ h => h) (Or.inl ⟨by rfl, ?_⟩) ?_ ?_
        rotate_left
        · intro w'
          go_simp
          with_reducible rfl
        rotate_left
        · simp only [Act.put, List.setIfInBounds_toArray, List.set_cons_zero, List.set_cons_succ, i64_w, i32_w]
          rfl
        refine pure_ (i := 1) (N := some 71) (v := ?_) (a' := ?_) #[true, true, false, false, false, false, false, false, false] rfl rfl (by kernel_rfl) (fun _ _ _ h => h) (Or.inl ⟨by rfl, ?_⟩) ?_ ?_
        rotate_left
        · intro w'
          go_simp
          with_reducible rfl
        rotate_left
        · simp only [Act.put, List.setIfInBounds_toArray, List.set_cons_zero, List.set_cons_succ, i64_w, i32_w]
          rfl
        refine pure_ (i := 2) (N := some 72) (v := ?_) (a' := ?_) #[true, true, true, false, false, false, false, false, false] rfl rfl (by kernel_rfl) (fun _ _ _ h => h) (Or.inl ⟨by rfl, ?_⟩) ?_ ?_
        rotate_left
        · intro w'
          go_simp
          with_reducible rfl
        rotate_left
        · simp only [Act.put, List.setIfInBounds_toArray, List.set_cons_zero, List.set_cons_succ, i64_w, i32_w]
          rfl
        refine pure_ (i := 5) (N := some 75) (v := ?_) (a' := ?_) #[true, true, true, false, false, true, false, false, false] rfl rfl (by kernel_rfl) (fun _ _ _ h => h) (Or.inl ⟨by rfl, ?_⟩) ?_ ?_
        rotate_left
        · intro w'
          go_simp
          with_reducible rfl
        rotate_left
        · simp only [Act.put, List.setIfInBounds_toArray, List.set_cons_zero, List.set_cons_succ, i64_w, i32_w]
          rfl
        refine pure_ (i := 6) (N := some 76) (v := ?_) (a' := ?_) #[true, true, true, false, false, true, true, false, false] rfl rfl (by kernel_rfl) (fun _ _ _ h => h) (Or.inl ⟨by rfl, ?_⟩) ?_ ?_
        rotate_left
        · intro w'
          go_simp
          with_reducible rfl
        rotate_left
        · simp only [Act.put, List.setIfInBounds_toArray, List.set_cons_zero, List.set_cons_succ, i64_w, i32_w]
          rfl
        refine take_ (i := 3) (N := some 73) (v := ?_) (a' := ?_) #[true, true, true, true, false, true, true, false, false] rfl rfl (by kernel_rfl) (fun _ _ _ h => h) (Or.inl ⟨by rfl, ?_⟩) hHeld ?_ ?_
        rotate_left
        · rintro w' ⟨s0, s1, s2, s3, s4, s5, s6, s7, s8, s9, s10, s11⟩
          go_simp
          with_reducible rfl
        rotate_left
        · simp only [Act.put, List.setIfInBounds_toArray, List.set_cons_zero, List.set_cons_succ, i64_w, i32_w]
          rfl
        refine take_ (i := 4) (N := some 74) (v := ?_) (a' := ?_) #[true, true, true, true, true, true, true, false, false] rfl rfl (by kernel_rfl) (fun _ _ _ h => h) (Or.inl ⟨by rfl, ?_⟩) hHeld ?_ ?_
        rotate_left
        · rintro w' ⟨s0, s1, s2, s3, s4, s5, s6, s7, s8, s9, s10, s11⟩
          go_simp
          with_reducible rfl
        rotate_left
        · simp only [Act.put, List.setIfInBounds_toArray, List.set_cons_zero, List.set_cons_succ, i64_w, i32_w]
          rfl
        refine one_ (i := 7) (N := some 77) #[true, true, true, true, true, true, true, true, false] rfl rfl (by kernel_rfl) (by decide) (fun K hK => ?_)
        refine goes_ Try.func70 (by kernel_rfl) rfl #[.agg #[.int .i64 x.f0, .int .i64 x.f1, .int .i64 x.f2, .int .i64 x.f3, .int .i64 x.f4, .slice A5 x.f5.length c5, .slice A6 x.f6.length c6, .int .i64 x.f7.f0, .int .i64 x.f7.f1, .slice A9 x.f8.length c9, .slice A10 x.f9.length c10], .slice At TL.length ct, .int .i64 k] (by rfl) rfl rfl (by simp only [List.map_toArray, List.map_cons, List.map_nil]; rfl) ?_
        with_reducible refine (HRK.out _ (below_drew (Below.refl wr.heap.size wr))).mono ?_
        rintro e w7 ⟨rfl, hb7⟩
        refine ⟨_, rfl, ?_⟩
        refine hK.out _ _ ⟨pw_cell_below hb7 (hHeld.1), pw_cell_below hb7 (hHeld.2.1), pw_cell_below hb7 (hHeld.2.2.1), pw_cell_below hb7 (hHeld.2.2.2.1), pw_cell_below hb7 (hHeld.2.2.2.2.1), pw_cell_below hb7 (hHeld.2.2.2.2.2.1), pw_cell_below hb7 (hHeld.2.2.2.2.2.2.1), pw_cell_below hb7 (hHeld.2.2.2.2.2.2.2.1), pw_cell_below hb7 (hHeld.2.2.2.2.2.2.2.2.1), pw_cell_below hb7 (hHeld.2.2.2.2.2.2.2.2.2.1), pw_cell_below hb7 (hHeld.2.2.2.2.2.2.2.2.2.2.1), pw_cell_below hb7 (hHeld.2.2.2.2.2.2.2.2.2.2.2)⟩ (fun hHeld => ?_)
        clear hK K
        refine norm_ (a' := ?_) ?_ ?_
        rotate_left
        · show Act.put _ (some 77) _ = _
          simp only [Act.put, List.setIfInBounds_toArray, List.set_cons_zero, List.set_cons_succ, i64_w, i32_w]
          rfl
        refine pure_ (i := 8) (N := some 78) (v := ?_) (a' := ?_) #[true, true, true, true, true, true, true, true, true] rfl rfl (by kernel_rfl) (fun _ _ _ h => h) (Or.inl ⟨by rfl, ?_⟩) ?_ ?_
        rotate_left
        · intro w'
          go_simp
          with_reducible rfl
        rotate_left
        · simp only [Act.put, List.setIfInBounds_toArray, List.set_cons_zero, List.set_cons_succ, i64_w, i32_w]
          rfl
        refine done_ (by kernel_rfl) ?_
        have HN := Aside0.mk (And.intro (HW.out.1.step HP.out (bel2 (below_drew (Below.refl _ _)) hb7)) (bel2 HW.out.2 (bel2 (below_drew (Below.refl _ _)) hb7)))
        clear hHeld hb7 k0 k1 k2 k3 k4 k5 k6 k7 k8 k9 k10 qv
        go_wp2
        go_roundw
        case rel => exact ⟨k + 1, hlt, by go_num, HN⟩
        case measure => simp [intOf]; omega
      · have hkz : ¬ (k : Int) < (va.length : Int) := by omega
        have hrl := rLacks_calls (c := ct) (HTA.out wr HW.out.1.bel HW.out.2) HCC.out
        rw [hkr] at hrl
        clear hk
        by_cases hneg : fIdx notAlways va < 0
        · rw [if_pos hneg] at hlf
          obtain rfl : ln = 0 := by rw [← HEQ.out.2.2.1, hlf]
          obtain rfl : le = 7 := by rw [← HEQ.out.2.2.2, hlf]
          have hge : ¬ 0 ≤ fIdx notAlways va := by omega
          generalize fIdx notAlways va = fi at *
          go_wp2_with fail
          refine hrl.mono ?_
          rintro e w8 ⟨rfl, hb⟩
          have H8 := Aside0.mk (bel2 HW.out.1.bel hb)
          clear hb k0 k1 k2 k3 k4 k5 k6 k7 k8 k9 k10
          go_wp2_with fail
          refine (awake_calls _).mono ?_
          rintro e w9 ⟨rfl, hb⟩
          have H9 := Aside0.mk (bel2 H8.out hb)
          clear hb
          go_wp2
          go_ret
          exact ⟨rfl, H9.out⟩
        · rw [if_neg hneg] at hlf
          have e5 : ln = fIdx notAlways va := by rw [← HEQ.out.2.2.1, hlf]
          obtain rfl : le = 0 := by rw [← HEQ.out.2.2.2, hlf]
          have hge : 0 ≤ fIdx notAlways va := by omega
          rw [← e5] at hrl hge
          clear e5
          go_wp2_with fail
          refine hrl.mono ?_
          rintro e w8 ⟨rfl, hb⟩
          have H8 := Aside0.mk (bel2 HW.out.1.bel hb)
          clear hb k0 k1 k2 k3 k4 k5 k6 k7 k8 k9 k10
          go_wp2_with fail
          refine (awake_calls _).mono ?_
          rintro e w9 ⟨rfl, hb⟩
          have H9 := Aside0.mk (bel2 H8.out hb)
          clear hb
          go_wp2
          go_ret
          exact ⟨rfl, H9.out⟩
  · rw [if_neg hE] at hls hkf
    obtain ⟨rfl, hb⟩ := hls
    have e3 : ve = askE x true := by rw [← HEQ.out.2.1, hkf]
    obtain rfl : va = [] := by rw [← HEQ.out.1, hkf]
    rw [HEQ.out.2.1, if_neg (by rw [e3]; exact hE)] at hlf
    obtain rfl : ln = 0 := by rw [← HEQ.out.2.2.1, hlf]
    obtain rfl : le = ve := by rw [← HEQ.out.2.2.2, hlf]
    rw [← e3] at hE ⊢
    have hE2 : (le == 0) = false := by simpa using hE
    have H6 := Aside0.mk (bel2 H5.out.bel hb)
    have hl0 : (([] : List Int).length : Int) = 0 := rfl
    clear hb hkf hlf e3 H5
    go_wp2_with fail
    refine (awake_calls _).mono ?_
    rintro e w14 ⟨rfl, hb⟩
    have H9 := Aside0.mk (bel2 H6.out hb)
    clear hb
    go_wp2
    go_ret
    exact ⟨rfl, H9.out⟩
theorem keeps_law (x : S38) (cs : List Value) (w : World) (hx : k38.K w x cs) : Calls Try.prog 16 #[.agg cs.toArray] w fun e w' => e = .returned (.bool true) ∧ Below w.heap.size w w' := by
  cases h : thinB x with
  | false => exact keeps_awake x cs w hx h
  | true => exact keeps_main x cs w hx h
end Go.Proofs.Ytdgkhoflajdidaa
/- Arguments opened: coppers, truths, lists, readings. -/
namespace Go.Proofs.Ytdgkhoflajdidaa
open Go.RowKit Go.Proofs.YtdgkhoflajdidaaW.PrintWords Go.Proofs.YtdgkhoflajdidaaW.PrintMore Go.Proofs.YtdgkhoflajdidaaW.PrintLast Go.Proofs.Ytdgkhoflajdidaa.Print
open Go.ChangeShapes Go.WideShapes Go.ChangeAt
set_option linter.unusedVariables false
set_option linter.unusedSimpArgs false
set_option maxRecDepth 100000
set_option maxHeartbeats 4000000
section
variable {H : Type} {enc : TypeId × Value → H} {W : World}
/-- What a type's reading says of the cells. -/
def Opens (enc : TypeId × Value → H) (W : World) (t : TypeId) {α : Type} (d : Kd α) : Prop := ∀ (fuel : Nat) (cs : List Value) (x : DataW H × List MemPlace), DataW.trod enc Try.prog W 0 (fun _ => true) true fuel t cs = some x → ∃ v, d.K W v cs
theorem opens_int : Opens enc W 3 (Kd.int .i64) := fun fuel cs x h => by
  obtain ⟨n, hc, _⟩ := DataW.trod_int Try.underlying3 h
  exact ⟨n, hc⟩
theorem opens_slice {t e : TypeId} {α : Type} {d : Kd α} (z : α) (ht : Try.prog.underlying t = some (.slice e)) (he : Opens enc W e d) (hC : Try.prog.cellsOf e = d.sz) {fuel : Nat} {cs : List Value} {x : DataW H × List MemPlace} (h : DataW.trod enc Try.prog W 0 (fun _ => true) true fuel t cs = some x) :
    ∃ (A : Option Addr) (cap : Nat) (xs : List α), cs = [.slice A xs.length cap] ∧ xs.length ≤ cap ∧ Kd.C d W A xs.length xs := by
  rcases Deep.open_slice ht h with ⟨h0, _⟩ | ⟨a, len, cap, m, n, D, Pl, hcs, hb, hl, hm, hmm, hx, hi⟩
  · exact ⟨none, 0, [], h0, Nat.le_refl _, rfl, by simp, fun h => absurd h (by simp)⟩
  · have hm2 : m = cap := by simpa using hmm
    have key : ∀ i, ∃ v, i < len → ∃ c, c.length = d.sz ∧ d.K W v c ∧ ∀ j u, c[j]? = some u → W.cell? (a.add (i * d.sz + j)) = some u := by
      intro i
      by_cases hlt : i < len
      · obtain ⟨cs', hcells, htr⟩ := hi i (by omega)
        obtain ⟨v, hv⟩ := he _ _ _ htr
        obtain ⟨_, hcl, hat⟩ := World.cells?_some hcells
        refine ⟨v, fun _ => ⟨cs', by rw [hcl, hC], hv, fun j u hj => ?_⟩⟩
        have hjl := (List.getElem?_eq_some_iff.1 hj).1
        have := hat j (by omega)
        rw [Deep.add_add, hC] at this
        rw [this, hj]
      · exact ⟨z, fun h => absurd h hlt⟩
    obtain ⟨f, hf⟩ := Classical.skolem.1 key
    refine ⟨some a, cap, (List.range len).map f, by simpa using hcs, by simpa using hl, by simp, by simp; exact Nat.le_trans hl (Nat.le_trans hm (by decide)), fun _ => ⟨a, rfl, fun j p hj => ?_⟩⟩
    have hlt : j < len := by have := (List.getElem?_eq_some_iff.1 hj).1; simpa using this
    have hp : p = f j := by
      rw [List.getElem?_map, List.getElem?_range hlt] at hj
      exact (Option.some.inj hj).symm
    subst hp
    exact hf j hlt
theorem opens_range {t : TypeId} (ht : t = 24 ∨ t = 35) : Opens enc W t k35 := fun fuel cs x h => by
  have key : ∃ a b : Int, cs = [.int .i64 a, .int .i64 b] := by
    rcases ht with rfl | rfl
    · obtain ⟨xs, n, _, _, hlen, hxl, hf⟩ := DataW.trod_struct Try.underlying24 h
      have hl : cs.length = 2 := hlen.trans (by kernel_rfl)
      have hx2 : xs.length = 2 := hxl
      match cs, hl with
      | [u, v], _ =>
        have h0 := hf 0 _ rfl
        have h1 := hf 1 _ rfl
        have c1 : Try.prog.cellsOf 3 = 1 := by kernel_rfl
        match xs, hx2 with
        | [x0, x1], _ =>
          obtain ⟨a, ha, _⟩ := DataW.trod_int Try.underlying3 (by simpa [c1] using h0)
          obtain ⟨b, hb, _⟩ := DataW.trod_int Try.underlying3 (by simpa [c1] using h1)
          simp only [List.cons.injEq, and_true] at ha hb
          exact ⟨a, b, by rw [ha, hb]⟩
    · obtain ⟨xs, n, _, _, hlen, hxl, hf⟩ := DataW.trod_struct Try.underlying35 h
      have hl : cs.length = 2 := hlen.trans (by kernel_rfl)
      have hx2 : xs.length = 2 := hxl
      match cs, hl with
      | [u, v], _ =>
        have h0 := hf 0 _ rfl
        have h1 := hf 1 _ rfl
        have c1 : Try.prog.cellsOf 3 = 1 := by kernel_rfl
        match xs, hx2 with
        | [x0, x1], _ =>
          obtain ⟨a, ha, _⟩ := DataW.trod_int Try.underlying3 (by simpa [c1] using h0)
          obtain ⟨b, hb, _⟩ := DataW.trod_int Try.underlying3 (by simpa [c1] using h1)
          simp only [List.cons.injEq, and_true] at ha hb
          exact ⟨a, b, by rw [ha, hb]⟩
  obtain ⟨a, b, rfl⟩ := key
  exact ⟨⟨a, b⟩, k35_mk W ⟨a, b⟩⟩
theorem opens_reading : Opens enc W 96 k119 := fun fuel cs x h => by
  obtain ⟨xs, n, _, _, hlen, hxl, hf⟩ := DataW.trod_struct Try.underlying96 h
  have hl : cs.length = 3 := hlen.trans (by kernel_rfl)
  have hx2 : xs.length = 2 := hxl
  match cs, hl with
  | [u, v, r], _ =>
    have h0 := hf 0 _ rfl
    have h1 := hf 1 _ rfl
    have c1 : Try.prog.cellsOf 3 = 1 := by kernel_rfl
    have c2 : Try.prog.cellsOf 24 = 2 := by kernel_rfl
    match xs, hx2 with
    | [x0, x1], _ =>
      obtain ⟨a, ha, _⟩ := DataW.trod_int Try.underlying3 (by simpa [c1] using h0)
      obtain ⟨b, hb⟩ := opens_range (.inl rfl) _ _ _ (show DataW.trod enc Try.prog W 0 (fun _ => true) true n 24 [v, r] = some x1 by simpa [c2] using h1)
      have hb2 := k35_open hb
      simp only [List.cons.injEq, and_true] at ha hb2
      exact ⟨⟨a, b⟩, by rw [ha, hb2.1, hb2.2]; exact k119_mk W ⟨a, b⟩⟩
theorem opens_copper {fuel : Nat} {cs : List Value} {x : DataW H × List MemPlace} (h : DataW.trod enc Try.prog W 0 (fun _ => true) true fuel 28 cs = some x) : ∃ v, k38.K W v cs := by
  obtain ⟨xs, n, _, _, hlen, hxl, hf⟩ := DataW.trod_struct Try.underlying28 h
  have hl : cs.length = 11 := hlen.trans (by kernel_rfl)
  have hx2 : xs.length = 10 := hxl
  have c1 : Try.prog.cellsOf 3 = 1 := by kernel_rfl
  have c2 : Try.prog.cellsOf 24 = 2 := by kernel_rfl
  have c3 : Try.prog.cellsOf 22 = 1 := by kernel_rfl
  have c4 : Try.prog.cellsOf 25 = 1 := by kernel_rfl
  have c5 : Try.prog.cellsOf 26 = 1 := by kernel_rfl
  match cs, hl with
  | [v0, v1, v2, v3, v4, v5, v6, v7, v8, v9, v10], _ =>
    match xs, hx2 with
    | [x0, x1, x2, x3, x4, x5, x6, x7, x8, x9], _ =>
      have h0 := hf 0 _ rfl
      have h1 := hf 1 _ rfl
      have h2 := hf 2 _ rfl
      have h3 := hf 3 _ rfl
      have h4 := hf 4 _ rfl
      have h5 := hf 5 _ rfl
      have h6 := hf 6 _ rfl
      have h7 := hf 7 _ rfl
      have h8 := hf 8 _ rfl
      have h9 := hf 9 _ rfl
      obtain ⟨a0, e0, _⟩ := DataW.trod_int Try.underlying3 (by simpa [c1] using h0)
      obtain ⟨a1, e1, _⟩ := DataW.trod_int Try.underlying3 (by simpa [c1] using h1)
      obtain ⟨a2, e2, _⟩ := DataW.trod_int Try.underlying3 (by simpa [c1] using h2)
      obtain ⟨a3, e3, _⟩ := DataW.trod_int Try.underlying3 (by simpa [c1] using h3)
      obtain ⟨a4, e4, _⟩ := DataW.trod_int Try.underlying3 (by simpa [c1] using h4)
      obtain ⟨A5, p5, l5, e5, q5, g5⟩ := opens_slice (d := Kd.int .i64) (0 : Int) Try.underlying22 opens_int (by kernel_rfl) (show DataW.trod enc Try.prog W 0 (fun _ => true) true n 22 [v5] = some x5 by simpa [c3] using h5)
      obtain ⟨A6, p6, l6, e6, q6, g6⟩ := opens_slice (d := Kd.int .i64) (0 : Int) Try.underlying22 opens_int (by kernel_rfl) (show DataW.trod enc Try.prog W 0 (fun _ => true) true n 22 [v6] = some x6 by simpa [c3] using h6)
      obtain ⟨b, hb⟩ := opens_range (.inl rfl) _ _ _ (show DataW.trod enc Try.prog W 0 (fun _ => true) true n 24 [v7, v8] = some x7 by simpa [c2] using h7)
      have hb2 := k35_open hb
      obtain ⟨A9, p9, l9, e9, q9, g9⟩ := opens_slice (d := k35) z35 Try.underlying25 (opens_range (.inl rfl)) (by kernel_rfl) (show DataW.trod enc Try.prog W 0 (fun _ => true) true n 25 [v9] = some x8 by simpa [c4] using h8)
      obtain ⟨A10, p10, l10, e10, q10, g10⟩ := opens_slice (d := k119) z119 Try.underlying26 opens_reading (by kernel_rfl) (show DataW.trod enc Try.prog W 0 (fun _ => true) true n 26 [v10] = some x9 by simpa [c5] using h9)
      simp only [List.cons.injEq, and_true] at e0 e1 e2 e3 e4 e5 e6 hb2 e9 e10
      refine ⟨⟨a0, a1, a2, a3, a4, l5, l6, b, l9, l10⟩, ?_⟩
      rw [e0, e1, e2, e3, e4, e5, e6, hb2.1, hb2.2, e9, e10]
      exact k38_mk W ⟨a0, a1, a2, a3, a4, l5, l6, b, l9, l10⟩ q5 g5 q6 g6 q9 g9 q10 g10
end
theorem row_own : ownKnob Try.prog.godebug = none := by kernel_rfl
theorem row_laid : laidOutB Try.prog = true := by kernel_rfl
end Go.Proofs.Ytdgkhoflajdidaa
