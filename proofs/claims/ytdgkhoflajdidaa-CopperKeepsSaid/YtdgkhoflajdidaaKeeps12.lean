/- Lemmas for the law's proof: Kc, Kd, Lb, Ma. -/
import Derived.Test.YtdgkhoflajdidaaKeeps11
import Derived.WalkMore
import Derived.BigQuiet
/- Least's recursion: the walk of the rounds. -/
namespace Go.Proofs.Ytdgkhoflajdidaa
open Go.RowKit Go.Proofs.YtdgkhoflajdidaaW.PrintWords Go.Proofs.YtdgkhoflajdidaaW.PrintMore Go.Proofs.YtdgkhoflajdidaaW.PrintLast Go.Proofs.Ytdgkhoflajdidaa.Print
set_option linter.unusedVariables false
set_option linter.unusedSimpArgs false
set_option maxRecDepth 100000 in
set_option maxHeartbeats 4000000 in
theorem least1_calls (x : S38) (cs : List Value) (w1 : World) (g mb : Nat) (hx : k38.K w1 x cs) (hV : Valid x) (hM : IsMap mb w1) (hW : WorkAt x cs g mb w1) (Bf Bc Bl Bw : Nat) :
    ∀ (d m : Nat) (out : List Int) (A : Option Addr) (c n : Nat) (W : World), LcOk x cs Bf Bc Bl Bw g mb w1 W → Known x mb n W → n + 4 ^ d ≤ 100000 → Kd.C (Kd.int .i64) W A out.length out → (∀ ad, A = some ad → 0 < out.length → ad.block ≠ Bf) → ((out.length + d : Nat) : Int) = x.f0 + 1 → (∀ q ∈ out, 0 ≤ q ∧ q ≤ 3) → m ≤ 15 →
      Calls Try.prog 111 #[.slice A out.length c, .int .i64 m, .pointer (some ⟨Bc, 0, none⟩), .pointer (some ⟨Bf, 0, none⟩), .pointer (some ⟨Bw, 0, none⟩), .pointer (some ⟨Bl, 0, none⟩)] W (LcPost x out d m Bf mb n W) := by
  obtain ⟨A5, c5, A6, c6, A9, c9, A10, c10, hcs, _⟩ := k38_open hx
  have hl1 := hV.last1
  have hl0 := hV.last0
  have hs0 := hV.sh0
  have hs1 := hV.sh1
  have HX := Aside0.mk hx
  have HV := Aside0.mk hV
  have HCS := Aside0.mk hcs
  have HM := Aside0.mk hM
  have HWK := Aside0.mk hW
  clear hx hV hcs hM hW
  intro d
  induction d with
  | zero =>
    intro m out A c n W hL hK hn hC hA hlen hv hm
    exact least0_calls x cs w1 g mb HX.out HV.out HM.out HWK.out Bf Bc Bl Bw m out A c n W hL hK (Nat.lt_of_lt_of_le (show n < 100001 by simp at hn; omega) (by decide)) hC hA (by simpa using hlen) hv
  | succ d ih =>
    intro m out A c n W hL hK hn hC hA hlen hv hm
    have hu := Try.underlying38
    have hIH := Aside0.mk ih
    have HL := Aside0.mk hL
    have HK := Aside0.mk hK
    have HC := Aside0.mk hC
    have HA := Aside0.mk hA
    have HVV := Aside0.mk hv
    have hbc := hL.c
    rw [HCS.out] at hbc
    have k0 := hbc.cell 0 _ rfl
    have k4 := hbc.cell 4 _ rfl
    have hle2 : ((out.length : Int) == x.f0 + 1) = false := by simp; omega
    have hol : out.length ≤ 1000 := by omega
    have hmz : (m : Int) ≤ 15 := by omega
    have hP4 : 4 ^ (d + 1) = 4 * 4 ^ d := by rw [Nat.pow_succ]; omega
    have HN := Lib.hid (show n + 4 * 4 ^ d ≤ 100000 by omega)
    have HP4 := Lib.hid hP4
    have HLE := Lib.hid hlen
    have hmin := fun (W : World) h0 h1 => minimum_calls W.heap.size 2 x.f4 (m : Int) (W.alloc (.cells #[.int .i64 x.f4, .int .i64 m] 3)) h0 h1
    have hmn : mn2 x.f4 (m : Int) = ((min x.f4.toNat m : Nat) : Int) := by rw [mn2_eq]; omega
    obtain ⟨K, hKK⟩ : ∃ K, min x.f4.toNat m = K := ⟨_, rfl⟩
    rw [hKK] at hmn
    have hK3 : (K : Int) ≤ 3 := by omega
    have hKm : (K : Int) ≤ (m : Int) := by omega
    have HKK := Lib.hid hKK
    clear ih hL hK hC hA hlen hbc hn hv hP4 hKK
    have hmin2 := hmin W (cell_last _ _ _ _ rfl 0 _ rfl) (cell_last _ _ _ _ rfl 1 _ rfl)
    rw [hmn] at hmin2
    clear hmin hmn
    have hbW : Below W.heap.size W (W.alloc (.cells #[.int .i64 x.f4, .int .i64 m] 3)) := below_alloc (Below.refl _ _) _
    have HBW := Aside0.mk hbW
    clear hbW
    go_enter Try.func111, Try.ntmps111
    go_wp2_with (go_at_call 109; refine hmin2.mono ?_; clear hmin2; rintro e w3 ⟨rfl, rfl⟩)
    generalize W.alloc (.cells #[.int .i64 x.f4, .int .i64 m] 3) = W0 at *
    go_loopw [30] (fun s30 wr => ∃ j : Nat, j ≤ K + 1 ∧ s30 = .int .i64 (j : Int) ∧ Aside0 (Keep2 Bf mb W wr ∧ LcOk x cs Bf Bc Bl Bw g mb w1 wr ∧ Known x mb (n + j * 4 ^ d) wr ∧ (paysTo x.f4.toNat d m j).find? (fun t => sureB x (out ++ t)) = none)) (fun s30 _ => (100 - intOf s30).toNat)
    case atStart => exact ⟨0, Nat.zero_le _, rfl, ⟨Keep2.of_below HBW.out, HL.out.below HBW.out, by simpa using HK.out.below HBW.out, rfl⟩⟩
    case round =>
      obtain ⟨j, hj, rfl, HW⟩ := hrel
      have hjz : (j : Int) ≥ 0 := by omega
      have hjz4 : (j : Int) ≤ 4 := by omega
      by_cases hlt : j < K + 1
      · have hlz : (j : Int) < (K : Int) + 1 := by omega
        have hCw := C_keep2 HC.out HL.out.im HW.out.1 HA.out
        have kl := HW.out.2.1.l.cell 0 _ rfl
        have HCw := Aside0.mk hCw
        have hBfz : Bf < wr.heap.size := HW.out.2.1.f.elim fun v hv => hv.lt
        have hi0 : (j : Int) ≤ (m : Int) := by omega
        clear hCw
        have hstep : ∀ (A6 : Option Addr) (c6 : Nat) (w5 : World), Below wr.heap.size wr w5 → Kd.C (Kd.int .i64) w5 A6 (out ++ [(j : Int)]).length (out ++ [(j : Int)]) → (∀ k, (Value.slice A6 (out ++ [(j : Int)]).length c6).ownBlock = some k → wr.heap.size ≤ k) →
            Calls Try.prog 111 #[.slice A6 (out ++ [(j : Int)]).length c6, .int .i64 (wrap64 ((m : Int) - (j : Int))), .pointer (some ⟨Bc, 0, none⟩), .pointer (some ⟨Bf, 0, none⟩), .pointer (some ⟨Bw, 0, none⟩), .pointer (some ⟨Bl, 0, none⟩)] w5 (LcPost x (out ++ [(j : Int)]) d (m - j) Bf mb (n + j * 4 ^ d) w5) := by
          intro A6 c6 w5 hb hc ho
          have h1 := hIH.out (m - j) (out ++ [(j : Int)]) A6 c6 (n + j * 4 ^ d) w5 (HW.out.2.1.below hb) (HW.out.2.2.1.below hb) (by
            have h2 : j * 4 ^ d ≤ 3 * 4 ^ d := Nat.mul_le_mul_right _ (by omega)
            have h3 := HN.out
            omega) hc (fun ad e h0 h => by subst e; have := ho ad.block rfl; omega) (by have := HLE.out; simp; omega) (fun q hq => by
              rcases List.mem_append.1 hq with h | h
              · exact HVV.out q h
              · simp only [List.mem_singleton] at h; omega) (by omega)
          rw [IntWalk.wrap64_in ((m : Int) - (j : Int)) (by omega), show (m : Int) - (j : Int) = ((m - j : Nat) : Int) by omega]
          exact h1
        have HST := Aside0.mk hstep
        have HKJ := Lib.hid (show n + j * 4 ^ d + 4 ^ d = n + (j + 1) * 4 ^ d by rw [Nat.add_mul]; omega)
        have HKE := Lib.hid (show n + j * 4 ^ d + 4 ^ d ≤ n + 4 ^ (d + 1) by
          have h2 : j * 4 ^ d ≤ 3 * 4 ^ d := Nat.mul_le_mul_right _ (by omega)
          have h3 := HP4.out
          omega)
        have HLT := Lib.hid hlt
        clear hstep
        cases hfs : findC x (out ++ [(j : Int)]) d (m - j) with
        | some t =>
          have HSS := Aside0.mk (fun A6 c6 w5 h1 h2 h3 => (HST.out A6 c6 w5 h1 h2 h3).mono (R' := fun e W' => e = .returned (.bool true) ∧ Keep2 Bf mb w5 W' ∧ Known x mb (n + j * 4 ^ d + 4 ^ d) W' ∧ ∃ A c, Blk W' Bf #[.slice A ((out ++ [(j : Int)]) ++ t).length c] 22 ∧ Kd.C (Kd.int .i64) W' A ((out ++ [(j : Int)]) ++ t).length ((out ++ [(j : Int)]) ++ t))
            (fun e W' h => by
              rcases h.2.2 with ⟨h1, t', ht, hr⟩ | ⟨_, ht, _⟩
              · rw [hfs] at ht; cases ht; exact ⟨h1, h.1, h.2.1, hr⟩
              · rw [hfs] at ht; cases ht))
          have HFS := Lib.hid hfs
          clear hfs
          go_wp2
          refine start_ (n := 10) (S := fun w' => w'.cell? ⟨Bl, 0, none⟩ = some (.func (.func 111) #[] #[.pointer (some ⟨Bc, 0, none⟩), .pointer (some ⟨Bf, 0, none⟩), .pointer (some ⟨Bw, 0, none⟩), .pointer (some ⟨Bl, 0, none⟩)])) (ds := [9]) #[false, false, false, false, false, false, false, false, false, false] (by kernel_rfl) rfl rfl (kl) (fun hHeld => ?_)
          refine pure_ (i := 1) (N := some 34) (v := ?_) (a' := ?_) #[false, true, false, false, false, false, false, false, false, false] rfl rfl (by kernel_rfl) (fun _ _ _ h => h) (Or.inl ⟨by rfl, ?_⟩) ?_ ?_
          rotate_left
          · intro w'
            go_simp
            with_reducible rfl
          rotate_left
          · simp only [Act.put, List.setIfInBounds_toArray, List.set_cons_zero, List.set_cons_succ, i64_w, i32_w]
            rfl
          refine pure_ (i := 3) (N := some 36) (v := ?_) (a' := ?_) #[false, true, false, true, false, false, false, false, false, false] rfl rfl (by kernel_rfl) (fun _ _ _ h => h) (Or.inl ⟨by rfl, ?_⟩) ?_ ?_
          rotate_left
          · intro w'
            go_simp
            with_reducible rfl
          rotate_left
          · simp only [Act.put, List.setIfInBounds_toArray, List.set_cons_zero, List.set_cons_succ, i64_w, i32_w]
            rfl
          refine pure_ (i := 6) (N := some 39) (v := ?_) (a' := ?_) #[false, true, false, true, false, false, true, false, false, false] rfl rfl (by kernel_rfl) (fun _ _ _ h => h) (Or.inl ⟨by rfl, ?_⟩) ?_ ?_
          rotate_left
          · intro w'
            go_simp
            with_reducible rfl
          rotate_left
          · simp only [Act.put, List.setIfInBounds_toArray, List.set_cons_zero, List.set_cons_succ, i64_w, i32_w]
            rfl
          refine pure_ (i := 7) (N := some 40) (v := ?_) (a' := ?_) #[false, true, false, true, false, false, true, true, false, false] rfl rfl (by kernel_rfl) (fun _ _ _ h => h) (Or.inl ⟨by rfl, ?_⟩) ?_ ?_
          rotate_left
          · intro w'
            go_simp
            with_reducible rfl
          rotate_left
          · simp only [Act.put, List.setIfInBounds_toArray, List.set_cons_zero, List.set_cons_succ, i64_w, i32_w]
            rfl
          refine pure_ (i := 8) (N := some 41) (v := ?_) (a' := ?_) #[false, true, false, true, false, false, true, true, true, false] rfl rfl (by kernel_rfl) (fun _ _ _ h => h) (Or.inl ⟨by rfl, ?_⟩) ?_ ?_
          rotate_left
          · intro w'
            go_simp
            with_reducible rfl
          rotate_left
          · simp only [Act.put, List.setIfInBounds_toArray, List.set_cons_zero, List.set_cons_succ, i64_w, i32_w]
            rfl
          refine take_ (i := 0) (N := some 33) (v := ?_) (a' := ?_) #[true, true, false, true, false, false, true, true, true, false] rfl rfl (by kernel_rfl) (fun _ _ _ h => h) (Or.inl ⟨by rfl, ?_⟩) hHeld ?_ ?_
          rotate_left
          · intro w' s0
            go_simp
            with_reducible rfl
          rotate_left
          · simp only [Act.put, List.setIfInBounds_toArray, List.set_cons_zero, List.set_cons_succ, i64_w, i32_w]
            rfl
          refine join_ (σ := Value × Nat) 2 #[true, true, true, true, true, false, true, true, true, false] (fun s => [(35, s.1), (37, .slice (some ⟨s.2, 0, none⟩) 1 1)]) (fun s w' => (w'.cell? ⟨Bl, 0, none⟩ = some (.func (.func 111) #[] #[.pointer (some ⟨Bc, 0, none⟩), .pointer (some ⟨Bf, 0, none⟩), .pointer (some ⟨Bw, 0, none⟩), .pointer (some ⟨Bl, 0, none⟩)])) ∧ w'.ownsRow wr.heap.size 3 1 s.1 out.length (nums .i64 out) ∧ Blk w' s.2 #[.int .i64 (j : Int)] 3 ∧ Below wr.heap.size wr w') ?_ ?_
          rotate_left
          · intro hCont
            refine two_ (i := 2) (j := 4) (Ni := some 35) (Nj := some 37) #[true, true, true, true, false, false, true, true, true, false] #[true, true, false, true, true, false, true, true, true, false] rfl rfl rfl rfl (by kernel_rfl) (by decide) (by decide) (fun K hK => ?_) (fun K hK => ?_)
            · skip
              refine goes_ Try.func91 (by kernel_rfl) rfl #[.slice A out.length c] (by rfl) rfl rfl (by simp only [List.map_toArray, List.map_cons, List.map_nil]; rfl) ?_
              with_reducible refine (clone_calls A c out _ (Kd.C_below HCw.out (below_drew (Below.refl _ wr))) hol).mono ?_
              rintro e w3 ⟨v3, rfl, ho3, hb3⟩
              refine ⟨_, rfl, ?_⟩
              refine hK.out _ _ (pw_cell_below hb3 hHeld) (fun hHeld => ?_)
              clear hK K
              refine norm_ (a' := ?_) ?_ ?_
              rotate_left
              · show Act.put _ (some 35) _ = _
                simp only [Act.put, List.setIfInBounds_toArray, List.set_cons_zero, List.set_cons_succ, i64_w, i32_w]
                rfl
              refine one_ (i := 4) (N := some 37) #[true, true, true, true, true, false, true, true, true, false] rfl rfl (by kernel_rfl) (by decide) (fun K hK => ?_)
              refine value_ (w1 := ?_) (v := ?_) (by rfl) rfl ?_ ?_
              rotate_left 2
              · go_simp
                constructor
                · rfl
                · rfl
              refine hK.out _ _ (cell_al _ hHeld) (fun hHeld => ?_)
              clear hK K
              refine norm_ (a' := ?_) ?_ ?_
              rotate_left
              · show Act.put _ (some 37) _ = _
                simp only [Act.put, List.setIfInBounds_toArray, List.set_cons_zero, List.set_cons_succ, i64_w, i32_w]
                rfl
              exact norm_ (by simp only [putAll, Act.put, List.setIfInBounds_toArray, List.set_cons_zero, List.set_cons_succ]) (hCont (v3, w3.heap.size) _ ⟨hHeld, (own_weaken ho3 (Nat.le_refl wr.heap.size)).alloc _, Blk.new _ _ _ _ rfl, below_alloc (bel2 (below_drew (Below.refl _ _)) hb3) _⟩)
            · skip
              refine value_ (w1 := ?_) (v := ?_) (by rfl) rfl ?_ ?_
              rotate_left 2
              · go_simp
                constructor
                · rfl
                · rfl
              refine hK.out _ _ (cell_al _ hHeld) (fun hHeld => ?_)
              clear hK K
              refine norm_ (a' := ?_) ?_ ?_
              rotate_left
              · show Act.put _ (some 37) _ = _
                simp only [Act.put, List.setIfInBounds_toArray, List.set_cons_zero, List.set_cons_succ, i64_w, i32_w]
                rfl
              refine one_ (i := 2) (N := some 35) #[true, true, true, true, true, false, true, true, true, false] rfl rfl (by kernel_rfl) (by decide) (fun K hK => ?_)
              refine goes_ Try.func91 (by kernel_rfl) rfl #[.slice A out.length c] (by rfl) rfl rfl (by simp only [List.map_toArray, List.map_cons, List.map_nil]; rfl) ?_
              with_reducible refine (clone_calls A c out _ (Kd.C_below HCw.out (below_drew (below_alloc (Below.refl _ wr) _))) hol).mono ?_
              rintro e w3 ⟨v3, rfl, ho3, hb3⟩
              refine ⟨_, rfl, ?_⟩
              refine hK.out _ _ (pw_cell_below hb3 hHeld) (fun hHeld => ?_)
              clear hK K
              refine norm_ (a' := ?_) ?_ ?_
              rotate_left
              · show Act.put _ (some 35) _ = _
                simp only [Act.put, List.setIfInBounds_toArray, List.set_cons_zero, List.set_cons_succ, i64_w, i32_w]
                rfl
              exact norm_ (by simp only [putAll, Act.put, List.setIfInBounds_toArray, List.set_cons_zero, List.set_cons_succ]) (hCont (v3, wr.heap.size) _ ⟨hHeld, own_weaken ho3 (by show wr.heap.size ≤ (wr.alloc _).heap.size; simp), (Blk.drew (Blk.new wr _ _ _ rfl)).below hb3, bel2 (below_drew (below_alloc (Below.refl _ _) _)) hb3⟩)
          rintro ⟨v4, p4⟩ w4 ⟨hHeld, ho4, hbk4, hb4⟩
          refine norm_ (a' := ?_) ?_ ?_
          rotate_left
          · simp only [putAll, Act.put, List.setIfInBounds_toArray, List.set_cons_zero, List.set_cons_succ]
            rfl
          refine one_ (i := 5) (N := some 38) #[true, true, true, true, true, true, true, true, true, false] rfl rfl (by kernel_rfl) (by decide) (fun K hK => ?_)
          refine append_op (w := w4) (.tmp 35) (.tmp 37) 22 3 (.int .i64 0) 8 (by rfl) rfl rfl info3 rfl (by decide) wr.heap.size v4 (nums .i64 out) (.int .i64 (j : Int)) p4 1 rfl rfl (by simpa [nums] using ho4) (hbk4.cell 0 _ rfl) rfl (by simp [nums]; omega) hb4.size ?_
          intro v5 w5 ho5 hg5 hat5
          have hb5 : Below wr.heap.size wr w5 := hb4.grown hg5 hb4.size (own_base ho4)
          have hbs5 := own_base ho5
          obtain ⟨A6, c6', hv6, hl6, hC6⟩ := own_C (Kd.int .i64) (.int .i64) rfl (fun _ _ => rfl) (xs := out ++ [(j : Int)]) (by simp [nums]) rfl ho5
          subst hv6
          refine hK.out _ _ (pw_cell_below hb5 kl) (fun hHeld => ?_)
          clear hK K
          refine norm_ (a' := ?_) ?_ ?_
          rotate_left
          · show Act.put _ (some 38) _ = _
            simp only [Act.put, List.setIfInBounds_toArray, List.set_cons_zero, List.set_cons_succ, i64_w, i32_w]
            rfl
          refine last_ (i := 9) (N := some 42) #[true, true, true, true, true, true, true, true, true, true] rfl rfl (by kernel_rfl) (by decide) (fun K hK => ?_)
          refine goesV_ Try.func111 (by kernel_rfl) rfl #[.slice A6 (out ++ [(j : Int)]).length c6', .int .i64 (wrap64 ((m : Int) - (j : Int))), .pointer (some ⟨Bc, 0, none⟩), .pointer (some ⟨Bf, 0, none⟩), .pointer (some ⟨Bw, 0, none⟩), .pointer (some ⟨Bl, 0, none⟩)] (by rfl) rfl rfl rfl (by simp only [List.map_toArray, List.map_cons, List.map_nil]; rfl) ?_
          with_reducible refine (HSS.out _ _ w5 hb5 hC6 hbs5).mono ?_
          rintro e w6 ⟨rfl, hmk6, hR6⟩
          refine ⟨_, rfl, ?_⟩
          refine hK.out _ _ ?_
          clear hK K
          refine norm_ (a' := ?_) ?_ ?_
          rotate_left
          · show Act.put _ (some 42) _ = _
            simp only [Act.put, List.setIfInBounds_toArray, List.set_cons_zero, List.set_cons_succ, i64_w, i32_w]
            rfl
          refine done_ (by kernel_rfl) ?_
          have HQ : Aside0 (LcPost x out (d + 1) m Bf mb n W (.returned (.bool true)) w6) := by
            obtain ⟨hK6, A7, c7, hb7, hc7⟩ := hR6
            refine ⟨(HW.out.1.trans (Keep2.of_below hb5)).trans hmk6, hK6.mono HKE.out, .inl ⟨rfl, (j : Int) :: t, ?_, A7, c7, ?_, ?_⟩⟩
            · have h1 := HFS.out
              unfold findC at h1
              exact paysTo_some (p := fun t => sureB x (out ++ t)) (t := t) HW.out.2.2.2 (by simpa [List.append_assoc] using h1) (by rw [HKK.out]; exact HLT.out)
            · rw [show out ++ (j : Int) :: t = (out ++ [(j : Int)]) ++ t by simp]; exact hb7
            · rw [show out ++ (j : Int) :: t = (out ++ [(j : Int)]) ++ t by simp]; exact hc7
          clear hR6 hmk6 hC6 ho5 ho4 hbk4 hb4 hb5 hg5 hat5 hHeld
          go_wp2
          go_ret
          exact HQ.out
        | none =>
          have HSS := Aside0.mk (fun A6 c6 w5 h1 h2 h3 => (HST.out A6 c6 w5 h1 h2 h3).mono (R' := fun e W' => e = .returned (.bool false) ∧ Keep2 Bf mb w5 W' ∧ Known x mb (n + j * 4 ^ d + 4 ^ d) W' ∧ ∃ v, Blk W' Bf #[v] 22)
            (fun e W' h => by
              rcases h.2.2 with ⟨h1, t', ht, hr⟩ | ⟨h1, ht, hr⟩
              · rw [hfs] at ht; cases ht
              · exact ⟨h1, h.1, h.2.1, hr⟩))
          have HFS := Lib.hid hfs
          clear hfs
          go_wp2
          refine start_ (n := 10) (S := fun w' => w'.cell? ⟨Bl, 0, none⟩ = some (.func (.func 111) #[] #[.pointer (some ⟨Bc, 0, none⟩), .pointer (some ⟨Bf, 0, none⟩), .pointer (some ⟨Bw, 0, none⟩), .pointer (some ⟨Bl, 0, none⟩)])) (ds := [9]) #[false, false, false, false, false, false, false, false, false, false] (by kernel_rfl) rfl rfl (kl) (fun hHeld => ?_)
          refine pure_ (i := 1) (N := some 34) (v := ?_) (a' := ?_) #[false, true, false, false, false, false, false, false, false, false] rfl rfl (by kernel_rfl) (fun _ _ _ h => h) (Or.inl ⟨by rfl, ?_⟩) ?_ ?_
          rotate_left
          · intro w'
            go_simp
            with_reducible rfl
          rotate_left
          · simp only [Act.put, List.setIfInBounds_toArray, List.set_cons_zero, List.set_cons_succ, i64_w, i32_w]
            rfl
          refine pure_ (i := 3) (N := some 36) (v := ?_) (a' := ?_) #[false, true, false, true, false, false, false, false, false, false] rfl rfl (by kernel_rfl) (fun _ _ _ h => h) (Or.inl ⟨by rfl, ?_⟩) ?_ ?_
          rotate_left
          · intro w'
            go_simp
            with_reducible rfl
          rotate_left
          · simp only [Act.put, List.setIfInBounds_toArray, List.set_cons_zero, List.set_cons_succ, i64_w, i32_w]
            rfl
          refine pure_ (i := 6) (N := some 39) (v := ?_) (a' := ?_) #[false, true, false, true, false, false, true, false, false, false] rfl rfl (by kernel_rfl) (fun _ _ _ h => h) (Or.inl ⟨by rfl, ?_⟩) ?_ ?_
          rotate_left
          · intro w'
            go_simp
            with_reducible rfl
          rotate_left
          · simp only [Act.put, List.setIfInBounds_toArray, List.set_cons_zero, List.set_cons_succ, i64_w, i32_w]
            rfl
          refine pure_ (i := 7) (N := some 40) (v := ?_) (a' := ?_) #[false, true, false, true, false, false, true, true, false, false] rfl rfl (by kernel_rfl) (fun _ _ _ h => h) (Or.inl ⟨by rfl, ?_⟩) ?_ ?_
          rotate_left
          · intro w'
            go_simp
            with_reducible rfl
          rotate_left
          · simp only [Act.put, List.setIfInBounds_toArray, List.set_cons_zero, List.set_cons_succ, i64_w, i32_w]
            rfl
          refine pure_ (i := 8) (N := some 41) (v := ?_) (a' := ?_) #[false, true, false, true, false, false, true, true, true, false] rfl rfl (by kernel_rfl) (fun _ _ _ h => h) (Or.inl ⟨by rfl, ?_⟩) ?_ ?_
          rotate_left
          · intro w'
            go_simp
            with_reducible rfl
          rotate_left
          · simp only [Act.put, List.setIfInBounds_toArray, List.set_cons_zero, List.set_cons_succ, i64_w, i32_w]
            rfl
          refine take_ (i := 0) (N := some 33) (v := ?_) (a' := ?_) #[true, true, false, true, false, false, true, true, true, false] rfl rfl (by kernel_rfl) (fun _ _ _ h => h) (Or.inl ⟨by rfl, ?_⟩) hHeld ?_ ?_
          rotate_left
          · intro w' s0
            go_simp
            with_reducible rfl
          rotate_left
          · simp only [Act.put, List.setIfInBounds_toArray, List.set_cons_zero, List.set_cons_succ, i64_w, i32_w]
            rfl
          refine join_ (σ := Value × Nat) 2 #[true, true, true, true, true, false, true, true, true, false] (fun s => [(35, s.1), (37, .slice (some ⟨s.2, 0, none⟩) 1 1)]) (fun s w' => (w'.cell? ⟨Bl, 0, none⟩ = some (.func (.func 111) #[] #[.pointer (some ⟨Bc, 0, none⟩), .pointer (some ⟨Bf, 0, none⟩), .pointer (some ⟨Bw, 0, none⟩), .pointer (some ⟨Bl, 0, none⟩)])) ∧ w'.ownsRow wr.heap.size 3 1 s.1 out.length (nums .i64 out) ∧ Blk w' s.2 #[.int .i64 (j : Int)] 3 ∧ Below wr.heap.size wr w') ?_ ?_
          rotate_left
          · intro hCont
            refine two_ (i := 2) (j := 4) (Ni := some 35) (Nj := some 37) #[true, true, true, true, false, false, true, true, true, false] #[true, true, false, true, true, false, true, true, true, false] rfl rfl rfl rfl (by kernel_rfl) (by decide) (by decide) (fun K hK => ?_) (fun K hK => ?_)
            · skip
              refine goes_ Try.func91 (by kernel_rfl) rfl #[.slice A out.length c] (by rfl) rfl rfl (by simp only [List.map_toArray, List.map_cons, List.map_nil]; rfl) ?_
              with_reducible refine (clone_calls A c out _ (Kd.C_below HCw.out (below_drew (Below.refl _ wr))) hol).mono ?_
              rintro e w3 ⟨v3, rfl, ho3, hb3⟩
              refine ⟨_, rfl, ?_⟩
              refine hK.out _ _ (pw_cell_below hb3 hHeld) (fun hHeld => ?_)
              clear hK K
              refine norm_ (a' := ?_) ?_ ?_
              rotate_left
              · show Act.put _ (some 35) _ = _
                simp only [Act.put, List.setIfInBounds_toArray, List.set_cons_zero, List.set_cons_succ, i64_w, i32_w]
                rfl
              refine one_ (i := 4) (N := some 37) #[true, true, true, true, true, false, true, true, true, false] rfl rfl (by kernel_rfl) (by decide) (fun K hK => ?_)
              refine value_ (w1 := ?_) (v := ?_) (by rfl) rfl ?_ ?_
              rotate_left 2
              · go_simp
                constructor
                · rfl
                · rfl
              refine hK.out _ _ (cell_al _ hHeld) (fun hHeld => ?_)
              clear hK K
              refine norm_ (a' := ?_) ?_ ?_
              rotate_left
              · show Act.put _ (some 37) _ = _
                simp only [Act.put, List.setIfInBounds_toArray, List.set_cons_zero, List.set_cons_succ, i64_w, i32_w]
                rfl
              exact norm_ (by simp only [putAll, Act.put, List.setIfInBounds_toArray, List.set_cons_zero, List.set_cons_succ]) (hCont (v3, w3.heap.size) _ ⟨hHeld, (own_weaken ho3 (Nat.le_refl wr.heap.size)).alloc _, Blk.new _ _ _ _ rfl, below_alloc (bel2 (below_drew (Below.refl _ _)) hb3) _⟩)
            · skip
              refine value_ (w1 := ?_) (v := ?_) (by rfl) rfl ?_ ?_
              rotate_left 2
              · go_simp
                constructor
                · rfl
                · rfl
              refine hK.out _ _ (cell_al _ hHeld) (fun hHeld => ?_)
              clear hK K
              refine norm_ (a' := ?_) ?_ ?_
              rotate_left
              · show Act.put _ (some 37) _ = _
                simp only [Act.put, List.setIfInBounds_toArray, List.set_cons_zero, List.set_cons_succ, i64_w, i32_w]
                rfl
              refine one_ (i := 2) (N := some 35) #[true, true, true, true, true, false, true, true, true, false] rfl rfl (by kernel_rfl) (by decide) (fun K hK => ?_)
              refine goes_ Try.func91 (by kernel_rfl) rfl #[.slice A out.length c] (by rfl) rfl rfl (by simp only [List.map_toArray, List.map_cons, List.map_nil]; rfl) ?_
              with_reducible refine (clone_calls A c out _ (Kd.C_below HCw.out (below_drew (below_alloc (Below.refl _ wr) _))) hol).mono ?_
              rintro e w3 ⟨v3, rfl, ho3, hb3⟩
              refine ⟨_, rfl, ?_⟩
              refine hK.out _ _ (pw_cell_below hb3 hHeld) (fun hHeld => ?_)
              clear hK K
              refine norm_ (a' := ?_) ?_ ?_
              rotate_left
              · show Act.put _ (some 35) _ = _
                simp only [Act.put, List.setIfInBounds_toArray, List.set_cons_zero, List.set_cons_succ, i64_w, i32_w]
                rfl
              exact norm_ (by simp only [putAll, Act.put, List.setIfInBounds_toArray, List.set_cons_zero, List.set_cons_succ]) (hCont (v3, wr.heap.size) _ ⟨hHeld, own_weaken ho3 (by show wr.heap.size ≤ (wr.alloc _).heap.size; simp), (Blk.drew (Blk.new wr _ _ _ rfl)).below hb3, bel2 (below_drew (below_alloc (Below.refl _ _) _)) hb3⟩)
          rintro ⟨v4, p4⟩ w4 ⟨hHeld, ho4, hbk4, hb4⟩
          refine norm_ (a' := ?_) ?_ ?_
          rotate_left
          · simp only [putAll, Act.put, List.setIfInBounds_toArray, List.set_cons_zero, List.set_cons_succ]
            rfl
          refine one_ (i := 5) (N := some 38) #[true, true, true, true, true, true, true, true, true, false] rfl rfl (by kernel_rfl) (by decide) (fun K hK => ?_)
          refine append_op (w := w4) (.tmp 35) (.tmp 37) 22 3 (.int .i64 0) 8 (by rfl) rfl rfl info3 rfl (by decide) wr.heap.size v4 (nums .i64 out) (.int .i64 (j : Int)) p4 1 rfl rfl (by simpa [nums] using ho4) (hbk4.cell 0 _ rfl) rfl (by simp [nums]; omega) hb4.size ?_
          intro v5 w5 ho5 hg5 hat5
          have hb5 : Below wr.heap.size wr w5 := hb4.grown hg5 hb4.size (own_base ho4)
          have hbs5 := own_base ho5
          obtain ⟨A6, c6', hv6, hl6, hC6⟩ := own_C (Kd.int .i64) (.int .i64) rfl (fun _ _ => rfl) (xs := out ++ [(j : Int)]) (by simp [nums]) rfl ho5
          subst hv6
          refine hK.out _ _ (pw_cell_below hb5 kl) (fun hHeld => ?_)
          clear hK K
          refine norm_ (a' := ?_) ?_ ?_
          rotate_left
          · show Act.put _ (some 38) _ = _
            simp only [Act.put, List.setIfInBounds_toArray, List.set_cons_zero, List.set_cons_succ, i64_w, i32_w]
            rfl
          refine last_ (i := 9) (N := some 42) #[true, true, true, true, true, true, true, true, true, true] rfl rfl (by kernel_rfl) (by decide) (fun K hK => ?_)
          refine goesV_ Try.func111 (by kernel_rfl) rfl #[.slice A6 (out ++ [(j : Int)]).length c6', .int .i64 (wrap64 ((m : Int) - (j : Int))), .pointer (some ⟨Bc, 0, none⟩), .pointer (some ⟨Bf, 0, none⟩), .pointer (some ⟨Bw, 0, none⟩), .pointer (some ⟨Bl, 0, none⟩)] (by rfl) rfl rfl rfl (by simp only [List.map_toArray, List.map_cons, List.map_nil]; rfl) ?_
          with_reducible refine (HSS.out _ _ w5 hb5 hC6 hbs5).mono ?_
          rintro e w6 ⟨rfl, hmk6, hR6⟩
          refine ⟨_, rfl, ?_⟩
          refine hK.out _ _ ?_
          clear hK K
          refine norm_ (a' := ?_) ?_ ?_
          rotate_left
          · show Act.put _ (some 42) _ = _
            simp only [Act.put, List.setIfInBounds_toArray, List.set_cons_zero, List.set_cons_succ, i64_w, i32_w]
            rfl
          refine done_ (by kernel_rfl) ?_
          have hmkw : Keep2 Bf mb W w6 := (HW.out.1.trans (Keep2.of_below hb5)).trans hmk6
          have hnew : (paysTo x.f4.toNat d m (j + 1)).find? (fun t => sureB x (out ++ t)) = none := by
            have h1 := HFS.out
            unfold findC at h1
            exact paysTo_none (p := fun t => sureB x (out ++ t)) HW.out.2.2.2 (by simpa [List.append_assoc] using h1)
          have hkn6 : Known x mb (n + (j + 1) * 4 ^ d) w6 := by rw [← HKJ.out]; exact hR6.1
          have HQ := Aside0.mk (And.intro hmkw (And.intro ((HW.out.2.1.below hb5).keep hmk6 hR6.2 hkn6.isMap) (And.intro hkn6 hnew)))
          clear hmkw hnew hkn6 hR6 hmk6 hC6 ho5 ho4 hbk4 hb4 hb5 hg5 hat5 hHeld
          go_wp2
          go_roundw
          case rel => exact ⟨j + 1, by omega, by go_num, HQ⟩
          case measure => simp [intOf]; omega
      · have hlz : ¬ (j : Int) < (K : Int) + 1 := by omega
        have hjn : j = K + 1 := by omega
        have HNN : Aside0 (findC x out (d + 1) m = none) := by
          refine ⟨?_⟩
          have := HW.out.2.2.2
          rw [hjn, ← HKK.out] at this
          exact this
        have HKE : Aside0 (Known x mb (n + 4 ^ (d + 1)) wr) := ⟨HW.out.2.2.1.mono (by
          have h2 : j * 4 ^ d ≤ 4 * 4 ^ d := Nat.mul_le_mul_right _ (by omega)
          have h3 := HP4.out
          omega)⟩
        go_wp2
        go_ret
        exact ⟨HW.out.1, HKE.out, .inr ⟨rfl, HNN.out, HW.out.2.1.f⟩⟩
end Go.Proofs.Ytdgkhoflajdidaa
/- Least. -/
namespace Go.Proofs.Ytdgkhoflajdidaa
open Go.RowKit Go.Proofs.YtdgkhoflajdidaaW.PrintWords Go.Proofs.YtdgkhoflajdidaaW.PrintMore Go.Proofs.YtdgkhoflajdidaaW.PrintLast Go.Proofs.Ytdgkhoflajdidaa.Print
set_option linter.unusedVariables false
set_option linter.unusedSimpArgs false
/-- The greatest sum of shovels. -/
def mostC (x : S38) : Nat := x.f4.toNat * (x.f0 + 1).toNat
/-- What Least finds. -/
def leastL (x : S38) : Option (List Int) := (List.range (mostC x + 1)).findSome? fun m => findC x [] (x.f0 + 1).toNat m
/-- What Least returns. -/
def leastF (x : S38) : List Int × Int := if askE x true = 0 then (match leastL x with
  | some t => (t, 0)
  | none => ([], 10)) else ([], askE x true)
theorem leastF_hit {x : S38} (hE : askE x true = 0) {m : Nat} {t : List Int} (hm : m ≤ mostC x) (h1 : findC x [] (x.f0 + 1).toNat m = some t) (h2 : ∀ j, j < m → findC x [] (x.f0 + 1).toNat j = none) : leastF x = (t, 0) := by
  unfold leastF
  rw [if_pos hE]
  have : leastL x = some t := by
    unfold leastL
    rw [List.findSome?_eq_some_iff]
    refine ⟨List.range m, m, List.range' (m + 1) (mostC x - m), ?_, h1, fun j hj => h2 j (List.mem_range.1 hj)⟩
    rw [List.range_eq_range', List.range_eq_range', show mostC x + 1 = m + (1 + (mostC x - m)) by omega, ← List.range'_append_1, ← List.range'_append_1]
    simp
  rw [this]
theorem leastF_miss {x : S38} (hE : askE x true = 0) (h2 : ∀ j, j < mostC x + 1 → findC x [] (x.f0 + 1).toNat j = none) : leastF x = ([], 10) := by
  unfold leastF
  rw [if_pos hE]
  have : leastL x = none := by
    unfold leastL
    rw [List.findSome?_eq_none_iff]
    intro j hj
    exact h2 j (List.mem_range.1 hj)
  rw [this]
theorem leastF_bad {x : S38} (hE : ¬ askE x true = 0) : leastF x = ([], askE x true) := by unfold leastF; rw [if_neg hE]
def LeastPost (x : S38) (w : World) (e : Ending) (w' : World) : Prop := ∃ A c, e = .returned (.tuple #[.slice A (leastF x).1.length c, .int .i64 (leastF x).2]) ∧ Kd.C (Kd.int .i64) w' A (leastF x).1.length (leastF x).1 ∧ Below w.heap.size w w'
set_option maxRecDepth 100000 in
set_option maxHeartbeats 4000000 in
theorem leastF_calls (x : S38) (cs : List Value) (w : World) (hx : k38.K w x cs) : Calls Try.prog 63 #[.agg cs.toArray] w (LeastPost x w) := by
  have hgood := ask_box x cs true w hx
  have hbad := ask_bad x cs true w hx
  have HX := Aside0.mk hx
  obtain ⟨A5, c5, A6, c6, A9, c9, A10, c10, hcs, _⟩ := k38_open hx
  subst hcs
  clear hx
  have hu := Try.underlying38
  have hu1 := Try.underlying107
  have hu2 := Try.underlying128
  have hu3 := Try.underlying22
  by_cases hE : askE x true = 0
  · have HV := Aside0.mk ((valid_iff x).1 (askE_nonneg hE).1)
    have hf0 := HV.out.last0
    have hf1 := HV.out.last1
    have hs0 := HV.out.sh0
    have hs1 := HV.out.sh1
    have HE := Lib.hid hE
    have hask := hgood hE
    clear hgood hbad hE
    obtain ⟨T, hTT⟩ : ∃ T, mostC x = T := ⟨_, rfl⟩
    have hT : x.f4 * (x.f0 + 1) = (T : Int) := by rw [← hTT]; unfold mostC; rw [Int.natCast_mul]; congr 1 <;> omega
    have hT15 : (T : Int) ≤ 15 := by
      rw [← hT]
      have h4 : x.f4 = 0 ∨ x.f4 = 1 ∨ x.f4 = 2 ∨ x.f4 = 3 := by omega
      rcases h4 with h | h | h | h <;> rw [h] <;> omega
    have HT := Lib.hid hT
    have HTT := Lib.hid hTT
    clear hTT
    go_enter Try.func63, Try.ntmps63
    go_wp2
    go_step3
    go_wp2_with (go_at_call 77; refine hask.mono ?_; clear hask; rintro e w1 ⟨g, mb, rfl, hb1, hbc, hwk, hmap, hg0, hm0⟩; have HW1 := Aside0.mk (And.intro hb1 (And.intro hbc (And.intro hwk hmap))); have hlz := hbc.lt; have k0 := hbc.cell 0 _ rfl; have k4 := hbc.cell 4 _ rfl; clear hb1 hbc hwk hmap)
    have hb2 : Below w1.heap.size w1 (((w1.alloc (.cells #[.pointer (some ⟨g, 0, none⟩)] 107)).alloc (.cells #[.slice none 0 0] 22)).alloc (.cells #[.func (.func 111) #[] #[.pointer (some ⟨w.heap.size, 0, none⟩), .pointer (some ⟨w1.heap.size + 1, 0, none⟩), .pointer (some ⟨w1.heap.size, 0, none⟩), .pointer (some ⟨w1.heap.size + 1 + 1, 0, none⟩)]] 128)) := below_alloc (below_alloc (below_alloc (Below.refl _ _) _) _) _
    have bw : Blk (((w1.alloc (.cells #[.pointer (some ⟨g, 0, none⟩)] 107)).alloc (.cells #[.slice none 0 0] 22)).alloc (.cells #[.func (.func 111) #[] #[.pointer (some ⟨w.heap.size, 0, none⟩), .pointer (some ⟨w1.heap.size + 1, 0, none⟩), .pointer (some ⟨w1.heap.size, 0, none⟩), .pointer (some ⟨w1.heap.size + 1 + 1, 0, none⟩)]] 128)) w1.heap.size #[.pointer (some ⟨g, 0, none⟩)] 107 := ((Blk.new _ _ _ _ rfl).alloc _).alloc _
    have bf : Blk (((w1.alloc (.cells #[.pointer (some ⟨g, 0, none⟩)] 107)).alloc (.cells #[.slice none 0 0] 22)).alloc (.cells #[.func (.func 111) #[] #[.pointer (some ⟨w.heap.size, 0, none⟩), .pointer (some ⟨w1.heap.size + 1, 0, none⟩), .pointer (some ⟨w1.heap.size, 0, none⟩), .pointer (some ⟨w1.heap.size + 1 + 1, 0, none⟩)]] 128)) (w1.heap.size + 1) #[.slice none 0 0] 22 := (Blk.new _ _ _ _ (by simp)).alloc _
    have bl : Blk (((w1.alloc (.cells #[.pointer (some ⟨g, 0, none⟩)] 107)).alloc (.cells #[.slice none 0 0] 22)).alloc (.cells #[.func (.func 111) #[] #[.pointer (some ⟨w.heap.size, 0, none⟩), .pointer (some ⟨w1.heap.size + 1, 0, none⟩), .pointer (some ⟨w1.heap.size, 0, none⟩), .pointer (some ⟨w1.heap.size + 1 + 1, 0, none⟩)]] 128)) (w1.heap.size + 1 + 1) #[.func (.func 111) #[] #[.pointer (some ⟨w.heap.size, 0, none⟩), .pointer (some ⟨w1.heap.size + 1, 0, none⟩), .pointer (some ⟨w1.heap.size, 0, none⟩), .pointer (some ⟨w1.heap.size + 1 + 1, 0, none⟩)]] 128 := Blk.new _ _ _ _ (by simp)
    generalize (((w1.alloc (.cells #[.pointer (some ⟨g, 0, none⟩)] 107)).alloc (.cells #[.slice none 0 0] 22)).alloc (.cells #[.func (.func 111) #[] #[.pointer (some ⟨w.heap.size, 0, none⟩), .pointer (some ⟨w1.heap.size + 1, 0, none⟩), .pointer (some ⟨w1.heap.size, 0, none⟩), .pointer (some ⟨w1.heap.size + 1 + 1, 0, none⟩)]] 128)) = W0 at hb2 bw bf bl ⊢
    have hmz := (Array.getElem?_eq_some_iff.1 HW1.out.2.2.2).1
    have hKn : Known x mb 0 W0 := (known_new HW1.out.2.2.2).below hb2
    have hL0 : LcOk x [.int .i64 x.f0, .int .i64 x.f1, .int .i64 x.f2, .int .i64 x.f3, .int .i64 x.f4, .slice A5 x.f5.length c5, .slice A6 x.f6.length c6, .int .i64 x.f7.f0, .int .i64 x.f7.f1, .slice A9 x.f8.length c9, .slice A10 x.f9.length c10] (w1.heap.size + 1) w.heap.size (w1.heap.size + 1 + 1) w1.heap.size g mb w1 W0 := ⟨HW1.out.2.1.below hb2, bl, bw, ⟨_, bf⟩, MachKeep.of_below hb2, by omega, by omega, by omega, by omega, hKn.isMap⟩
    have k0 := hL0.c.cell 0 _ rfl
    have k4 := hL0.c.cell 4 _ rfl
    have HL0 := Aside0.mk (And.intro hL0 hKn)
    have HB0 := Aside0.mk (bel2 HW1.out.1 hb2)
    obtain ⟨N, hNN⟩ : ∃ N, (x.f0 + 1).toNat = N := ⟨_, rfl⟩
    have hN5 : N ≤ 5 := by omega
    have hstep := fun (m n : Nat) W (hm : m ≤ 15) (hn : n + 4 ^ N ≤ 100000) (hL : LcOk x [.int .i64 x.f0, .int .i64 x.f1, .int .i64 x.f2, .int .i64 x.f3, .int .i64 x.f4, .slice A5 x.f5.length c5, .slice A6 x.f6.length c6, .int .i64 x.f7.f0, .int .i64 x.f7.f1, .slice A9 x.f8.length c9, .slice A10 x.f9.length c10] (w1.heap.size + 1) w.heap.size (w1.heap.size + 1 + 1) w1.heap.size g mb w1 W) (hK : Known x mb n W) => least1_calls x [.int .i64 x.f0, .int .i64 x.f1, .int .i64 x.f2, .int .i64 x.f3, .int .i64 x.f4, .slice A5 x.f5.length c5, .slice A6 x.f6.length c6, .int .i64 x.f7.f0, .int .i64 x.f7.f1, .slice A9 x.f8.length c9, .slice A10 x.f9.length c10] w1 g mb (k38.K_below HW1.out.1 HX.out) HV.out ⟨_, _, HW1.out.2.2.2⟩ HW1.out.2.2.1 (w1.heap.size + 1) w.heap.size (w1.heap.size + 1 + 1) w1.heap.size N m [] none 0 n W hL hK hn (nil_int W) (fun ad h => by cases h) (by simp; omega) (fun q h => by cases h) hm
    have h4N : 4 ^ N ≤ 1024 := by
      have : N = 0 ∨ N = 1 ∨ N = 2 ∨ N = 3 ∨ N = 4 ∨ N = 5 := by omega
      rcases this with h | h | h | h | h | h <;> subst h <;> decide
    have HST := Aside0.mk hstep
    have HNN := Lib.hid hNN
    have H4N := Lib.hid h4N
    clear hstep bw bf bl hb2 hL0 hKn hlz hNN h4N
    go_step3
    go_wp2
    go_loopw [8, 26] (fun s8 s26 wr => ∃ kk : Nat, kk ≤ T + 1 ∧ s8 = .bool false ∧ s26 = .int .i64 kk ∧ Aside0 (Keep2 (w1.heap.size + 1) mb W0 wr ∧ LcOk x [.int .i64 x.f0, .int .i64 x.f1, .int .i64 x.f2, .int .i64 x.f3, .int .i64 x.f4, .slice A5 x.f5.length c5, .slice A6 x.f6.length c6, .int .i64 x.f7.f0, .int .i64 x.f7.f1, .slice A9 x.f8.length c9, .slice A10 x.f9.length c10] (w1.heap.size + 1) w.heap.size (w1.heap.size + 1 + 1) w1.heap.size g mb w1 wr ∧ Known x mb (kk * 4 ^ N) wr ∧ ∀ j, j < kk → findC x [] N j = none)) (fun _ s26 _ => T + 1 - (intOf s26).toNat)
    case atStart => exact ⟨0, Nat.zero_le _, rfl, rfl, ⟨Keep2.refl _ _ _, HL0.out.1, by simpa using HL0.out.2, fun j hj => absurd hj (Nat.not_lt_zero _)⟩⟩
    case round =>
      obtain ⟨kk, hkk, rfl, rfl, HW⟩ := hrel
      have hfin : Aside0 (Below w.heap.size w wr) := ⟨HW.out.1.below HB0.out (Nat.le_refl _) (by omega) (by omega)⟩
      by_cases hlt : kk < T + 1
      · have hltz : (kk : Int) < (T : Int) + 1 := by omega
        have kl := HW.out.2.1.l.cell 0 _ rfl
        have hcall := HST.out kk (kk * 4 ^ N) wr (by omega) (by
          have h2 : kk * 4 ^ N ≤ 16 * 1024 := Nat.mul_le_mul (by omega) H4N.out
          have h3 := H4N.out
          omega) HW.out.2.1 HW.out.2.2.1
        have HKJ := Lib.hid (show kk * 4 ^ N + 4 ^ N = (kk + 1) * 4 ^ N by rw [Nat.add_mul]; omega)
        cases hfs : findC x [] N kk with
        | some t =>
          have HSS := hcall.mono (R' := fun e W' => e = .returned (.bool true) ∧ Keep2 (w1.heap.size + 1) mb wr W' ∧ ∃ A c, Blk W' (w1.heap.size + 1) #[.slice A t.length c] 22 ∧ Kd.C (Kd.int .i64) W' A t.length t)
            (fun e W' h => by
              rcases h.2.2 with ⟨h1, t', ht, hr⟩ | ⟨_, ht, _⟩
              · rw [hfs] at ht; cases ht; exact ⟨h1, h.1, hr⟩
              · rw [hfs] at ht; cases ht)
          have HFS := Lib.hid hfs
          clear hfs hcall
          go_wp2_with (go_at_call 111; refine HSS.mono ?_; clear HSS; rintro e w6 ⟨rfl, hmk6, A7, c7, hb7, hc7⟩; have kf := hb7.cell 0 _ rfl; have H6 := Aside0.mk (And.intro hmk6 hc7); clear hmk6 hc7 hb7)
          refine bodyPost_ret (results_tmp2 rfl _ _ _) rfl ⟨A7, c7, ?_, ?_, ?_⟩
          · rw [leastF_hit (m := kk) HE.out (by rw [HTT.out]; omega) (by rw [HNN.out]; exact HFS.out) (by rw [HNN.out]; exact HW.out.2.2.2)]; rfl
          · rw [leastF_hit (m := kk) HE.out (by rw [HTT.out]; omega) (by rw [HNN.out]; exact HFS.out) (by rw [HNN.out]; exact HW.out.2.2.2)]; exact H6.out.2
          · exact H6.out.1.below hfin.out (Nat.le_refl _) (by omega) (by omega)
        | none =>
          have HSS := hcall.mono (R' := fun e W' => e = .returned (.bool false) ∧ Keep2 (w1.heap.size + 1) mb wr W' ∧ Known x mb ((kk + 1) * 4 ^ N) W' ∧ ∃ v, Blk W' (w1.heap.size + 1) #[v] 22)
            (fun e W' h => by
              rcases h.2.2 with ⟨h1, t', ht, hr⟩ | ⟨h1, ht, hr⟩
              · rw [hfs] at ht; cases ht
              · exact ⟨h1, h.1, by rw [← HKJ.out]; exact h.2.1, hr⟩)
          have HFS := Lib.hid hfs
          clear hfs hcall
          go_wp2_with (go_at_call 111; refine HSS.mono ?_; clear HSS; rintro e w6 ⟨rfl, hmk6, hk6, hb6⟩; have H6 := Aside0.mk (And.intro hmk6 (And.intro hk6 hb6)); clear hmk6 hb6 hk6)
          go_roundw
          case rel =>
            refine ⟨kk + 1, by omega, rfl, by go_num, ⟨HW.out.1.trans H6.out.1, HW.out.2.1.keep H6.out.1 H6.out.2.2 H6.out.2.1.isMap, H6.out.2.1, fun j hj => ?_⟩⟩
            rcases Nat.lt_succ_iff_lt_or_eq.1 hj with h | h
            · exact HW.out.2.2.2 j h
            · subst h; exact HFS.out
          case measure => simp [intOf]; omega
      · have hltz : ¬ (kk : Int) < (T : Int) + 1 := by omega
        go_wp2
        refine bodyPost_ret (results_tmp2 rfl _ _ _) rfl ⟨none, 0, ?_, ?_, hfin.out⟩
        · rw [leastF_miss HE.out (fun j hj => by rw [HNN.out]; exact HW.out.2.2.2 j (by rw [HTT.out] at hj; omega))]; rfl
        · rw [leastF_miss HE.out (fun j hj => by rw [HNN.out]; exact HW.out.2.2.2 j (by rw [HTT.out] at hj; omega))]; exact nil_int _
  · have HF := Lib.hid (leastF_bad hE)
    have hask := hbad hE
    have hE2 : (askE x true == 0) = false := by simpa using hE
    clear hgood hbad hE
    generalize askE x true = ec at *
    go_enter Try.func63, Try.ntmps63
    go_wp2
    go_step3
    go_wp2_with (go_at_call 77; refine hask.mono ?_; clear hask; rintro e w1 ⟨rfl, hb1⟩; have H1 := Aside0.mk hb1; clear hb1)
    refine bodyPost_ret (results_tmp2 rfl _ _ _) rfl ⟨none, 0, ?_, ?_, ?_⟩
    · rw [HF.out]; rfl
    · rw [HF.out]; exact nil_int _
    · exact below_alloc H1.out _
end Go.Proofs.Ytdgkhoflajdidaa
/- same: are two lists equal. list: a copy. -/
namespace Go.Proofs.Ytdgkhoflajdidaa
open Go.RowKit Go.Proofs.YtdgkhoflajdidaaW.PrintWords Go.Proofs.YtdgkhoflajdidaaW.PrintMore Go.Proofs.YtdgkhoflajdidaaW.PrintLast Go.Proofs.Ytdgkhoflajdidaa.Print
set_option linter.unusedVariables false
set_option linter.unusedSimpArgs false
theorem take_eq_ne {l m : List Int} {k : Nat} (hl : k < l.length) (hm : k < m.length) (h : l[k] ≠ m[k]) : l ≠ m := by
  rintro rfl
  exact h rfl
theorem same_calls (A B : Option Addr) (c d : Nat) (l m : List Int) (w : World) (hl : Kd.C (Kd.int .i64) w A l.length l) (hm : Kd.C (Kd.int .i64) w B m.length m) :
    Calls Try.prog 38 #[.slice A l.length c, .slice B m.length d] w fun e w' => e = .returned (.bool (decide (l = m))) ∧ Below w.heap.size w w' := by
  have HL := Aside0.mk hl
  have HM := Aside0.mk hm
  have hn := hl.2.1
  clear hl hm
  by_cases he : l.length = m.length
  · have hez : (l.length : Int) = (m.length : Int) := by omega
    have HE := Lib.hid he
    go_enter Try.func38, Try.ntmps38
    go_wp2
    go_loopw [5] (fun s5 wr => ∃ k : Nat, k ≤ l.length ∧ s5 = .int .i64 k ∧ Aside0 (Below w.heap.size w wr ∧ l.take k = m.take k)) (fun s5 _ => l.length - (intOf s5).toNat)
    case atStart => exact ⟨0, Nat.zero_le _, rfl, ⟨Below.refl _ _, rfl⟩⟩
    case round =>
      obtain ⟨k, hk, rfl, HW⟩ := hrel
      by_cases hlt : k < l.length
      · have hlt2 : k < m.length := by have := HE.out; omega
        obtain ⟨aA, rfl, hcA⟩ := row_at_int (Kd.C_below HL.out HW.out.1) k hlt
        obtain ⟨aB, rfl, hcB⟩ := row_at_int (Kd.C_below HM.out HW.out.1) k hlt2
        by_cases hq : l[k] = m[k]
        · have hqb : (l[k] == m[k]) = true := by simpa using hq
          have HQ : Aside0 (l.take (k + 1) = m.take (k + 1)) := ⟨by rw [List.take_succ_eq_append_getElem hlt, List.take_succ_eq_append_getElem hlt2, HW.out.2, hq]⟩
          go_wp2
          go_quiet (fail)
          go_wp2
          go_roundw
          case rel => exact ⟨k + 1, hlt, by go_num, ⟨pw_below_drewN HW.out.1 _, HQ.out⟩⟩
          case measure => simp [intOf]; omega
        · have hqb : (l[k] == m[k]) = false := by simpa using hq
          have HNE := Lib.hid (show decide (l = m) = false from decide_eq_false (take_eq_ne hlt hlt2 hq))
          go_wp2
          go_quiet (fail)
          go_wp2
          go_ret
          exact ⟨ret_bool HNE.out.symm, pw_below_drewN HW.out.1 _⟩
      · have HEQ := Lib.hid (show decide (l = m) = true from decide_eq_true (by
          have h1 := HW.out.2
          have h2 := HE.out
          rwa [List.take_of_length_le (by omega), List.take_of_length_le (by omega)] at h1))
        go_wp2
        go_ret
        exact ⟨ret_bool HEQ.out.symm, HW.out.1⟩
  · have hez : ¬ (l.length : Int) = (m.length : Int) := by omega
    have HNE := Lib.hid (show decide (l = m) = false from decide_eq_false (fun h => he (by rw [h])))
    go_enter Try.func38, Try.ntmps38
    go_wp2
    go_ret
    exact ⟨ret_bool HNE.out.symm, Below.refl _ _⟩
theorem list_calls (A : Option Addr) (c : Nat) (l : List Int) (w : World) (hl : Kd.C (Kd.int .i64) w A l.length l) (h30 : l.length ≤ 1000) :
    Calls Try.prog 27 #[.slice A l.length c] w fun e w' => ∃ v, e = .returned v ∧ w'.ownsRow w.heap.size 3 1 v l.length (nums .i64 l) ∧ Below w.heap.size w w' := by
  have HR := Aside0.mk hl
  clear hl
  go_enter Try.func27, Try.ntmps27
  have hRI := Aside0.mk (ReadsInt.below (readsInt_of HR.out) (below_alloc (Below.refl _ w) (.cells #[] 3)))
  have hown : Aside0 ((w.alloc (.cells #[] 3)).ownsRow w.heap.size 3 1 (.slice (some ⟨w.heap.size, 0, none⟩) 0 0) ([] : List Int).length (nums .i64 [])) := ⟨own_lit w w.heap.size 3 .i64 [] (Nat.le_refl _) (by simp)⟩
  go_wp2_with (at_builtin; refine print_append_row (w0 := w) w.heap.size rfl (.tmp 3) (.tmp 4) 22 3 .i64 8 rfl Try.underlying22 info3 (by decide) _ [] l A l.length c rfl rfl hown.out hRI.out (below_alloc (Below.refl _ _) _) (by simp) (by simp; omega) ?_; intro v1 w1 ho1 hb1 hg1 hat)
  go_ret
  exact ⟨_, rfl, by simpa using ho1, hb1⟩
end Go.Proofs.Ytdgkhoflajdidaa
/- The reference's small functions. -/
namespace Go.Proofs.Ytdgkhoflajdidaa
open Go.RowKit Go.Proofs.YtdgkhoflajdidaaW.PrintWords Go.Proofs.YtdgkhoflajdidaaW.PrintMore Go.Proofs.YtdgkhoflajdidaaW.PrintLast Go.Proofs.Ytdgkhoflajdidaa.Print
set_option linter.unusedVariables false
set_option linter.unusedSimpArgs false
set_option maxRecDepth 100000
set_option maxHeartbeats 4000000
theorem rIn_calls (n lo hi : Int) (w : World) : Calls Try.prog 31 #[.int .i64 n, .int .i64 lo, .int .i64 hi] w fun e w' => e = .returned (.bool (inR n lo hi)) ∧ w = w' := by
  by_cases h1 : lo ≤ n <;> by_cases h2 : n ≤ hi
  all_goals
    go_enter Try.func31, Try.ntmps31
    go_wp2
    go_ret
    exact ⟨ret_bool (by simp [inR]; omega), rfl⟩
theorem rIs_calls (n : Int) (r : S35) (w : World) : Calls Try.prog 110 #[.int .i64 n, .agg #[.int .i64 r.f0, .int .i64 r.f1]] w fun e w' => e = .returned (.bool (inR n r.f0 r.f1)) ∧ Below w.heap.size w w' := by
  have hu := Try.underlying24
  go_enter Try.func110, Try.ntmps110
  go_wp2_with (go_at_call 31; refine (rIn_calls _ _ _ _).mono ?_; rintro e w' ⟨rfl, rfl⟩)
  go_ret
  exact ⟨rfl, below_alloc (Below.refl _ _) _⟩
theorem rInside_calls (r : S35) (m : Int) (w : World) : Calls Try.prog 122 #[.agg #[.int .i64 r.f0, .int .i64 r.f1], .int .i64 m] w fun e w' => e = .returned (.bool (inside r m)) ∧ Below w.heap.size w w' := by
  obtain ⟨lo, hi⟩ := r
  have hu := Try.underlying24
  by_cases h1 : 0 ≤ lo <;> by_cases h2 : lo ≤ hi <;> by_cases h3 : hi ≤ m
  all_goals
    go_enter Try.func122, Try.ntmps122
    go_wp2
    go_ret
    exact ⟨ret_bool (by simp [inside]; omega), below_alloc (Below.refl _ _) _⟩
theorem rSize_calls (r : S35) (w : World) (h0 : 0 ≤ r.f0) (h1 : r.f0 ≤ r.f1) (h2 : r.f1 ≤ 99) : Calls Try.prog 95 #[.agg #[.int .i64 r.f0, .int .i64 r.f1]] w fun e w' => e = .returned (.int .i64 (r.f1 - r.f0 + 1)) ∧ Below w.heap.size w w' := by
  have hu := Try.underlying24
  go_enter Try.func95, Try.ntmps95
  go_wp2
  go_ret
  exact ⟨rfl, below_alloc (Below.refl _ _) _⟩
def verd (yes many : Int) : Int := if yes = many then 1 else if yes = 0 then 2 else 3
theorem rVerdict_calls (y m : Int) (w : World) : Calls Try.prog 88 #[.int .i64 y, .int .i64 m] w fun e w' => e = .returned (.int .i64 (verd y m)) ∧ w = w' := by
  by_cases h1 : y = m
  · have HX := Lib.hid (show verd y m = 1 by unfold verd; exact if_pos h1)
    have h2 : (y == m) = true := by simpa using h1
    go_enter Try.func88, Try.ntmps88
    go_wp2
    go_ret
    exact ⟨ret_int HX.out.symm, rfl⟩
  · have h2 : (y == m) = false := by simpa using h1
    by_cases h3 : y = 0
    · have HX := Lib.hid (show verd y m = 2 by unfold verd; rw [if_neg h1, if_pos h3])
      have h4 : (y == 0) = true := by simpa using h3
      go_enter Try.func88, Try.ntmps88
      go_wp2
      go_ret
      exact ⟨ret_int HX.out.symm, rfl⟩
    · have HX := Lib.hid (show verd y m = 3 by unfold verd; rw [if_neg h1, if_neg h3])
      have h4 : (y == 0) = false := by simpa using h3
      go_enter Try.func88, Try.ntmps88
      go_wp2
      go_ret
      exact ⟨ret_int HX.out.symm, rfl⟩
theorem to_calls (r : S35) (w : World) : Calls Try.prog 25 #[.agg #[.int .i64 r.f0, .int .i64 r.f1]] w fun e w' => e = .returned (.agg #[.int .i64 r.f0, .int .i64 r.f1]) ∧ Below w.heap.size w w' := by
  have hu := Try.underlying24
  have hu2 := Try.underlying35
  go_enter Try.func25, Try.ntmps25
  go_wp2
  refine bodyPost_ret (v := .agg #[.int .i64 r.f0, .int .i64 r.f1]) (by simp [results, Try.results25, go_sem, hu2]) rfl ⟨rfl, ?_⟩
  repeat (first | exact Below.refl _ _ | apply below_alloc | apply below_drew)
/-- Lists of at most 30 elements. -/
def thinB (x : S38) : Bool := decide (x.f5.length ≤ 30) && (decide (x.f6.length ≤ 30) && (decide (x.f8.length ≤ 30) && decide (x.f9.length ≤ 30)))
theorem thin_calls (x : S38) (cs : List Value) (w : World) (hx : k38.K w x cs) : Calls Try.prog 19 #[.agg cs.toArray] w fun e w' => e = .returned (.bool (thinB x)) ∧ Below w.heap.size w w' := by
  obtain ⟨A5, c5, A6, c6, A9, c9, A10, c10, rfl, _⟩ := k38_open hx
  clear hx
  have hu := Try.underlying28
  by_cases h1 : (x.f5.length : Int) ≤ 30 <;> by_cases h2 : (x.f6.length : Int) ≤ 30 <;> by_cases h3 : (x.f8.length : Int) ≤ 30 <;> by_cases h4 : (x.f9.length : Int) ≤ 30
  all_goals
    go_enter Try.func19, Try.ntmps19
    go_wp2
    go_ret
    exact ⟨ret_bool (by simp [thinB]; omega), below_alloc (Below.refl _ _) _⟩
/-- One number for each hour, from 0 to m. -/
theorem each_calls (x : S38) (cs : List Value) (A : Option Addr) (c : Nat) (l : List Int) (m : Int) (w : World) (hx : k38.K w x cs) (hl : Kd.C (Kd.int .i64) w A l.length l) :
    Calls Try.prog 30 #[.agg cs.toArray, .slice A l.length c, .int .i64 m] w fun e w' => e = .returned (.bool (forHours x.f0 l m)) ∧ Below w.heap.size w w' := by
  obtain ⟨A5, c5, A6, c6, A9, c9, A10, c10, rfl, _⟩ := k38_open hx
  clear hx
  have HL := Aside0.mk hl
  have hn := hl.2.1
  clear hl
  have hu := Try.underlying28
  by_cases he : (l.length : Int) = wrap64 (x.f0 + 1)
  · have he2 : ((l.length : Int) == wrap64 (x.f0 + 1)) = true := by simpa using he
    have HF := Lib.hid (show forHours x.f0 l m = l.all (fun n => inR n 0 m) by unfold forHours; rw [he2, Bool.true_and])
    have hws := he.symm
    have HB0 := Aside0.mk (below_alloc (Below.refl w.heap.size w) (.cells #[.int .i64 x.f0, .int .i64 x.f1, .int .i64 x.f2, .int .i64 x.f3, .int .i64 x.f4, .slice A5 x.f5.length c5, .slice A6 x.f6.length c6, .int .i64 x.f7.f0, .int .i64 x.f7.f1, .slice A9 x.f8.length c9, .slice A10 x.f9.length c10] 28))
    clear he he2
    go_enter Try.func30, Try.ntmps30
    go_wp2
    clear hws
    generalize (w.alloc (.cells #[.int .i64 x.f0, .int .i64 x.f1, .int .i64 x.f2, .int .i64 x.f3, .int .i64 x.f4, .slice A5 x.f5.length c5, .slice A6 x.f6.length c6, .int .i64 x.f7.f0, .int .i64 x.f7.f1, .slice A9 x.f8.length c9, .slice A10 x.f9.length c10] 28)) = w0 at *
    go_loopw [7] (fun s7 wr => ∃ k : Nat, k ≤ l.length ∧ s7 = .int .i64 k ∧ Aside0 (Below w.heap.size w wr ∧ (l.take k).all (fun n => inR n 0 m) = true)) (fun s7 _ => l.length - (intOf s7).toNat)
    case atStart => exact ⟨0, Nat.zero_le _, rfl, ⟨HB0.out, rfl⟩⟩
    case round =>
      obtain ⟨k, hk, rfl, HA⟩ := hrel
      by_cases hlt : k < l.length
      · obtain ⟨aA, rfl, hcA⟩ := row_at_int (Kd.C_below HL.out HA.out.1) k hlt
        have hin := fun W => rIn_calls l[k] 0 m W
        cases hq : inR l[k] 0 m with
        | true =>
          rw [hq] at hin
          have HA2 := Aside0.mk (show (l.take (k + 1)).all (fun n => inR n 0 m) = true by rw [List.take_succ_eq_append_getElem hlt, List.all_append, HA.out.2, List.all_cons, hq]; rfl)
          clear hq
          go_wp2_with (go_at_call 31; refine (hin _).mono ?_; rintro e w' ⟨rfl, rfl⟩)
          go_roundw
          case rel => exact ⟨k + 1, hlt, by go_num, ⟨HA.out.1, HA2.out⟩⟩
          case measure => simp [intOf]; omega
        | false =>
          rw [hq] at hin
          have HN := Lib.hid (show l.all (fun n => inR n 0 m) = false from List.all_eq_false.2 ⟨l[k], List.getElem_mem hlt, by simp [hq]⟩)
          clear hq
          go_wp2_with (go_at_call 31; refine (hin _).mono ?_; rintro e w' ⟨rfl, rfl⟩)
          go_ret
          exact ⟨ret_bool (by rw [HF.out, HN.out]), HA.out.1⟩
      · have HN := Lib.hid (show l.all (fun n => inR n 0 m) = true by have := HA.out.2; rwa [List.take_of_length_le (by omega)] at this)
        go_wp2
        go_ret
        exact ⟨ret_bool (by rw [HF.out, HN.out]), HA.out.1⟩
  · have he2 : ((l.length : Int) == wrap64 (x.f0 + 1)) = false := by simpa using he
    have HF := Lib.hid (show forHours x.f0 l m = false by unfold forHours; rw [he2, Bool.false_and])
    go_enter Try.func30, Try.ntmps30
    go_wp2
    go_ret
    exact ⟨ret_bool HF.out.symm, below_alloc (Below.refl _ _) _⟩
end Go.Proofs.Ytdgkhoflajdidaa
