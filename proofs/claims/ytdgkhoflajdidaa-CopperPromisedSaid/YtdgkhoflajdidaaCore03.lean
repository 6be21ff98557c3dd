/- Lemmas for the laws' proofs: X0, Ba, Ca, Cb, Cc, Cd, Ce. -/
import Derived.Test.YtdgkhoflajdidaaProg
import Derived.Below
import Derived.Deep.Draws
import Derived.Deep.AppendLies
import Derived.Maps.AppendAt
import Derived.OwnWalk
import Derived.Laws.BytesArg
import Derived.Laws.MakeOwn
import Derived.Laws.OwnMore
import Derived.Deep.OwnRows
import Derived.Tactics
import Derived.Lib.ConvBytes
import Derived.Laws.Slices
import Derived.WalkKit
import Derived.KernelRfl
import Derived.RowKit3
import Derived.Deep.LoopGhost
import Derived.Deep.QuietTactic
import Derived.BigQuiet
import Derived.WideLaws
import Derived.Deep.DeepCutAuto
import Derived.Deep.CutBlock
import Derived.Deep.RegionHeld3
import Derived.Laws.Rows
import Derived.Lib.AppendStr
import Derived.ArgAppend
import Derived.Laws.IdiomCopy
import Derived.OrdersHeld
import Derived.Laws.BitsLemmas
import Derived.RowKit
import Derived.Test.YtdgkhoflajdidaaCore01
import Derived.Laws.StructEq
import Derived.Test.YtdgkhoflajdidaaCore02
import Derived.WalkSpells
import Derived.WalkLawsBesides
import Derived.Lib.Hide
import Derived.IntWalk
import Derived.Outline
import Derived.Deep.RegionWith
import Derived.Shelf.Abstract
namespace Go.Proofs.Ytdgkhoflajdidaa.Print
open Go.RowKit Go.Proofs.YtdgkhoflajdidaaW.PrintWords Go.Proofs.YtdgkhoflajdidaaW.PrintLast Go.Proofs.YtdgkhoflajdidaaW.PrintMore
attribute [local go_sem] max2_int min2_int max_two min_two max_three min_three max_four min_four   -- for this text's walks alone
def bs (n v : Nat) : Array Bool := ((List.range n).map fun i => v.testBit i).toArray
set_option linter.unusedVariables false
set_option linter.unusedSimpArgs false
theorem info3 : (Try.prog.info? 3).map (fun i => (i.zero, i.size, i.bytes)) = some (some (.int .i64 0), 1, 8) := by kernel_rfl
theorem info35 : (Try.prog.info? 35).map (fun i => (i.zero, i.size, i.bytes)) = some (some (.agg #[(.int .i64 0), (.int .i64 0)]), 2, 16) := by kernel_rfl
theorem info66 : (Try.prog.info? 66).map (fun i => (i.zero, i.size, i.bytes)) = some (some (.agg #[(.int .i64 0), (.slice none 0 0)]), 2, 32) := by kernel_rfl
theorem info96 : (Try.prog.info? 96).map (fun i => (i.zero, i.size, i.bytes)) = some (some (.agg #[(.int .i64 0), (.int .i64 0), (.int .i64 0)]), 3, 24) := by kernel_rfl
theorem info119 : (Try.prog.info? 119).map (fun i => (i.zero, i.size, i.bytes)) = some (some (.agg #[(.int .i64 0), (.int .i64 0), (.int .i64 0)]), 3, 24) := by kernel_rfl
structure S35 where
 f0 : Int
 f1 : Int
def z35 : S35 := ⟨(0 : Int), (0 : Int)⟩
def k35 : Kd S35 := Kd.iso (Kd.pair (Kd.int .i64) (Kd.int .i64)) (fun x : S35 => (x.f0, x.f1))
theorem k35_open {w : World} {x : S35} {cs : List Value} (h : k35.K w x cs) : cs = [.int .i64 x.f0, .int .i64 x.f1] := by
 obtain ⟨_, _, rfl, rfl, rfl⟩ := h
 exact rfl
theorem k35_mk (w : World) (x : S35)  : k35.K w x [.int .i64 x.f0, .int .i64 x.f1] := ⟨[.int .i64 x.f0], [.int .i64 x.f1], rfl, rfl, rfl⟩
def rd_T35 (xs : List S35) (i : Int) : S35 := xs.getD i.toNat z35
theorem at_T35 {w : World} {A : Option Addr} {n : Nat} {xs : List S35} (h : Kd.C k35 w A n xs) (i : Int) (h0 : 0 ≤ i) (h1 : i < n) : ∃ ad , A = some ad ∧ w.cell? (ad.add (i.toNat * 2)) = some (.int .i64 (rd_T35 xs i).f0) ∧ w.cell? ⟨(ad.add (i.toNat * 2)).block, (ad.add (i.toNat * 2)).off + 1, none⟩ = some (.int .i64 (rd_T35 xs i).f1) := by
 obtain ⟨ad, c, e, _, hK, hc0⟩ := Kd.C_get h z35 i h0 h1
 have hc : ∀ j u, c[j]? = some u → w.cell? (ad.add (i.toNat * 2 + j)) = some u := hc0
 obtain rfl := k35_open hK
 exact ⟨ad, e, hc 0 _ rfl, by rw [← add_field _ _ 1 (by omega)]; exact hc 1 _ rfl⟩
structure S119 where
 f0 : Int
 f1 : S35
def z119 : S119 := ⟨(0 : Int), z35⟩
def k119 : Kd S119 := Kd.iso (Kd.pair (Kd.int .i64) k35) (fun x : S119 => (x.f0, x.f1))
theorem k119_open {w : World} {x : S119} {cs : List Value} (h : k119.K w x cs) : cs = [.int .i64 x.f0, .int .i64 x.f1.f0, .int .i64 x.f1.f1] := by
 obtain ⟨_, _, rfl, rfl, s1⟩ := h
 obtain rfl := k35_open s1
 exact rfl
theorem k119_mk (w : World) (x : S119)  : k119.K w x [.int .i64 x.f0, .int .i64 x.f1.f0, .int .i64 x.f1.f1] := ⟨[.int .i64 x.f0], [.int .i64 x.f1.f0, .int .i64 x.f1.f1], rfl, rfl, (k35_mk w x.f1 )⟩
def rd_T119 (xs : List S119) (i : Int) : S119 := xs.getD i.toNat z119
theorem at_T119 {w : World} {A : Option Addr} {n : Nat} {xs : List S119} (h : Kd.C k119 w A n xs) (i : Int) (h0 : 0 ≤ i) (h1 : i < n) : ∃ ad , A = some ad ∧ w.cell? (ad.add (i.toNat * 3)) = some (.int .i64 (rd_T119 xs i).f0) ∧ w.cell? ⟨(ad.add (i.toNat * 3)).block, (ad.add (i.toNat * 3)).off + 1, none⟩ = some (.int .i64 (rd_T119 xs i).f1.f0) ∧ w.cell? ⟨(ad.add (i.toNat * 3)).block, (ad.add (i.toNat * 3)).off + 2, none⟩ = some (.int .i64 (rd_T119 xs i).f1.f1) := by
 obtain ⟨ad, c, e, _, hK, hc0⟩ := Kd.C_get h z119 i h0 h1
 have hc : ∀ j u, c[j]? = some u → w.cell? (ad.add (i.toNat * 3 + j)) = some u := hc0
 obtain rfl := k119_open hK
 exact ⟨ad, e, hc 0 _ rfl, by rw [← add_field _ _ 1 (by omega)]; exact hc 1 _ rfl, by rw [← add_field _ _ 2 (by omega)]; exact hc 2 _ rfl⟩
structure S38 where
 f0 : Int
 f1 : Int
 f2 : Int
 f3 : Int
 f4 : Int
 f5 : (List Int)
 f6 : (List Int)
 f7 : S35
 f8 : (List S35)
 f9 : (List S119)
def k38 : Kd S38 := Kd.iso (Kd.pair (Kd.int .i64) (Kd.pair (Kd.int .i64) (Kd.pair (Kd.int .i64) (Kd.pair (Kd.int .i64) (Kd.pair (Kd.int .i64) (Kd.pair (Kd.slice 3 (Kd.int .i64)) (Kd.pair (Kd.slice 3 (Kd.int .i64)) (Kd.pair k35 (Kd.pair (Kd.slice 35 k35) (Kd.slice 119 k119)))))))))) (fun x : S38 => (x.f0, x.f1, x.f2, x.f3, x.f4, x.f5, x.f6, x.f7, x.f8, x.f9))
theorem k38_open {w : World} {x : S38} {cs : List Value} (h : k38.K w x cs) : ∃ A5 c5 A6 c6 A9 c9 A10 c10, cs = [.int .i64 x.f0, .int .i64 x.f1, .int .i64 x.f2, .int .i64 x.f3, .int .i64 x.f4, .slice A5 x.f5.length c5, .slice A6 x.f6.length c6, .int .i64 x.f7.f0, .int .i64 x.f7.f1, .slice A9 x.f8.length c9, .slice A10 x.f9.length c10] ∧ x.f5.length ≤ c5 ∧ (Kd.int .i64).C w A5 x.f5.length x.f5 ∧ x.f6.length ≤ c6 ∧ (Kd.int .i64).C w A6 x.f6.length x.f6 ∧ x.f8.length ≤ c9 ∧ k35.C w A9 x.f8.length x.f8 ∧ x.f9.length ≤ c10 ∧ k119.C w A10 x.f9.length x.f9 := by
 obtain ⟨_, _, rfl, rfl, ⟨_, _, rfl, rfl, ⟨_, _, rfl, rfl, ⟨_, _, rfl, rfl, ⟨_, _, rfl, rfl, ⟨_, _, rfl, ⟨A5, c5, rfl, l5, g5⟩, ⟨_, _, rfl, ⟨A6, c6, rfl, l6, g6⟩, ⟨_, _, rfl, s7, ⟨_, _, rfl, ⟨A9, c9, rfl, l9, g9⟩, ⟨A10, c10, rfl, l10, g10⟩⟩⟩⟩⟩⟩⟩⟩⟩⟩ := h
 obtain rfl := k35_open s7
 exact ⟨A5, c5, A6, c6, A9, c9, A10, c10, rfl, l5, g5, l6, g6, l9, g9, l10, g10⟩
theorem k38_mk (w : World) (x : S38) {A5 : Option Addr} {c5 : Nat} (l5 : x.f5.length ≤ c5) (g5 : (Kd.int .i64).C w A5 x.f5.length x.f5) {A6 : Option Addr} {c6 : Nat} (l6 : x.f6.length ≤ c6) (g6 : (Kd.int .i64).C w A6 x.f6.length x.f6) {A9 : Option Addr} {c9 : Nat} (l9 : x.f8.length ≤ c9) (g9 : k35.C w A9 x.f8.length x.f8) {A10 : Option Addr} {c10 : Nat} (l10 : x.f9.length ≤ c10) (g10 : k119.C w A10 x.f9.length x.f9) : k38.K w x [.int .i64 x.f0, .int .i64 x.f1, .int .i64 x.f2, .int .i64 x.f3, .int .i64 x.f4, .slice A5 x.f5.length c5, .slice A6 x.f6.length c6, .int .i64 x.f7.f0, .int .i64 x.f7.f1, .slice A9 x.f8.length c9, .slice A10 x.f9.length c10] := ⟨[.int .i64 x.f0], [.int .i64 x.f1, .int .i64 x.f2, .int .i64 x.f3, .int .i64 x.f4, .slice A5 x.f5.length c5, .slice A6 x.f6.length c6, .int .i64 x.f7.f0, .int .i64 x.f7.f1, .slice A9 x.f8.length c9, .slice A10 x.f9.length c10], rfl, rfl, ⟨[.int .i64 x.f1], [.int .i64 x.f2, .int .i64 x.f3, .int .i64 x.f4, .slice A5 x.f5.length c5, .slice A6 x.f6.length c6, .int .i64 x.f7.f0, .int .i64 x.f7.f1, .slice A9 x.f8.length c9, .slice A10 x.f9.length c10], rfl, rfl, ⟨[.int .i64 x.f2], [.int .i64 x.f3, .int .i64 x.f4, .slice A5 x.f5.length c5, .slice A6 x.f6.length c6, .int .i64 x.f7.f0, .int .i64 x.f7.f1, .slice A9 x.f8.length c9, .slice A10 x.f9.length c10], rfl, rfl, ⟨[.int .i64 x.f3], [.int .i64 x.f4, .slice A5 x.f5.length c5, .slice A6 x.f6.length c6, .int .i64 x.f7.f0, .int .i64 x.f7.f1, .slice A9 x.f8.length c9, .slice A10 x.f9.length c10], rfl, rfl, ⟨[.int .i64 x.f4], [.slice A5 x.f5.length c5, .slice A6 x.f6.length c6, .int .i64 x.f7.f0, .int .i64 x.f7.f1, .slice A9 x.f8.length c9, .slice A10 x.f9.length c10], rfl, rfl, ⟨[.slice A5 x.f5.length c5], [.slice A6 x.f6.length c6, .int .i64 x.f7.f0, .int .i64 x.f7.f1, .slice A9 x.f8.length c9, .slice A10 x.f9.length c10], rfl, ⟨A5, c5, rfl, l5, g5⟩, ⟨[.slice A6 x.f6.length c6], [.int .i64 x.f7.f0, .int .i64 x.f7.f1, .slice A9 x.f8.length c9, .slice A10 x.f9.length c10], rfl, ⟨A6, c6, rfl, l6, g6⟩, ⟨[.int .i64 x.f7.f0, .int .i64 x.f7.f1], [.slice A9 x.f8.length c9, .slice A10 x.f9.length c10], rfl, (k35_mk w x.f7 ), ⟨[.slice A9 x.f8.length c9], [.slice A10 x.f9.length c10], rfl, ⟨A9, c9, rfl, l9, g9⟩, ⟨A10, c10, rfl, l10, g10⟩⟩⟩⟩⟩⟩⟩⟩⟩⟩
structure S75 where
 f0 : Int
 f1 : (List Int)
def z75 : S75 := ⟨(0 : Int), ([] : List Int)⟩
def k75 : Kd S75 := Kd.iso (Kd.pair (Kd.int .i64) (Kd.slice 3 (Kd.int .i64))) (fun x : S75 => (x.f0, x.f1))
theorem k75_open {w : World} {x : S75} {cs : List Value} (h : k75.K w x cs) : ∃ A1 c1, cs = [.int .i64 x.f0, .slice A1 x.f1.length c1] ∧ x.f1.length ≤ c1 ∧ (Kd.int .i64).C w A1 x.f1.length x.f1 := by
 obtain ⟨_, _, rfl, rfl, ⟨A1, c1, rfl, l1, g1⟩⟩ := h
 exact ⟨A1, c1, rfl, l1, g1⟩
theorem k75_mk (w : World) (x : S75) {A1 : Option Addr} {c1 : Nat} (l1 : x.f1.length ≤ c1) (g1 : (Kd.int .i64).C w A1 x.f1.length x.f1) : k75.K w x [.int .i64 x.f0, .slice A1 x.f1.length c1] := ⟨[.int .i64 x.f0], [.slice A1 x.f1.length c1], rfl, rfl, ⟨A1, c1, rfl, l1, g1⟩⟩
def rd_T75 (xs : List S75) (i : Int) : S75 := xs.getD i.toNat z75
theorem at_T75 {w : World} {A : Option Addr} {n : Nat} {xs : List S75} (h : Kd.C k75 w A n xs) (i : Int) (h0 : 0 ≤ i) (h1 : i < n) : ∃ ad A1 c1, A = some ad ∧ w.cell? (ad.add (i.toNat * 2)) = some (.int .i64 (rd_T75 xs i).f0) ∧ w.cell? ⟨(ad.add (i.toNat * 2)).block, (ad.add (i.toNat * 2)).off + 1, none⟩ = some (.slice A1 (rd_T75 xs i).f1.length c1) ∧ (rd_T75 xs i).f1.length ≤ c1 ∧ (Kd.int .i64).C w A1 (rd_T75 xs i).f1.length (rd_T75 xs i).f1 := by
 obtain ⟨ad, c, e, _, hK, hc0⟩ := Kd.C_get h z75 i h0 h1
 have hc : ∀ j u, c[j]? = some u → w.cell? (ad.add (i.toNat * 2 + j)) = some u := hc0
 obtain ⟨A1, c1, rfl, l1, g1⟩ := k75_open hK
 exact ⟨ad, A1, c1, e, hc 0 _ rfl, by rw [← add_field _ _ 1 (by omega)]; exact hc 1 _ rfl, l1, g1⟩
structure S24 where
 f0 : Int
 f1 : Int
structure S96 where
 f0 : Int
 f1 : S24
structure S28 where
 f0 : Int
 f1 : Int
 f2 : Int
 f3 : Int
 f4 : Int
 f5 : (List Int)
 f6 : (List Int)
 f7 : S24
 f8 : (List S24)
 f9 : (List S96)
structure S66 where
 f0 : Int
 f1 : (List Int)
structure S114 where
 f0 : (List Int)
 f1 : (List Int)
 f2 : (List Bool)
def k114 : Kd S114 := Kd.iso (Kd.pair (Kd.slice 3 (Kd.int .i64)) (Kd.pair (Kd.slice 3 (Kd.int .i64)) (Kd.slice 4 Kd.bool))) (fun x : S114 => (x.f0, x.f1, x.f2))
theorem k114_open {w : World} {x : S114} {cs : List Value} (h : k114.K w x cs) : ∃ A0 c0 A1 c1 A2 c2, cs = [.slice A0 x.f0.length c0, .slice A1 x.f1.length c1, .slice A2 x.f2.length c2] ∧ x.f0.length ≤ c0 ∧ (Kd.int .i64).C w A0 x.f0.length x.f0 ∧ x.f1.length ≤ c1 ∧ (Kd.int .i64).C w A1 x.f1.length x.f1 ∧ x.f2.length ≤ c2 ∧ Kd.bool.C w A2 x.f2.length x.f2 := by
 obtain ⟨_, _, rfl, ⟨A0, c0, rfl, l0, g0⟩, ⟨_, _, rfl, ⟨A1, c1, rfl, l1, g1⟩, ⟨A2, c2, rfl, l2, g2⟩⟩⟩ := h
 exact ⟨A0, c0, A1, c1, A2, c2, rfl, l0, g0, l1, g1, l2, g2⟩
theorem k114_mk (w : World) (x : S114) {A0 : Option Addr} {c0 : Nat} (l0 : x.f0.length ≤ c0) (g0 : (Kd.int .i64).C w A0 x.f0.length x.f0) {A1 : Option Addr} {c1 : Nat} (l1 : x.f1.length ≤ c1) (g1 : (Kd.int .i64).C w A1 x.f1.length x.f1) {A2 : Option Addr} {c2 : Nat} (l2 : x.f2.length ≤ c2) (g2 : Kd.bool.C w A2 x.f2.length x.f2) : k114.K w x [.slice A0 x.f0.length c0, .slice A1 x.f1.length c1, .slice A2 x.f2.length c2] := ⟨[.slice A0 x.f0.length c0], [.slice A1 x.f1.length c1, .slice A2 x.f2.length c2], rfl, ⟨A0, c0, rfl, l0, g0⟩, ⟨[.slice A1 x.f1.length c1], [.slice A2 x.f2.length c2], rfl, ⟨A1, c1, rfl, l1, g1⟩, ⟨A2, c2, rfl, l2, g2⟩⟩⟩
end Go.Proofs.Ytdgkhoflajdidaa.Print
/- Basic words of this session's proofs: readings of rows of whole numbers, ranges, readings and scenes, that outlive whatever only makes new memory. -/
namespace Go.Proofs.Ytdgkhoflajdidaa
open Go.RowKit Go.Proofs.YtdgkhoflajdidaaW.PrintWords Go.Proofs.Ytdgkhoflajdidaa.Print
/-- A scene: the heat of a shovel, and five hours' losses. -/
structure Sc where
 h : Int
 l0 : Int
 l1 : Int
 l2 : Int
 l3 : Int
 l4 : Int
deriving DecidableEq
def z133 : Sc := ⟨0, 0, 0, 0, 0, 0⟩
def k133 : Kd Sc := Kd.iso (Kd.pair (Kd.int .i64) (Kd.pair (Kd.int .i64) (Kd.pair (Kd.int .i64) (Kd.pair (Kd.int .i64) (Kd.pair (Kd.int .i64) (Kd.int .i64)))))) (fun x : Sc => (x.h, x.l0, x.l1, x.l2, x.l3, x.l4))
/-- A scene's cells. -/
def Sc.cells (x : Sc) : List Value := [.int .i64 x.h, .int .i64 x.l0, .int .i64 x.l1, .int .i64 x.l2, .int .i64 x.l3, .int .i64 x.l4]
theorem k133_open {w : World} {x : Sc} {cs : List Value} (h : k133.K w x cs) : cs = [.int .i64 x.h, .int .i64 x.l0, .int .i64 x.l1, .int .i64 x.l2, .int .i64 x.l3, .int .i64 x.l4] := by
 obtain ⟨_, _, rfl, rfl, _, _, rfl, rfl, _, _, rfl, rfl, _, _, rfl, rfl, _, _, rfl, rfl, rfl⟩ := h
 rfl
theorem k133_mk (w : World) (x : Sc) : k133.K w x [.int .i64 x.h, .int .i64 x.l0, .int .i64 x.l1, .int .i64 x.l2, .int .i64 x.l3, .int .i64 x.l4] :=
 ⟨[.int .i64 x.h], _, rfl, rfl, [.int .i64 x.l0], _, rfl, rfl, [.int .i64 x.l1], _, rfl, rfl, [.int .i64 x.l2], _, rfl, rfl, [.int .i64 x.l3], [.int .i64 x.l4], rfl, rfl, rfl⟩
/-- A box that has just been laid. -/
theorem box_cell (w : World) (v : Value) (t : TypeId) : (w.alloc (.cells #[v] t)).cell? ⟨w.heap.size, 0, none⟩ = some v := by
 simp only [World.cell?]
 rw [heap_alloc_new]
 rfl
/-- A cell of the block that has just been laid. -/
theorem cell_last (W : World) (cs : Array Value) (t : TypeId) (g : Nat) (hg : W.heap.size = g) (j : Nat) (v : Value) (h : cs[j]? = some v) : (W.alloc (.cells cs t)).cell? ⟨g, j, none⟩ = some v := by
 subst hg
 simp only [World.cell?]
 rw [heap_alloc_new]
 exact h
theorem cell_lastD (W : World) (cs : Array Value) (t : TypeId) (g : Nat) (hg : W.heap.size = g) (j : Nat) (v : Value) (h : cs[j]? = some v) : (W.alloc (.cells cs t)).drew.cell? ⟨g, j, none⟩ = some v := cell_last W cs t g hg j v h
/-- A new block turns no cell. -/
theorem cell_al {W : World} {a : Addr} {v : Value} (o : Obj) (h : W.cell? a = some v) : (W.alloc o).cell? a = some v := pw_cell_below (below_alloc (Below.refl _ _) o) h
/-- Two steps that only make new memory. -/
theorem bel2 {w w1 w2 : World} (h : Below w.heap.size w w1) (k : Below w1.heap.size w1 w2) : Below w.heap.size w w2 := below_then h h.size k
/-- A block of cells lies as it lay. -/
def Blk (W : World) (g : Nat) (cs : Array Value) (t : TypeId) : Prop := W.heap[g]? = some (.cells cs t (0, 0))
theorem Blk.new (W : World) (cs : Array Value) (t : TypeId) (g : Nat) (hg : W.heap.size = g) : Blk (W.alloc (.cells cs t)) g cs t := by subst hg; exact heap_alloc_new W _
theorem Blk.lt {W : World} {g : Nat} {cs : Array Value} {t : TypeId} (h : Blk W g cs t) : g < W.heap.size := (Array.getElem?_eq_some_iff.1 h).1
theorem Blk.below {W W1 : World} {g : Nat} {cs : Array Value} {t : TypeId} (h : Blk W g cs t) (hb : Below W.heap.size W W1) : Blk W1 g cs t := (hb.block g h.lt).trans h
theorem Blk.grown {W W1 : World} {g : Nat} {cs : Array Value} {t : TypeId} {row : Option Nat} (h : Blk W g cs t) (hb : W.grownBy W1 row) (hne : some g ≠ row) : Blk W1 g cs t := (hb.block g h.lt hne).trans h
theorem Blk.alloc {W : World} {g : Nat} {cs : Array Value} {t : TypeId} (h : Blk W g cs t) (o : Obj) : Blk (W.alloc o) g cs t := h.below (below_alloc (Below.refl _ _) o)
theorem Blk.drew {W : World} {g : Nat} {cs : Array Value} {t : TypeId} (h : Blk W g cs t) : Blk W.drew g cs t := h
theorem Blk.cell {W : World} {g : Nat} {cs : Array Value} {t : TypeId} (h : Blk W g cs t) (j : Nat) (v : Value) (hv : cs[j]? = some v) : W.cell? ⟨g, j, none⟩ = some v := by
 unfold Blk at h
 simp only [World.cell?, h]
 exact hv
theorem Blk.frozen {W : World} {g : Nat} {cs : Array Value} {t : TypeId} (h : Blk W g cs t) (j : Nat) : W.frozen? ⟨g, j, none⟩ = false := by
 unfold Blk at h
 simp [World.frozen?, h]
theorem Blk.set {W : World} {g : Nat} {cs : Array Value} {t : TypeId} (h : Blk W g cs t) (j : Nat) (v : Value) : Blk (W.setCell ⟨g, j, none⟩ v) g (cs.setIfInBounds j v) t := by
 unfold Blk at h ⊢
 have hlt := (Array.getElem?_eq_some_iff.1 h).1
 have h2 := (Array.getElem?_eq_some_iff.1 h).2
 simp only [World.setCell]
 rw [Array.getElem?_eq_getElem (by simpa using hlt), Array.getElem_modify_self, h2]
 rfl
theorem Blk.set_other {W : World} {g : Nat} {cs : Array Value} {t : TypeId} (h : Blk W g cs t) {p : Addr} (hne : g ≠ p.block) (v : Value) : Blk (W.setCell p v) g cs t := (Below.heap_setCell W p v g hne).trans h
section
variable {w : World} {A : Option Addr} {kk : Nat}
theorem row_at_int {xs : List Int} (h : Kd.C (Kd.int .i64) w A xs.length xs) (kk : Nat) (hk : kk < xs.length) : ∃ ad, A = some ad ∧ w.cell? (ad.add kk) = some (.int .i64 xs[kk]) := by
 obtain ⟨ad, c, e, hx, hK, hc⟩ := Kd.C_get h 0 (kk : Int) (by omega) (by omega)
 refine ⟨ad, e, ?_⟩
 have h1 : c = [Value.int .i64 (xs.getD (kk : Int).toNat 0)] := hK
 have h2 := hc 0 (Value.int .i64 (xs.getD (kk : Int).toNat 0)) (by rw [h1]; rfl)
 have h3 : (Kd.int .i64).sz = 1 := rfl
 rw [h3] at h2
 simpa [hk] using h2
theorem row_at_rg {xs : List S35} (h : Kd.C k35 w A xs.length xs) (kk : Nat) (hk : kk < xs.length) : ∃ ad, A = some ad ∧ w.cell? (ad.add (kk * 2)) = some (.int .i64 xs[kk].f0) ∧ w.cell? ⟨(ad.add (kk * 2)).block, (ad.add (kk * 2)).off + 1, none⟩ = some (.int .i64 xs[kk].f1) := by
 obtain ⟨ad, e, h1, h2⟩ := at_T35 h (kk : Int) (by omega) (by omega)
 have hx : rd_T35 xs (kk : Int) = xs[kk] := by simp [rd_T35, hk]
 rw [hx, Int.toNat_natCast] at h1 h2
 exact ⟨ad, e, h1, h2⟩
theorem row_at_rd {xs : List S119} (h : Kd.C k119 w A xs.length xs) (kk : Nat) (hk : kk < xs.length) : ∃ ad, A = some ad ∧ w.cell? (ad.add (kk * 3)) = some (.int .i64 xs[kk].f0) ∧ w.cell? ⟨(ad.add (kk * 3)).block, (ad.add (kk * 3)).off + 1, none⟩ = some (.int .i64 xs[kk].f1.f0) ∧ w.cell? ⟨(ad.add (kk * 3)).block, (ad.add (kk * 3)).off + 2, none⟩ = some (.int .i64 xs[kk].f1.f1) := by
 obtain ⟨ad, e, h1, h2, h3⟩ := at_T119 h (kk : Int) (by omega) (by omega)
 have hx : rd_T119 xs (kk : Int) = xs[kk] := by simp [rd_T119, hk]
 rw [hx, Int.toNat_natCast] at h1 h2 h3
 exact ⟨ad, e, h1, h2, h3⟩
theorem row_at_sc {xs : List Sc} (h : Kd.C k133 w A xs.length xs) (kk : Nat) (hk : kk < xs.length) : ∃ ad, A = some ad ∧ w.cell? (ad.add (kk * 6)) = some (.int .i64 xs[kk].h) ∧ w.cell? ⟨(ad.add (kk * 6)).block, (ad.add (kk * 6)).off + 1, none⟩ = some (.int .i64 xs[kk].l0) ∧ w.cell? ⟨(ad.add (kk * 6)).block, (ad.add (kk * 6)).off + 2, none⟩ = some (.int .i64 xs[kk].l1)
    ∧ w.cell? ⟨(ad.add (kk * 6)).block, (ad.add (kk * 6)).off + 3, none⟩ = some (.int .i64 xs[kk].l2) ∧ w.cell? ⟨(ad.add (kk * 6)).block, (ad.add (kk * 6)).off + 4, none⟩ = some (.int .i64 xs[kk].l3) ∧ w.cell? ⟨(ad.add (kk * 6)).block, (ad.add (kk * 6)).off + 5, none⟩ = some (.int .i64 xs[kk].l4) := by
 obtain ⟨ad, c, e, _, hK, hc0⟩ := Kd.C_get h z133 (kk : Int) (by omega) (by omega)
 have hx : xs.getD (kk : Int).toNat z133 = xs[kk] := by simp [hk]
 rw [hx] at hK
 rw [Int.toNat_natCast] at hc0
 have hc : ∀ j u, c[j]? = some u → w.cell? (ad.add (kk * 6 + j)) = some u := hc0
 obtain rfl := k133_open hK
 refine ⟨ad, e, hc 0 _ rfl, ?_, ?_, ?_, ?_, ?_⟩
 ·rw [← add_field _ _ 1 (by omega)]; exact hc 1 _ rfl
 ·rw [← add_field _ _ 2 (by omega)]; exact hc 2 _ rfl
 ·rw [← add_field _ _ 3 (by omega)]; exact hc 3 _ rfl
 ·rw [← add_field _ _ 4 (by omega)]; exact hc 4 _ rfl
 ·rw [← add_field _ _ 5 (by omega)]; exact hc 5 _ rfl
end
end Go.Proofs.Ytdgkhoflajdidaa
/- slices.IndexFunc and ContainsFunc, and copper's generic 'all', at the four element types: for every predicate that leaves old memory as it was. -/
namespace Go.Proofs.Ytdgkhoflajdidaa
open Go.RowKit Go.Proofs.YtdgkhoflajdidaaW.PrintWords Go.Proofs.Ytdgkhoflajdidaa.Print
set_option linter.unusedVariables false
set_option linter.unusedSimpArgs false
/-- A predicate handed in: function g, called at the bound values bs, the element, the captured variables lb, hands back p's answer and leaves old memory as it was. -/
def PassAt {α : Type} (g : Nat) (bs lb : Array Value) (enc : α → Value) (p : α → Bool) (ok : α → Prop) (w : World) : Prop :=
 ∀ (W : World) (x : α), ok x → Below w.heap.size w W → Calls Try.prog g (bs.push (enc x) ++ lb) W fun e w' => e = .returned (.bool (p x)) ∧ Below W.heap.size W w'
/-- A function that has a body is entered. -/
def Ent (g : Nat) : Prop := ∀ args w, (callFunc g args).run Try.prog w = .ok (.enter g args) w
theorem PassAt.later {α : Type} {g : Nat} {bs lb : Array Value} {enc : α → Value} {p : α → Bool} {ok : α → Prop} {w w1 : World} (h : PassAt g bs lb enc p ok w) (hb : Below w.heap.size w w1) : PassAt g bs lb enc p ok w1 :=
 fun W x hx hB => h W x hx (hb.trans (hB.mono hb.size))
theorem PassAt.part {α : Type} {g : Nat} {bs lb : Array Value} {enc : α → Value} {p : α → Bool} {ok ok' : α → Prop} {w : World} (h : PassAt g bs lb enc p ok w) (hk : ∀ x, ok' x → ok x) : PassAt g bs lb enc p ok' w :=
 fun W x hx hB => h W x (hk x hx) hB
/-- The first place at which p holds, or -1. -/
def fIdx {α : Type} (p : α → Bool) (xs : List α) : Int := match xs.findIdx? p with
 | some i => (i : Int)
 | none => -1
theorem fIdx_hit {α : Type} (p : α → Bool) (xs : List α) (k : Nat) (hk : k < xs.length) (hp : p xs[k] = true) (h : ∀ j (hj : j < xs.length), j < k → p xs[j] = false) : fIdx p xs = k := by
 have : xs.findIdx? p = some k := by
  rw [List.findIdx?_eq_some_iff_getElem]
  exact ⟨hk, hp, fun j hj => by simp [h j (by omega) hj]⟩
 simp [fIdx, this]
theorem fIdx_miss {α : Type} (p : α → Bool) (xs : List α) (h : ∀ j (hj : j < xs.length), j < xs.length → p xs[j] = false) : fIdx p xs = -1 := by
 have : xs.findIdx? p = none := by
  simp only [List.findIdx?_eq_none_iff]
  intro x hx
  obtain ⟨j, hj, rfl⟩ := List.getElem_of_mem hx
  exact h j hj hj
 simp [fIdx, this]
theorem fIdx_nonneg {α : Type} (p : α → Bool) (xs : List α) : decide (0 ≤ fIdx p xs) = xs.any p := by
 unfold fIdx
 rw [Bool.eq_iff_iff]
 cases h : xs.findIdx? p with
 | none =>
  have h2 := List.findIdx?_eq_none_iff.1 h
  simp only [decide_eq_true_eq, List.any_eq_true]
  constructor
  ·intro h3; exact absurd h3 (by decide)
  ·rintro ⟨x, hx, hp⟩; rw [h2 x hx] at hp; cases hp
 | some i =>
  obtain ⟨hi, hp, _⟩ := List.findIdx?_eq_some_iff_getElem.1 h
  simp only [decide_eq_true_eq, List.any_eq_true]
  constructor
  ·intro _; exact ⟨_, List.getElem_mem hi, hp⟩
  ·intro _; exact Int.natCast_nonneg i
theorem all_any {α : Type} (p : α → Bool) (xs : List α) : (!(xs.any fun x => !p x)) = xs.all p := by
 induction xs with
 | nil => rfl
 | cons x r ih => simp [List.any_cons, List.all_cons, ← ih]
set_option maxHeartbeats 1000000 in
/-- slices.IndexFunc at []int. -/
theorem indexFunc_int (g : Nat) (bs lb : Array Value) (p : Int → Bool) (A : Option Addr) (c : Nat) (xs : List Int) (w : World) (eg : Ent g)
    (hp : PassAt g bs lb (Value.int .i64) p (fun x => x ∈ xs) w) (hr : Kd.C (Kd.int .i64) w A xs.length xs) :
    Calls Try.prog 114 #[.slice A xs.length c, .func (.func g) bs lb] w fun e w' => e = .returned (.int .i64 (fIdx p xs)) ∧ Below w.heap.size w w' := by
 have hn : xs.length ≤ 9223372036854775807 := hr.2.1
 have HR := Aside0.mk hr
 have HP := Lib.hid hp
 clear hr hp
 unfold Ent at eg
 go_enter Try.func114, Try.ntmps114
 go_wp2
 go_loopg [5, 8] xs.length (fun gg _ s8 wr => ∃ kk : Nat, kk ≤ xs.length ∧ xs.length - kk ≤ gg ∧ s8 = .int .i64 kk ∧ Aside0 (Below w.heap.size w wr) ∧ Aside0 (∀ j, (h : j < xs.length) → j < kk → p xs[j] = false))
 case atStart => exact ⟨0, Nat.zero_le _, by omega, rfl, ⟨Below.refl _ w⟩, ⟨fun j _ hj => absurd hj (Nat.not_lt_zero _)⟩⟩
 case round =>
  obtain ⟨kk, hkk, hg, rfl, BW, HA⟩ := hrel
  by_cases hlt : kk < xs.length
  ·have hltz : (kk : Int) < (xs.length : Int) := by omega
   obtain ⟨ad, hA, hcell⟩ := row_at_int (Kd.C_below HR.out BW.out) kk hlt
   obtain rfl := hA
   have hc0 := hcell; clear hcell
   have hcall := HP.out wr xs[kk] (List.getElem_mem hlt) BW.out
   generalize hy : xs[kk] = y at hc0 hcall
   have HY := Lib.hid hy
   clear hy
   cases hq : p y with
   | true =>
    rw [hq] at hcall
    go_wp2_with (go_at_fn g; refine hcall.mono ?_; rintro e w' ⟨rfl, hb'⟩)
    go_ret
    refine ⟨?_, BW.out.trans (hb'.mono BW.out.size)⟩
    exact congrArg (fun z => Ending.returned (.int .i64 z)) (fIdx_hit p xs kk hlt (by rw [HY.out]; exact hq) HA.out).symm
   | false =>
    rw [hq] at hcall
    go_wp2_with (go_at_fn g; refine hcall.mono ?_; rintro e w' ⟨rfl, hb'⟩)
    go_roundg (xs.length - (kk + 1))
    case measure => omega
    case rel =>
     refine ⟨kk + 1, by omega, by omega, by go_num, ⟨BW.out.trans (hb'.mono BW.out.size)⟩, ⟨fun j hj hjk => ?_⟩⟩
     by_cases e : j = kk
     ·subst e
      rw [HY.out]; exact hq
     ·exact HA.out j hj (by omega)
  ·have hltz : ¬ (kk : Int) < (xs.length : Int) := by omega
   have : kk = xs.length := by omega
   subst this
   go_wp2
   go_ret
   refine ⟨?_, BW.out⟩
   exact congrArg (fun z => Ending.returned (.int .i64 z)) (fIdx_miss p xs HA.out).symm
set_option maxHeartbeats 1000000 in
/-- slices.ContainsFunc at []int. -/
theorem containsFunc_int (g : Nat) (bs lb : Array Value) (p : Int → Bool) (A : Option Addr) (c : Nat) (xs : List Int) (w : World) (eg : Ent g)
    (hp : PassAt g bs lb (Value.int .i64) p (fun x => x ∈ xs) w) (hr : Kd.C (Kd.int .i64) w A xs.length xs) :
    Calls Try.prog 136 #[.slice A xs.length c, .func (.func g) bs lb] w fun e w' => e = .returned (.bool (xs.any p)) ∧ Below w.heap.size w w' := by
 rw [← fIdx_nonneg]
 go_enter Try.func136, Try.ntmps136
 go_wp2_with (go_at_call 114; refine (indexFunc_int g bs lb p A c xs _ eg hp hr).mono ?_; rintro e w' ⟨rfl, hb'⟩)
 go_ret
 exact ⟨rfl, hb'⟩
set_option maxRecDepth 100000 in
set_option maxHeartbeats 1000000 in
/-- The closure that 'all' makes: its predicate's contrary. -/
theorem not_int (g : Nat) (bs lb : Array Value) (p : Int → Bool) (ok : Int → Prop) (w : World) (B : Nat) (eg : Ent g) (hB : B < w.heap.size) (hc : w.cell? ⟨B, 0, none⟩ = some (.func (.func g) bs lb))
    (hp : PassAt g bs lb (Value.int .i64) p ok w) : PassAt 137 #[] #[.pointer (some ⟨B, 0, none⟩)] (Value.int .i64) (fun x => !p x) ok w := by
 intro W x hx hb
 have hc' : W.cell? ⟨B, 0, none⟩ = some (.func (.func g) bs lb) := pw_cell_below hb hc
 have hBW : B < W.heap.size := Nat.lt_of_lt_of_le hB hb.size
 have HP := Lib.hid hp
 clear hp
 unfold Ent at eg
 go_enter Try.func137, Try.ntmps137
 go_wp2_with (go_at_fn g; refine (HP.out _ x hx (by first | exact hb | exact below_alloc hb _)).mono ?_; rintro e w' ⟨rfl, hb'⟩)
 go_ret
 exact ⟨rfl, by first | exact hb' | exact (below_alloc (Below.refl _ _) _).trans (hb'.mono (by simp))⟩
set_option maxHeartbeats 1000000 in
/-- copper's 'all' at []int. -/
theorem all_int (g : Nat) (bs lb : Array Value) (p : Int → Bool) (A : Option Addr) (c : Nat) (xs : List Int) (w : World) (eg : Ent g)
    (hp : PassAt g bs lb (Value.int .i64) p (fun x => x ∈ xs) w) (hr : Kd.C (Kd.int .i64) w A xs.length xs) :
    Calls Try.prog 119 #[.slice A xs.length c, .func (.func g) bs lb] w fun e w' => e = .returned (.bool (xs.all p)) ∧ Below w.heap.size w w' := by
 have hx : (!(xs.any fun x => !p x)) = xs.all p := all_any p xs
 have HX := Lib.hid hx
 clear hx
 have hb1 : Below w.heap.size w (w.alloc (.cells #[.func (.func g) bs lb] 123)) := below_alloc (Below.refl _ _) _
 have hn : PassAt 137 #[] #[.pointer (some ⟨w.heap.size, 0, none⟩)] (Value.int .i64) (fun x => !p x) (fun x => x ∈ xs) (w.alloc (.cells #[.func (.func g) bs lb] 123)) :=
  not_int g bs lb p _ _ _ eg (by simp) (box_cell _ _ _) (hp.later hb1)
 have hc := containsFunc_int 137 #[] #[.pointer (some ⟨w.heap.size, 0, none⟩)] (fun x => !p x) A c xs _ (enters_of Try.func137 (by kernel_rfl) rfl) hn (Kd.C_below hr hb1)
 clear hp hr hn
 go_enter Try.func119, Try.ntmps119
 go_wp2_with (go_at_call 136; refine hc.mono ?_; rintro e w' ⟨rfl, hb'⟩)
 go_ret
 exact ⟨by rw [← HX.out]; rfl, hb1.trans (hb'.mono (by simp))⟩
set_option maxHeartbeats 1000000 in
/-- slices.IndexFunc at []rg. -/
theorem indexFunc_rg (g : Nat) (bs lb : Array Value) (p : S35 → Bool) (A : Option Addr) (c : Nat) (xs : List S35) (w : World) (eg : Ent g)
    (hp : PassAt g bs lb (fun x => .agg #[.int .i64 x.f0, .int .i64 x.f1]) p (fun x => x ∈ xs) w) (hr : Kd.C k35 w A xs.length xs) :
    Calls Try.prog 139 #[.slice A xs.length c, .func (.func g) bs lb] w fun e w' => e = .returned (.int .i64 (fIdx p xs)) ∧ Below w.heap.size w w' := by
 have hn : xs.length ≤ 9223372036854775807 := hr.2.1
 have HR := Aside0.mk hr
 have HP := Lib.hid hp
 clear hr hp
 unfold Ent at eg
 go_enter Try.func139, Try.ntmps139
 go_wp2
 go_loopg [5, 8] xs.length (fun gg _ s8 wr => ∃ kk : Nat, kk ≤ xs.length ∧ xs.length - kk ≤ gg ∧ s8 = .int .i64 kk ∧ Aside0 (Below w.heap.size w wr) ∧ Aside0 (∀ j, (h : j < xs.length) → j < kk → p xs[j] = false))
 case atStart => exact ⟨0, Nat.zero_le _, by omega, rfl, ⟨Below.refl _ w⟩, ⟨fun j _ hj => absurd hj (Nat.not_lt_zero _)⟩⟩
 case round =>
  obtain ⟨kk, hkk, hg, rfl, BW, HA⟩ := hrel
  by_cases hlt : kk < xs.length
  ·have hltz : (kk : Int) < (xs.length : Int) := by omega
   obtain ⟨ad, hA, hcell⟩ := row_at_rg (Kd.C_below HR.out BW.out) kk hlt
   obtain rfl := hA
   obtain ⟨hc0, hc1⟩ := hcell
   have hcall := HP.out wr xs[kk] (List.getElem_mem hlt) BW.out
   generalize hy : xs[kk] = y at hc0 hc1 hcall
   have HY := Lib.hid hy
   clear hy
   cases hq : p y with
   | true =>
    rw [hq] at hcall
    go_wp2_with (go_at_fn g; refine hcall.mono ?_; rintro e w' ⟨rfl, hb'⟩)
    go_ret
    refine ⟨?_, BW.out.trans (hb'.mono BW.out.size)⟩
    exact congrArg (fun z => Ending.returned (.int .i64 z)) (fIdx_hit p xs kk hlt (by rw [HY.out]; exact hq) HA.out).symm
   | false =>
    rw [hq] at hcall
    go_wp2_with (go_at_fn g; refine hcall.mono ?_; rintro e w' ⟨rfl, hb'⟩)
    go_roundg (xs.length - (kk + 1))
    case measure => omega
    case rel =>
     refine ⟨kk + 1, by omega, by omega, by go_num, ⟨BW.out.trans (hb'.mono BW.out.size)⟩, ⟨fun j hj hjk => ?_⟩⟩
     by_cases e : j = kk
     ·subst e
      rw [HY.out]; exact hq
     ·exact HA.out j hj (by omega)
  ·have hltz : ¬ (kk : Int) < (xs.length : Int) := by omega
   have : kk = xs.length := by omega
   subst this
   go_wp2
   go_ret
   refine ⟨?_, BW.out⟩
   exact congrArg (fun z => Ending.returned (.int .i64 z)) (fIdx_miss p xs HA.out).symm
set_option maxHeartbeats 1000000 in
/-- slices.ContainsFunc at []rg. -/
theorem containsFunc_rg (g : Nat) (bs lb : Array Value) (p : S35 → Bool) (A : Option Addr) (c : Nat) (xs : List S35) (w : World) (eg : Ent g)
    (hp : PassAt g bs lb (fun x => .agg #[.int .i64 x.f0, .int .i64 x.f1]) p (fun x => x ∈ xs) w) (hr : Kd.C k35 w A xs.length xs) :
    Calls Try.prog 126 #[.slice A xs.length c, .func (.func g) bs lb] w fun e w' => e = .returned (.bool (xs.any p)) ∧ Below w.heap.size w w' := by
 rw [← fIdx_nonneg]
 go_enter Try.func126, Try.ntmps126
 go_wp2_with (go_at_call 139; refine (indexFunc_rg g bs lb p A c xs _ eg hp hr).mono ?_; rintro e w' ⟨rfl, hb'⟩)
 go_ret
 exact ⟨rfl, hb'⟩
set_option maxRecDepth 100000 in
set_option maxHeartbeats 1000000 in
/-- The closure that 'all' makes: its predicate's contrary. -/
theorem not_rg (g : Nat) (bs lb : Array Value) (p : S35 → Bool) (ok : S35 → Prop) (w : World) (B : Nat) (eg : Ent g) (hB : B < w.heap.size) (hc : w.cell? ⟨B, 0, none⟩ = some (.func (.func g) bs lb))
    (hp : PassAt g bs lb (fun x => .agg #[.int .i64 x.f0, .int .i64 x.f1]) p ok w) : PassAt 127 #[] #[.pointer (some ⟨B, 0, none⟩)] (fun x => .agg #[.int .i64 x.f0, .int .i64 x.f1]) (fun x => !p x) ok w := by
 intro W x hx hb
 have hc' : W.cell? ⟨B, 0, none⟩ = some (.func (.func g) bs lb) := pw_cell_below hb hc
 have hBW : B < W.heap.size := Nat.lt_of_lt_of_le hB hb.size
 have HP := Lib.hid hp
 clear hp
 unfold Ent at eg
 have hu := Try.underlying35
 go_enter Try.func127, Try.ntmps127
 go_wp2_with (go_at_fn g; refine (HP.out _ x hx (by first | exact hb | exact below_alloc hb _)).mono ?_; rintro e w' ⟨rfl, hb'⟩)
 go_ret
 exact ⟨rfl, by first | exact hb' | exact (below_alloc (Below.refl _ _) _).trans (hb'.mono (by simp))⟩
set_option maxHeartbeats 1000000 in
/-- copper's 'all' at []rg. -/
theorem all_rg (g : Nat) (bs lb : Array Value) (p : S35 → Bool) (A : Option Addr) (c : Nat) (xs : List S35) (w : World) (eg : Ent g)
    (hp : PassAt g bs lb (fun x => .agg #[.int .i64 x.f0, .int .i64 x.f1]) p (fun x => x ∈ xs) w) (hr : Kd.C k35 w A xs.length xs) :
    Calls Try.prog 105 #[.slice A xs.length c, .func (.func g) bs lb] w fun e w' => e = .returned (.bool (xs.all p)) ∧ Below w.heap.size w w' := by
 have hx : (!(xs.any fun x => !p x)) = xs.all p := all_any p xs
 have HX := Lib.hid hx
 clear hx
 have hb1 : Below w.heap.size w (w.alloc (.cells #[.func (.func g) bs lb] 141)) := below_alloc (Below.refl _ _) _
 have hn : PassAt 127 #[] #[.pointer (some ⟨w.heap.size, 0, none⟩)] (fun x => .agg #[.int .i64 x.f0, .int .i64 x.f1]) (fun x => !p x) (fun x => x ∈ xs) (w.alloc (.cells #[.func (.func g) bs lb] 141)) :=
  not_rg g bs lb p _ _ _ eg (by simp) (box_cell _ _ _) (hp.later hb1)
 have hc := containsFunc_rg 127 #[] #[.pointer (some ⟨w.heap.size, 0, none⟩)] (fun x => !p x) A c xs _ (enters_of Try.func127 (by kernel_rfl) rfl) hn (Kd.C_below hr hb1)
 clear hp hr hn
 go_enter Try.func105, Try.ntmps105
 go_wp2_with (go_at_call 126; refine hc.mono ?_; rintro e w' ⟨rfl, hb'⟩)
 go_ret
 exact ⟨by rw [← HX.out]; rfl, hb1.trans (hb'.mono (by simp))⟩
set_option maxHeartbeats 1000000 in
/-- slices.IndexFunc at []rd. -/
theorem indexFunc_rd (g : Nat) (bs lb : Array Value) (p : S119 → Bool) (A : Option Addr) (c : Nat) (xs : List S119) (w : World) (eg : Ent g)
    (hp : PassAt g bs lb (fun x => .agg #[.int .i64 x.f0, .int .i64 x.f1.f0, .int .i64 x.f1.f1]) p (fun x => x ∈ xs) w) (hr : Kd.C k119 w A xs.length xs) :
    Calls Try.prog 140 #[.slice A xs.length c, .func (.func g) bs lb] w fun e w' => e = .returned (.int .i64 (fIdx p xs)) ∧ Below w.heap.size w w' := by
 have hn : xs.length ≤ 9223372036854775807 := hr.2.1
 have HR := Aside0.mk hr
 have HP := Lib.hid hp
 clear hr hp
 unfold Ent at eg
 go_enter Try.func140, Try.ntmps140
 go_wp2
 go_loopg [5, 8] xs.length (fun gg _ s8 wr => ∃ kk : Nat, kk ≤ xs.length ∧ xs.length - kk ≤ gg ∧ s8 = .int .i64 kk ∧ Aside0 (Below w.heap.size w wr) ∧ Aside0 (∀ j, (h : j < xs.length) → j < kk → p xs[j] = false))
 case atStart => exact ⟨0, Nat.zero_le _, by omega, rfl, ⟨Below.refl _ w⟩, ⟨fun j _ hj => absurd hj (Nat.not_lt_zero _)⟩⟩
 case round =>
  obtain ⟨kk, hkk, hg, rfl, BW, HA⟩ := hrel
  by_cases hlt : kk < xs.length
  ·have hltz : (kk : Int) < (xs.length : Int) := by omega
   obtain ⟨ad, hA, hcell⟩ := row_at_rd (Kd.C_below HR.out BW.out) kk hlt
   obtain rfl := hA
   obtain ⟨hc0, hc1, hc2⟩ := hcell
   have hcall := HP.out wr xs[kk] (List.getElem_mem hlt) BW.out
   generalize hy : xs[kk] = y at hc0 hc1 hc2 hcall
   have HY := Lib.hid hy
   clear hy
   cases hq : p y with
   | true =>
    rw [hq] at hcall
    go_wp2_with (go_at_fn g; refine hcall.mono ?_; rintro e w' ⟨rfl, hb'⟩)
    go_ret
    refine ⟨?_, BW.out.trans (hb'.mono BW.out.size)⟩
    exact congrArg (fun z => Ending.returned (.int .i64 z)) (fIdx_hit p xs kk hlt (by rw [HY.out]; exact hq) HA.out).symm
   | false =>
    rw [hq] at hcall
    go_wp2_with (go_at_fn g; refine hcall.mono ?_; rintro e w' ⟨rfl, hb'⟩)
    go_roundg (xs.length - (kk + 1))
    case measure => omega
    case rel =>
     refine ⟨kk + 1, by omega, by omega, by go_num, ⟨BW.out.trans (hb'.mono BW.out.size)⟩, ⟨fun j hj hjk => ?_⟩⟩
     by_cases e : j = kk
     ·subst e
      rw [HY.out]; exact hq
     ·exact HA.out j hj (by omega)
  ·have hltz : ¬ (kk : Int) < (xs.length : Int) := by omega
   have : kk = xs.length := by omega
   subst this
   go_wp2
   go_ret
   refine ⟨?_, BW.out⟩
   exact congrArg (fun z => Ending.returned (.int .i64 z)) (fIdx_miss p xs HA.out).symm
set_option maxHeartbeats 1000000 in
/-- slices.ContainsFunc at []rd. -/
theorem containsFunc_rd (g : Nat) (bs lb : Array Value) (p : S119 → Bool) (A : Option Addr) (c : Nat) (xs : List S119) (w : World) (eg : Ent g)
    (hp : PassAt g bs lb (fun x => .agg #[.int .i64 x.f0, .int .i64 x.f1.f0, .int .i64 x.f1.f1]) p (fun x => x ∈ xs) w) (hr : Kd.C k119 w A xs.length xs) :
    Calls Try.prog 128 #[.slice A xs.length c, .func (.func g) bs lb] w fun e w' => e = .returned (.bool (xs.any p)) ∧ Below w.heap.size w w' := by
 rw [← fIdx_nonneg]
 go_enter Try.func128, Try.ntmps128
 go_wp2_with (go_at_call 140; refine (indexFunc_rd g bs lb p A c xs _ eg hp hr).mono ?_; rintro e w' ⟨rfl, hb'⟩)
 go_ret
 exact ⟨rfl, hb'⟩
set_option maxRecDepth 100000 in
set_option maxHeartbeats 1000000 in
/-- The closure that 'all' makes: its predicate's contrary. -/
theorem not_rd (g : Nat) (bs lb : Array Value) (p : S119 → Bool) (ok : S119 → Prop) (w : World) (B : Nat) (eg : Ent g) (hB : B < w.heap.size) (hc : w.cell? ⟨B, 0, none⟩ = some (.func (.func g) bs lb))
    (hp : PassAt g bs lb (fun x => .agg #[.int .i64 x.f0, .int .i64 x.f1.f0, .int .i64 x.f1.f1]) p ok w) : PassAt 129 #[] #[.pointer (some ⟨B, 0, none⟩)] (fun x => .agg #[.int .i64 x.f0, .int .i64 x.f1.f0, .int .i64 x.f1.f1]) (fun x => !p x) ok w := by
 intro W x hx hb
 have hc' : W.cell? ⟨B, 0, none⟩ = some (.func (.func g) bs lb) := pw_cell_below hb hc
 have hBW : B < W.heap.size := Nat.lt_of_lt_of_le hB hb.size
 have HP := Lib.hid hp
 clear hp
 unfold Ent at eg
 have hu := Try.underlying119
 go_enter Try.func129, Try.ntmps129
 go_wp2_with (go_at_fn g; refine (HP.out _ x hx (by first | exact hb | exact below_alloc hb _)).mono ?_; rintro e w' ⟨rfl, hb'⟩)
 go_ret
 exact ⟨rfl, by first | exact hb' | exact (below_alloc (Below.refl _ _) _).trans (hb'.mono (by simp))⟩
set_option maxHeartbeats 1000000 in
/-- copper's 'all' at []rd. -/
theorem all_rd (g : Nat) (bs lb : Array Value) (p : S119 → Bool) (A : Option Addr) (c : Nat) (xs : List S119) (w : World) (eg : Ent g)
    (hp : PassAt g bs lb (fun x => .agg #[.int .i64 x.f0, .int .i64 x.f1.f0, .int .i64 x.f1.f1]) p (fun x => x ∈ xs) w) (hr : Kd.C k119 w A xs.length xs) :
    Calls Try.prog 107 #[.slice A xs.length c, .func (.func g) bs lb] w fun e w' => e = .returned (.bool (xs.all p)) ∧ Below w.heap.size w w' := by
 have hx : (!(xs.any fun x => !p x)) = xs.all p := all_any p xs
 have HX := Lib.hid hx
 clear hx
 have hb1 : Below w.heap.size w (w.alloc (.cells #[.func (.func g) bs lb] 139)) := below_alloc (Below.refl _ _) _
 have hn : PassAt 129 #[] #[.pointer (some ⟨w.heap.size, 0, none⟩)] (fun x => .agg #[.int .i64 x.f0, .int .i64 x.f1.f0, .int .i64 x.f1.f1]) (fun x => !p x) (fun x => x ∈ xs) (w.alloc (.cells #[.func (.func g) bs lb] 139)) :=
  not_rd g bs lb p _ _ _ eg (by simp) (box_cell _ _ _) (hp.later hb1)
 have hc := containsFunc_rd 129 #[] #[.pointer (some ⟨w.heap.size, 0, none⟩)] (fun x => !p x) A c xs _ (enters_of Try.func129 (by kernel_rfl) rfl) hn (Kd.C_below hr hb1)
 clear hp hr hn
 go_enter Try.func107, Try.ntmps107
 go_wp2_with (go_at_call 128; refine hc.mono ?_; rintro e w' ⟨rfl, hb'⟩)
 go_ret
 exact ⟨by rw [← HX.out]; rfl, hb1.trans (hb'.mono (by simp))⟩
set_option maxHeartbeats 1000000 in
/-- slices.IndexFunc at []sc. -/
theorem indexFunc_sc (g : Nat) (bs lb : Array Value) (p : Sc → Bool) (A : Option Addr) (c : Nat) (xs : List Sc) (w : World) (eg : Ent g)
    (hp : PassAt g bs lb (fun x => .agg #[.int .i64 x.h, .int .i64 x.l0, .int .i64 x.l1, .int .i64 x.l2, .int .i64 x.l3, .int .i64 x.l4]) p (fun x => x ∈ xs) w) (hr : Kd.C k133 w A xs.length xs) :
    Calls Try.prog 144 #[.slice A xs.length c, .func (.func g) bs lb] w fun e w' => e = .returned (.int .i64 (fIdx p xs)) ∧ Below w.heap.size w w' := by
 have hn : xs.length ≤ 9223372036854775807 := hr.2.1
 have HR := Aside0.mk hr
 have HP := Lib.hid hp
 clear hr hp
 unfold Ent at eg
 go_enter Try.func144, Try.ntmps144
 go_wp2
 go_loopg [5, 8] xs.length (fun gg _ s8 wr => ∃ kk : Nat, kk ≤ xs.length ∧ xs.length - kk ≤ gg ∧ s8 = .int .i64 kk ∧ Aside0 (Below w.heap.size w wr) ∧ Aside0 (∀ j, (h : j < xs.length) → j < kk → p xs[j] = false))
 case atStart => exact ⟨0, Nat.zero_le _, by omega, rfl, ⟨Below.refl _ w⟩, ⟨fun j _ hj => absurd hj (Nat.not_lt_zero _)⟩⟩
 case round =>
  obtain ⟨kk, hkk, hg, rfl, BW, HA⟩ := hrel
  by_cases hlt : kk < xs.length
  ·have hltz : (kk : Int) < (xs.length : Int) := by omega
   obtain ⟨ad, hA, hcell⟩ := row_at_sc (Kd.C_below HR.out BW.out) kk hlt
   obtain rfl := hA
   obtain ⟨hc0, hc1, hc2, hc3, hc4, hc5⟩ := hcell
   have hcall := HP.out wr xs[kk] (List.getElem_mem hlt) BW.out
   generalize hy : xs[kk] = y at hc0 hc1 hc2 hc3 hc4 hc5 hcall
   have HY := Lib.hid hy
   clear hy
   cases hq : p y with
   | true =>
    rw [hq] at hcall
    go_wp2_with (go_at_fn g; refine hcall.mono ?_; rintro e w' ⟨rfl, hb'⟩)
    go_ret
    refine ⟨?_, BW.out.trans (hb'.mono BW.out.size)⟩
    exact congrArg (fun z => Ending.returned (.int .i64 z)) (fIdx_hit p xs kk hlt (by rw [HY.out]; exact hq) HA.out).symm
   | false =>
    rw [hq] at hcall
    go_wp2_with (go_at_fn g; refine hcall.mono ?_; rintro e w' ⟨rfl, hb'⟩)
    go_roundg (xs.length - (kk + 1))
    case measure => omega
    case rel =>
     refine ⟨kk + 1, by omega, by omega, by go_num, ⟨BW.out.trans (hb'.mono BW.out.size)⟩, ⟨fun j hj hjk => ?_⟩⟩
     by_cases e : j = kk
     ·subst e
      rw [HY.out]; exact hq
     ·exact HA.out j hj (by omega)
  ·have hltz : ¬ (kk : Int) < (xs.length : Int) := by omega
   have : kk = xs.length := by omega
   subst this
   go_wp2
   go_ret
   refine ⟨?_, BW.out⟩
   exact congrArg (fun z => Ending.returned (.int .i64 z)) (fIdx_miss p xs HA.out).symm
set_option maxHeartbeats 1000000 in
/-- slices.ContainsFunc at []sc. -/
theorem containsFunc_sc (g : Nat) (bs lb : Array Value) (p : Sc → Bool) (A : Option Addr) (c : Nat) (xs : List Sc) (w : World) (eg : Ent g)
    (hp : PassAt g bs lb (fun x => .agg #[.int .i64 x.h, .int .i64 x.l0, .int .i64 x.l1, .int .i64 x.l2, .int .i64 x.l3, .int .i64 x.l4]) p (fun x => x ∈ xs) w) (hr : Kd.C k133 w A xs.length xs) :
    Calls Try.prog 141 #[.slice A xs.length c, .func (.func g) bs lb] w fun e w' => e = .returned (.bool (xs.any p)) ∧ Below w.heap.size w w' := by
 rw [← fIdx_nonneg]
 go_enter Try.func141, Try.ntmps141
 go_wp2_with (go_at_call 144; refine (indexFunc_sc g bs lb p A c xs _ eg hp hr).mono ?_; rintro e w' ⟨rfl, hb'⟩)
 go_ret
 exact ⟨rfl, hb'⟩
set_option maxRecDepth 100000 in
set_option maxHeartbeats 1000000 in
/-- The closure that 'all' makes: its predicate's contrary. -/
theorem not_sc (g : Nat) (bs lb : Array Value) (p : Sc → Bool) (ok : Sc → Prop) (w : World) (B : Nat) (eg : Ent g) (hB : B < w.heap.size) (hc : w.cell? ⟨B, 0, none⟩ = some (.func (.func g) bs lb))
    (hp : PassAt g bs lb (fun x => .agg #[.int .i64 x.h, .int .i64 x.l0, .int .i64 x.l1, .int .i64 x.l2, .int .i64 x.l3, .int .i64 x.l4]) p ok w) : PassAt 142 #[] #[.pointer (some ⟨B, 0, none⟩)] (fun x => .agg #[.int .i64 x.h, .int .i64 x.l0, .int .i64 x.l1, .int .i64 x.l2, .int .i64 x.l3, .int .i64 x.l4]) (fun x => !p x) ok w := by
 intro W x hx hb
 have hc' : W.cell? ⟨B, 0, none⟩ = some (.func (.func g) bs lb) := pw_cell_below hb hc
 have hBW : B < W.heap.size := Nat.lt_of_lt_of_le hB hb.size
 have HP := Lib.hid hp
 clear hp
 unfold Ent at eg
 have hu := Try.underlying133
 go_enter Try.func142, Try.ntmps142
 go_wp2_with (go_at_fn g; refine (HP.out _ x hx (by first | exact hb | exact below_alloc hb _)).mono ?_; rintro e w' ⟨rfl, hb'⟩)
 go_ret
 exact ⟨rfl, by first | exact hb' | exact (below_alloc (Below.refl _ _) _).trans (hb'.mono (by simp))⟩
set_option maxHeartbeats 1000000 in
/-- copper's 'all' at []sc. -/
theorem all_sc (g : Nat) (bs lb : Array Value) (p : Sc → Bool) (A : Option Addr) (c : Nat) (xs : List Sc) (w : World) (eg : Ent g)
    (hp : PassAt g bs lb (fun x => .agg #[.int .i64 x.h, .int .i64 x.l0, .int .i64 x.l1, .int .i64 x.l2, .int .i64 x.l3, .int .i64 x.l4]) p (fun x => x ∈ xs) w) (hr : Kd.C k133 w A xs.length xs) :
    Calls Try.prog 131 #[.slice A xs.length c, .func (.func g) bs lb] w fun e w' => e = .returned (.bool (xs.all p)) ∧ Below w.heap.size w w' := by
 have hx : (!(xs.any fun x => !p x)) = xs.all p := all_any p xs
 have HX := Lib.hid hx
 clear hx
 have hb1 : Below w.heap.size w (w.alloc (.cells #[.func (.func g) bs lb] 162)) := below_alloc (Below.refl _ _) _
 have hn : PassAt 142 #[] #[.pointer (some ⟨w.heap.size, 0, none⟩)] (fun x => .agg #[.int .i64 x.h, .int .i64 x.l0, .int .i64 x.l1, .int .i64 x.l2, .int .i64 x.l3, .int .i64 x.l4]) (fun x => !p x) (fun x => x ∈ xs) (w.alloc (.cells #[.func (.func g) bs lb] 162)) :=
  not_sc g bs lb p _ _ _ eg (by simp) (box_cell _ _ _) (hp.later hb1)
 have hc := containsFunc_sc 142 #[] #[.pointer (some ⟨w.heap.size, 0, none⟩)] (fun x => !p x) A c xs _ (enters_of Try.func142 (by kernel_rfl) rfl) hn (Kd.C_below hr hb1)
 clear hp hr hn
 go_enter Try.func131, Try.ntmps131
 go_wp2_with (go_at_call 141; refine hc.mono ?_; rintro e w' ⟨rfl, hb'⟩)
 go_ret
 exact ⟨by rw [← HX.out]; rfl, hb1.trans (hb'.mono (by simp))⟩
end Go.Proofs.Ytdgkhoflajdidaa
/- copper's small functions: within, inside, has, size, lost, buckets, hour, verdict, what is asked of the past, minimum, Clone. -/
namespace Go.Proofs.Ytdgkhoflajdidaa
open Go.RowKit Go.Proofs.YtdgkhoflajdidaaW.PrintWords Go.Proofs.Ytdgkhoflajdidaa.Print
set_option linter.unusedVariables false
set_option linter.unusedSimpArgs false
/-- Is n from lo to hi. -/
def inR (n lo hi : Int) : Bool := decide (lo ≤ n) && decide (n ≤ hi)
theorem inR_iff {n lo hi : Int} : inR n lo hi = true ↔ lo ≤ n ∧ n ≤ hi := by simp [inR]
/-- A range with a number, and only numbers up to m. -/
def inside (r : S35) (m : Int) : Bool := decide (0 ≤ r.f0) && (decide (r.f0 ≤ r.f1) && decide (r.f1 ≤ m))
theorem inside_iff {r : S35} {m : Int} : inside r m = true ↔ 0 ≤ r.f0 ∧ r.f0 ≤ r.f1 ∧ r.f1 ≤ m := by simp [inside]
theorem ret_bool {a b : Bool} (h : a = b) : Ending.returned (.bool a) = Ending.returned (.bool b) := by rw [h]
theorem ret_int {k : IntKind} {a b : Int} (h : a = b) : Ending.returned (.int k a) = Ending.returned (.int k b) := by rw [h]
theorem within_calls (n lo hi : Int) (w : World) : Calls Try.prog 102 #[.int .i64 n, .int .i64 lo, .int .i64 hi] w fun e w' => e = .returned (.bool (inR n lo hi)) ∧ w = w' := by
 by_cases h1 : lo ≤ n <;> by_cases h2 : n ≤ hi
 all_goals
  go_enter Try.func102, Try.ntmps102
  go_wp2
  go_ret
  exact ⟨ret_bool (by simp [inR]; omega), rfl⟩
theorem inside_calls (r : S35) (m : Int) (w : World) : Calls Try.prog 104 #[.agg #[.int .i64 r.f0, .int .i64 r.f1], .int .i64 m] w fun e w' => e = .returned (.bool (inside r m)) ∧ Below w.heap.size w w' := by
 obtain ⟨lo, hi⟩ := r
 have hu := Try.underlying35
 by_cases h1 : 0 ≤ lo <;> by_cases h2 : lo ≤ hi <;> by_cases h3 : hi ≤ m
 all_goals
  go_enter Try.func104, Try.ntmps104
  go_wp2
  go_ret
  exact ⟨ret_bool (by simp [inside]; omega), below_alloc (Below.refl _ _) _⟩
theorem has_calls (r : S35) (n : Int) (w : World) : Calls Try.prog 123 #[.agg #[.int .i64 r.f0, .int .i64 r.f1], .int .i64 n] w fun e w' => e = .returned (.bool (inR n r.f0 r.f1)) ∧ Below w.heap.size w w' := by
 have hu := Try.underlying35
 go_enter Try.func123, Try.ntmps123
 go_wp2_with (go_at_call 102; refine (within_calls _ _ _ _).mono ?_; rintro e w' ⟨rfl, rfl⟩)
 go_ret
 exact ⟨rfl, below_alloc (Below.refl _ _) _⟩
theorem size_calls (r : S35) (w : World) (h0 : 0 ≤ r.f0) (h1 : r.f0 ≤ r.f1) (h2 : r.f1 ≤ 99) : Calls Try.prog 108 #[.agg #[.int .i64 r.f0, .int .i64 r.f1]] w fun e w' => e = .returned (.int .i64 (r.f1 - r.f0 + 1)) ∧ Below w.heap.size w w' := by
 have hu := Try.underlying35
 go_enter Try.func108, Try.ntmps108
 go_wp2
 go_ret
 exact ⟨rfl, below_alloc (Below.refl _ _) _⟩
theorem lost_calls (r : S35) (w : World) : Calls Try.prog 106 #[.agg #[.int .i64 r.f0, .int .i64 r.f1]] w fun e w' => e = .returned (.bool (inside r 99)) ∧ Below w.heap.size w w' := by
 have hu := Try.underlying35
 go_enter Try.func106, Try.ntmps106
 go_wp2_with (go_at_call 104; refine (inside_calls r 99 _).mono ?_; rintro e w' ⟨rfl, hb'⟩)
 go_ret
 exact ⟨rfl, (below_alloc (Below.refl _ _) _).trans (hb'.mono (by simp))⟩
theorem buckets_calls (n : Int) (w : World) : Calls Try.prog 120 #[.int .i64 n] w fun e w' => e = .returned (.bool (inR n 0 20)) ∧ w = w' := by
 go_enter Try.func120, Try.ntmps120
 go_wp2_with (go_at_call 102; refine (within_calls _ _ _ _).mono ?_; rintro e w' ⟨rfl, rfl⟩)
 go_ret
 exact ⟨rfl, rfl⟩
theorem hour_calls (x : S38) (cs : List Value) (n : Int) (w : World) (hc : k38.K w x cs) : Calls Try.prog 85 #[.agg cs.toArray, .int .i64 n] w fun e w' => e = .returned (.bool (inR n 0 x.f0)) ∧ Below w.heap.size w w' := by
 obtain ⟨A5, c5, A6, c6, A9, c9, A10, c10, rfl, _⟩ := k38_open hc
 clear hc
 have hu := Try.underlying38
 go_enter Try.func85, Try.ntmps85
 go_wp2_with (go_at_call 102; refine (within_calls _ _ _ _).mono ?_; rintro e w' ⟨rfl, rfl⟩)
 go_ret
 exact ⟨rfl, below_alloc (Below.refl _ _) _⟩
/-- A verdict. -/
def vdict (r : S35) : Int := if 0 < r.f0 then 1 else if r.f1 = 0 then 2 else 3
theorem verdict_calls (r : S35) (w : World) : Calls Try.prog 98 #[.agg #[.int .i64 r.f0, .int .i64 r.f1]] w fun e w' => e = .returned (.int .i64 (vdict r)) ∧ Below w.heap.size w w' := by
 obtain ⟨lo, hi⟩ := r
 have hu := Try.underlying35
 by_cases h1 : 0 < lo
 ·have HX : Hid (vdict ⟨lo, hi⟩ = 1) := by unfold vdict; exact if_pos h1
  go_enter Try.func98, Try.ntmps98
  go_wp2
  go_ret
  refine ⟨?_, below_alloc (Below.refl _ _) _⟩
  rw [HX.out]; rfl
 ·by_cases h2 : hi = 0
  ·have HX : Hid (vdict ⟨lo, hi⟩ = 2) := by unfold vdict; exact (if_neg h1).trans (if_pos h2)
   have h2' : (hi == 0) = true := by simpa using h2
   have H2 := Lib.hid h2
   clear h2
   go_enter Try.func98, Try.ntmps98
   go_wp2
   go_ret
   refine ⟨?_, below_alloc (Below.refl _ _) _⟩
   rw [HX.out]; rfl
  ·have HX : Hid (vdict ⟨lo, hi⟩ = 3) := by unfold vdict; exact (if_neg h1).trans (if_neg h2)
   have h2' : (hi == 0) = false := by simpa using h2
   clear h2
   go_enter Try.func98, Try.ntmps98
   go_wp2
   go_ret
   refine ⟨?_, below_alloc (Below.refl _ _) _⟩
   rw [HX.out]; rfl
end Go.Proofs.Ytdgkhoflajdidaa
/- copper's further small functions: the past's methods, minimum, wider, Clone, promised, isCoal, reading. -/
namespace Go.Proofs.Ytdgkhoflajdidaa
open Go.RowKit Go.Proofs.YtdgkhoflajdidaaW.PrintWords Go.Proofs.YtdgkhoflajdidaaW.PrintMore Go.Proofs.YtdgkhoflajdidaaW.PrintLast Go.Proofs.Ytdgkhoflajdidaa.Print
attribute [local go_sem] max2_int min2_int max_two min_two max_three min_three max_four min_four
set_option linter.unusedVariables false
set_option linter.unusedSimpArgs false
theorem readsInt_of {w : World} {A : Option Addr} {xs : List Int} (h : Kd.C (Kd.int .i64) w A xs.length xs) : ReadsInt w .i64 A xs.length xs := by
 refine ⟨rfl, h.2.1, fun hn => ?_⟩
 obtain ⟨ad, e, _⟩ := row_at_int h 0 hn
 refine ⟨ad, e, fun j hj => ?_⟩
 obtain ⟨ad', e', hc⟩ := row_at_int h j hj
 have : ad = ad' := by rw [e] at e'; exact Option.some.inj e'
 subst this
 rw [hc]; simp [hj]
set_option maxHeartbeats 1000000 in
/-- slices.Clone at []int. -/
theorem clone_calls (A : Option Addr) (c : Nat) (xs : List Int) (w : World) (hr : Kd.C (Kd.int .i64) w A xs.length xs) (hl : xs.length ≤ 1000) :
    Calls Try.prog 91 #[.slice A xs.length c] w fun e w' => ∃ v : Value, e = .returned v ∧ w'.ownsRow w.heap.size 3 1 v xs.length (nums .i64 xs) ∧ Below w.heap.size w w' := by
 have HR := Aside0.mk hr
 have hnil := fun W => Lib.run_eql_slice_nil (P := Try.prog) W 22 3 A xs.length c 0 0 Try.underlying22
 clear hr
 cases A with
 | none =>
  have h0 : xs = [] := by
   have h2 := HR.out.2.2
   rcases Nat.eq_zero_or_pos xs.length with h | h
   ·exact List.eq_nil_of_length_eq_zero h
   ·obtain ⟨ad, e, _⟩ := h2 h; cases e
  have H0 := Lib.hid h0
  clear h0
  go_enter Try.func91, Try.ntmps91
  go_wp2
  go_ret
  refine ⟨_, rfl, ?_, Below.refl _ _⟩
  rw [H0.out]
  exact own_nil _ _ _ _
 | some ad =>
  go_enter Try.func91, Try.ntmps91
  have hRI := Aside0.mk (ReadsInt.below (readsInt_of HR.out) (below_alloc (Below.refl _ w) (.cells #[] 3)))
  have hown : Aside0 ((w.alloc (.cells #[] 3)).ownsRow w.heap.size 3 1 (.slice (some ⟨w.heap.size, 0, none⟩) 0 0) ([] : List Int).length (nums .i64 [])) := ⟨own_lit w w.heap.size 3 .i64 [] (Nat.le_refl _) (by simp)⟩
  go_wp2_with (at_builtin; refine print_append_row (w0 := w) w.heap.size rfl (.tmp 5) (.tmp 6) 22 3 .i64 8 rfl Try.underlying22 info3 (by decide) _ [] xs (some ad) xs.length c rfl rfl hown.out hRI.out (below_alloc (Below.refl _ _) _) (by simp) (by simp; omega) ?_; intro v1 w1 ho1 hb1 hg1 hat)
  go_ret
  exact ⟨_, rfl, by simpa using ho1, hb1⟩
/-- The smaller of two. -/
def mn2 (a b : Int) : Int := if b < a then b else a
/-- The greater of two. -/
def mx2 (a b : Int) : Int := if a < b then b else a
theorem mn2_eq (a b : Int) : mn2 a b = min a b := by unfold mn2; omega
theorem mx2_eq (a b : Int) : mx2 a b = max a b := by unfold mx2; omega
set_option maxHeartbeats 1000000 in
/-- slices.Min of two numbers. -/
theorem min_calls (g cp : Nat) (a b : Int) (w : World) (h0 : w.cell? ⟨g, 0, none⟩ = some (.int .i64 a)) (h1 : w.cell? ⟨g, 1, none⟩ = some (.int .i64 b)) :
    Calls Try.prog 130 #[.slice (some ⟨g, 0, none⟩) 2 cp] w fun e w' => e = .returned (.int .i64 (mn2 a b)) ∧ w = w' := by
 go_enter Try.func130, Try.ntmps130
 go_wp2
 go_loop [3, 4] (fun m i => (i = .int .i64 1 ∧ m = .int .i64 a) ∨ (i = .int .i64 2 ∧ m = .int .i64 (mn2 a b))) (fun _ i => (2 - intOf i).toNat)
 case atStart => exact .inl ⟨rfl, rfl⟩
 case round =>
  rcases hrel with ⟨rfl, rfl⟩ | ⟨rfl, rfl⟩
  ·go_wp2
   all_goals
    go_round
    case rel => exact .inr ⟨rfl, rfl⟩
    case measure => simp [intOf]
  ·go_wp2
   go_ret
   exact ⟨rfl, rfl⟩
set_option maxHeartbeats 1000000 in
/-- minimum of two numbers, which lie in a block of the caller's. -/
theorem minimum_calls (g cp : Nat) (a b : Int) (w : World) (h0 : w.cell? ⟨g, 0, none⟩ = some (.int .i64 a)) (h1 : w.cell? ⟨g, 1, none⟩ = some (.int .i64 b)) :
    Calls Try.prog 109 #[.slice (some ⟨g, 0, none⟩) 2 cp] w fun e w' => e = .returned (.int .i64 (mn2 a b)) ∧ w = w' := by
 go_enter Try.func109, Try.ntmps109
 go_wp2_with (go_at_call 130; refine (min_calls g cp a b _ h0 h1).mono ?_; rintro e w' ⟨rfl, rfl⟩)
 go_ret
 exact ⟨rfl, rfl⟩
set_option maxHeartbeats 1000000 in
set_option maxRecDepth 100000 in
/-- The range that has a number, too. -/
theorem wider_calls (r : S35) (n : Int) (w : World) : Calls Try.prog 118 #[.agg #[.int .i64 r.f0, .int .i64 r.f1], .int .i64 n] w fun e w' => e = .returned (.agg #[.int .i64 (mn2 r.f0 n), .int .i64 (mx2 r.f1 n)]) ∧ Below w.heap.size w w' := by
 have hu := Try.underlying35
 go_enter Try.func118, Try.ntmps118
 go_wp2
 have hz := World.size_alloc w (.cells #[.int .i64 r.f0, .int .i64 r.f1] 35)
 have c0 : ((w.alloc (.cells #[.int .i64 r.f0, .int .i64 r.f1] 35)).alloc (.cells #[.int .i64 0, .int .i64 0] 35)).cell? ⟨w.heap.size, 0, none⟩ = some (.int .i64 r.f0) := cell_al _ (cell_last w _ _ _ rfl 0 _ rfl)
 have c1 : ((w.alloc (.cells #[.int .i64 r.f0, .int .i64 r.f1] 35)).alloc (.cells #[.int .i64 0, .int .i64 0] 35)).cell? ⟨w.heap.size, 1, none⟩ = some (.int .i64 r.f1) := cell_al _ (cell_last w _ _ _ rfl 1 _ rfl)
 refine start_ (n := 11) (S := fun w' => w'.cell? ⟨w.heap.size, 0, none⟩ = some (.int .i64 r.f0) ∧ w'.cell? ⟨w.heap.size, 1, none⟩ = some (.int .i64 r.f1)) (ds := [10]) #[false, false, false, false, false, false, false, false, false, false, false] (by kernel_rfl) rfl rfl ⟨c0, c1⟩ (fun hHeld => ?_)
 refine pure_ (i := 0) (N := some 5) (v := ?_) (a' := ?_) (bs 11 1) rfl rfl (by kernel_rfl) (fun _ _ _ h => h) (Or.inl ⟨by rfl, ?_⟩) ?_ ?_
 rotate_left
 ·intro w'
  go_simp
  with_reducible rfl
 rotate_left
 ·simp only [Act.put, List.setIfInBounds_toArray, List.set_cons_zero, List.set_cons_succ, i64_w, i32_w]
  rfl
 refine pure_ (i := 2) (N := some 7) (v := ?_) (a' := ?_) (bs 11 5) rfl rfl (by kernel_rfl) (fun _ _ _ h => h) (Or.inl ⟨by rfl, ?_⟩) ?_ ?_
 rotate_left
 ·intro w'
  go_simp
  with_reducible rfl
 rotate_left
 ·simp only [Act.put, List.setIfInBounds_toArray, List.set_cons_zero, List.set_cons_succ, i64_w, i32_w]
  rfl
 refine pure_ (i := 5) (N := some 10) (v := ?_) (a' := ?_) (bs 11 37) rfl rfl (by kernel_rfl) (fun _ _ _ h => h) (Or.inl ⟨by rfl, ?_⟩) ?_ ?_
 rotate_left
 ·intro w'
  go_simp
  with_reducible rfl
 rotate_left
 ·simp only [Act.put, List.setIfInBounds_toArray, List.set_cons_zero, List.set_cons_succ, i64_w, i32_w]
  rfl
 refine pure_ (i := 7) (N := some 12) (v := ?_) (a' := ?_) (bs 11 165) rfl rfl (by kernel_rfl) (fun _ _ _ h => h) (Or.inl ⟨by rfl, ?_⟩) ?_ ?_
 rotate_left
 ·intro w'
  go_simp
  with_reducible rfl
 rotate_left
 ·simp only [Act.put, List.setIfInBounds_toArray, List.set_cons_zero, List.set_cons_succ, i64_w, i32_w]
  rfl
 refine take_ (i := 1) (N := some 6) (v := ?_) (a' := ?_) (bs 11 167) rfl rfl (by kernel_rfl) (fun _ _ _ h => h) (Or.inl ⟨by rfl, ?_⟩) hHeld ?_ ?_
 rotate_left
 ·rintro w' ⟨s0, s1⟩
  go_simp
  with_reducible rfl
 rotate_left
 ·simp only [Act.put, List.setIfInBounds_toArray, List.set_cons_zero, List.set_cons_succ, i64_w, i32_w]
  rfl
 refine take_ (i := 6) (N := some 11) (v := ?_) (a' := ?_) (bs 11 231) rfl rfl (by kernel_rfl) (fun _ _ _ h => h) (Or.inl ⟨by rfl, ?_⟩) hHeld ?_ ?_
 rotate_left
 ·rintro w' ⟨s0, s1⟩
  go_simp
  with_reducible rfl
 rotate_left
 ·simp only [Act.put, List.setIfInBounds_toArray, List.set_cons_zero, List.set_cons_succ, i64_w, i32_w]
  rfl
 refine pure_ (i := 8) (N := some 13) (v := ?_) (a' := ?_) (bs 11 487) rfl rfl (by kernel_rfl) (fun _ _ _ h => h) (Or.inl ⟨by rfl, ?_⟩) ?_ ?_
 rotate_left
 ·intro w'
  go_simp
  with_reducible rfl
 rotate_left
 ·simp only [Act.put, List.setIfInBounds_toArray, List.set_cons_zero, List.set_cons_succ, i64_w, i32_w]
  rfl
 refine one_ (i := 3) (N := some 8) (bs 11 495) rfl rfl (by kernel_rfl) (by decide) (fun K hK => ?_)
 refine value_ (w1 := ?_) (v := ?_) (by rfl) rfl ?_ ?_
 rotate_left 2
 ·go_simp
  constructor
  ·rfl
  ·rfl
 refine hK.out _ _ ⟨(cell_al _ hHeld.1), (cell_al _ hHeld.2)⟩ (fun hHeld => ?_)
 clear hK K
 refine norm_ (a' := ?_) ?_ ?_
 rotate_left
 ·show Act.put _ (some 8) _ = _
  simp only [Act.put, List.setIfInBounds_toArray, List.set_cons_zero, List.set_cons_succ, i64_w, i32_w]
  rfl
 refine one_ (i := 4) (N := some 9) (bs 11 511) rfl rfl (by kernel_rfl) (by decide) (fun K hK => ?_)
 refine goes_ Try.func109 (by kernel_rfl) rfl #[.slice (some ⟨w.heap.size + 1 + 1, 0, none⟩) 2 2] (by rfl) rfl rfl (by simp only [List.map_toArray, List.map_cons, List.map_nil]; rfl) ?_
 with_reducible refine (minimum_calls _ _ r.f0 n _ (cell_lastD _ _ _ _ (by simp) 0 _ rfl) (cell_lastD _ _ _ _ (by simp) 1 _ rfl)).mono ?_
 rintro e w3 ⟨rfl, rfl⟩
 refine ⟨_, rfl, ?_⟩
 refine hK.out _ _ ⟨hHeld.1, hHeld.2⟩ (fun hHeld => ?_)
 clear hK K
 refine norm_ (a' := ?_) ?_ ?_
 rotate_left
 ·show Act.put _ (some 9) _ = _
  simp only [Act.put, List.setIfInBounds_toArray, List.set_cons_zero, List.set_cons_succ, i64_w, i32_w]
  rfl
 refine pure_ (i := 9) (N := some 14) (v := ?_) (a' := ?_) (bs 11 1023) rfl rfl (by kernel_rfl) (fun _ _ _ h => h) (Or.inl ⟨by rfl, ?_⟩) ?_ ?_
 rotate_left
 ·intro w'
  go_simp
  with_reducible rfl
 rotate_left
 ·simp only [Act.put, List.setIfInBounds_toArray, List.set_cons_zero, List.set_cons_succ, i64_w, i32_w]
  rfl
 refine last_ (i := 10) (N := none) (bs 11 2047) rfl rfl (by kernel_rfl) (by decide) (fun K hK => ?_)
 refine skip_ (w1 := ?_) (by rfl) rfl ?_ ?_
 rotate_left
 ·go_simp
  rfl
 refine hK.out _ _ ?_
 clear hK K
 refine done_ (by kernel_rfl) ?_
 clear hHeld
 generalize hm : (if r.f1 < n then n else r.f1) = m
 have HM := Lib.hid (show mx2 r.f1 n = m from hm)
 clear hm
 go_wp2
 refine bodyPost_ret (v := .agg #[.int .i64 (mn2 r.f0 n), .int .i64 (mx2 r.f1 n)]) (by simp [results, Try.results118, go_sem]; exact HM.out.symm) rfl ⟨rfl, ?_⟩
 repeat (first | exact Below.refl _ _ | apply below_alloc | apply below_drew)
end Go.Proofs.Ytdgkhoflajdidaa
/- slices.Index and Contains at []int and []bool; what is asked of the past; promised, isCoal, reading. -/
namespace Go.Proofs.Ytdgkhoflajdidaa
open Go.RowKit Go.Proofs.YtdgkhoflajdidaaW.PrintWords Go.Proofs.YtdgkhoflajdidaaW.PrintMore Go.Proofs.YtdgkhoflajdidaaW.PrintLast Go.Proofs.Ytdgkhoflajdidaa.Print
set_option linter.unusedVariables false
set_option linter.unusedSimpArgs false
theorem row_at_bool {w : World} {A : Option Addr} {xs : List Bool} (h : Kd.C Kd.bool w A xs.length xs) (kk : Nat) (hk : kk < xs.length) : ∃ ad, A = some ad ∧ w.cell? (ad.add kk) = some (.bool xs[kk]) := by
 obtain ⟨ad, c, e, hx, hK, hc⟩ := Kd.C_get h false (kk : Int) (by omega) (by omega)
 refine ⟨ad, e, ?_⟩
 have h1 : c = [Value.bool (xs.getD (kk : Int).toNat false)] := hK
 have h2 := hc 0 (Value.bool (xs.getD (kk : Int).toNat false)) (by rw [h1]; rfl)
 have h3 : Kd.bool.sz = 1 := rfl
 rw [h3] at h2
 simpa [hk] using h2
theorem all_contains (xs : List Bool) : (xs.any fun y => false == y) = !(xs.all id) := by
 induction xs with
 | nil => rfl
 | cons x r ih => rw [List.any_cons, List.all_cons, ih]; cases x <;> rfl
set_option maxHeartbeats 1000000 in
/-- slices.Index at []int. -/
theorem index_int (v : Int) (A : Option Addr) (c : Nat) (xs : List Int) (w : World) (hr : Kd.C (Kd.int .i64) w A xs.length xs) :
    Calls Try.prog 138 #[.slice A xs.length c, .int .i64 v] w fun e w' => e = .returned (.int .i64 (fIdx (fun y => v == y) xs)) ∧ w = w' := by
 have hn : xs.length ≤ 9223372036854775807 := hr.2.1
 have HR := Aside0.mk hr
 clear hr
 go_enter Try.func138, Try.ntmps138
 go_wp2
 go_loop [5, 8] (fun _ s8 => ∃ kk : Nat, kk ≤ xs.length ∧ s8 = .int .i64 kk ∧ Aside0 (∀ j, (h : j < xs.length) → j < kk → (v == xs[j]) = false)) (fun _ i => xs.length - (intOf i).toNat)
 case atStart => exact ⟨0, Nat.zero_le _, rfl, ⟨fun j _ hj => absurd hj (Nat.not_lt_zero _)⟩⟩
 case round =>
  obtain ⟨kk, hkk, rfl, HA⟩ := hrel
  by_cases hlt : kk < xs.length
  ·have hltz : (kk : Int) < (xs.length : Int) := by omega
   obtain ⟨ad, hA, hc0⟩ := row_at_int HR.out kk hlt
   obtain rfl := hA
   generalize hy : xs[kk] = y at hc0
   have HY := Lib.hid hy
   clear hy
   cases hq : (v == y) with
   | true =>
    have HQ := Lib.hid hq
    go_wp2
    go_ret
    exact ⟨congrArg (fun z => Ending.returned (.int .i64 z)) (fIdx_hit _ xs kk hlt (by rw [HY.out]; exact HQ.out) HA.out).symm, rfl⟩
   | false =>
    have HQ := Lib.hid hq
    go_wp2
    go_round
    case rel =>
     refine ⟨kk + 1, by omega, by go_num, ⟨fun j hj hjk => ?_⟩⟩
     by_cases e : j = kk
     ·subst e
      rw [HY.out]; exact HQ.out
     ·exact HA.out j hj (by omega)
    case measure => simp [intOf]; omega
  ·have hltz : ¬ (kk : Int) < (xs.length : Int) := by omega
   have : kk = xs.length := by omega
   subst this
   go_wp2
   go_ret
   exact ⟨congrArg (fun z => Ending.returned (.int .i64 z)) (fIdx_miss _ xs HA.out).symm, rfl⟩
set_option maxHeartbeats 1000000 in
/-- slices.Contains at []int. -/
theorem contains_int (v : Int) (A : Option Addr) (c : Nat) (xs : List Int) (w : World) (hr : Kd.C (Kd.int .i64) w A xs.length xs) :
    Calls Try.prog 124 #[.slice A xs.length c, .int .i64 v] w fun e w' => e = .returned (.bool (xs.any fun y => v == y)) ∧ w = w' := by
 rw [← fIdx_nonneg]
 go_enter Try.func124, Try.ntmps124
 go_wp2_with (go_at_call 138; refine (index_int v A c xs _ hr).mono ?_; rintro e w' ⟨rfl, rfl⟩)
 go_ret
 exact ⟨rfl, rfl⟩
set_option maxHeartbeats 1000000 in
/-- slices.Index at []bool. -/
theorem index_bool (v : Bool) (A : Option Addr) (c : Nat) (xs : List Bool) (w : World) (hr : Kd.C Kd.bool w A xs.length xs) :
    Calls Try.prog 143 #[.slice A xs.length c, .bool v] w fun e w' => e = .returned (.int .i64 (fIdx (fun y => v == y) xs)) ∧ w = w' := by
 have hn : xs.length ≤ 9223372036854775807 := hr.2.1
 have HR := Aside0.mk hr
 clear hr
 go_enter Try.func143, Try.ntmps143
 go_wp2
 go_loop [5, 8] (fun _ s8 => ∃ kk : Nat, kk ≤ xs.length ∧ s8 = .int .i64 kk ∧ Aside0 (∀ j, (h : j < xs.length) → j < kk → (v == xs[j]) = false)) (fun _ i => xs.length - (intOf i).toNat)
 case atStart => exact ⟨0, Nat.zero_le _, rfl, ⟨fun j _ hj => absurd hj (Nat.not_lt_zero _)⟩⟩
 case round =>
  obtain ⟨kk, hkk, rfl, HA⟩ := hrel
  by_cases hlt : kk < xs.length
  ·have hltz : (kk : Int) < (xs.length : Int) := by omega
   obtain ⟨ad, hA, hc0⟩ := row_at_bool HR.out kk hlt
   obtain rfl := hA
   generalize hy : xs[kk] = y at hc0
   have HY := Lib.hid hy
   clear hy
   cases hq : (v == y) with
   | true =>
    have HQ := Lib.hid hq
    go_wp2
    go_ret
    exact ⟨congrArg (fun z => Ending.returned (.int .i64 z)) (fIdx_hit _ xs kk hlt (by rw [HY.out]; exact HQ.out) HA.out).symm, rfl⟩
   | false =>
    have HQ := Lib.hid hq
    go_wp2
    go_round
    case rel =>
     refine ⟨kk + 1, by omega, by go_num, ⟨fun j hj hjk => ?_⟩⟩
     by_cases e : j = kk
     ·subst e
      rw [HY.out]; exact HQ.out
     ·exact HA.out j hj (by omega)
    case measure => simp [intOf]; omega
  ·have hltz : ¬ (kk : Int) < (xs.length : Int) := by omega
   have : kk = xs.length := by omega
   subst this
   go_wp2
   go_ret
   exact ⟨congrArg (fun z => Ending.returned (.int .i64 z)) (fIdx_miss _ xs HA.out).symm, rfl⟩
set_option maxHeartbeats 1000000 in
/-- slices.Contains at []bool. -/
theorem contains_bool (v : Bool) (A : Option Addr) (c : Nat) (xs : List Bool) (w : World) (hr : Kd.C Kd.bool w A xs.length xs) :
    Calls Try.prog 133 #[.slice A xs.length c, .bool v] w fun e w' => e = .returned (.bool (xs.any fun y => v == y)) ∧ w = w' := by
 rw [← fIdx_nonneg]
 go_enter Try.func133, Try.ntmps133
 go_wp2_with (go_at_call 143; refine (index_bool v A c xs _ hr).mono ?_; rintro e w' ⟨rfl, rfl⟩)
 go_ret
 exact ⟨rfl, rfl⟩
set_option maxRecDepth 100000 in
set_option maxHeartbeats 1000000 in
theorem pastHot_calls (p : S114) (cs : List Value) (hour : Nat) (w : World) (hp : k114.K w p cs) (hh : hour < p.f0.length) :
    Calls Try.prog 78 #[.agg cs.toArray, .int .i64 hour] w fun e w' => e = .returned (.int .i64 p.f0[hour]) ∧ Below w.heap.size w w' := by
 obtain ⟨A0, c0, A1, c1, A2, c2, rfl, _, h0, _, h1, _, h2⟩ := k114_open hp
 obtain ⟨ad, hA, hc0⟩ := row_at_int h0 hour hh
 obtain rfl := hA
 have hc1 := cell_al (.cells #[.slice (some ad) p.f0.length c0, .slice A1 p.f1.length c1, .slice A2 p.f2.length c2] 114) hc0
 have hlen : p.f0.length ≤ 9223372036854775807 := h0.2.1
 have hhz : (hour : Int) < (p.f0.length : Int) := by omega
 clear hp h0 h1 h2 hc0
 have hu := Try.underlying114
 go_enter Try.func78, Try.ntmps78
 go_wp2
 go_ret
 exact ⟨rfl, below_alloc (Below.refl _ _) _⟩
set_option maxRecDepth 100000 in
set_option maxHeartbeats 1000000 in
theorem pastLeft_calls (p : S114) (cs : List Value) (hour : Nat) (w : World) (hp : k114.K w p cs) (hh : hour < p.f1.length) :
    Calls Try.prog 80 #[.agg cs.toArray, .int .i64 hour] w fun e w' => e = .returned (.int .i64 p.f1[hour]) ∧ Below w.heap.size w w' := by
 obtain ⟨A0, c0, A1, c1, A2, c2, rfl, _, h0, _, h1, _, h2⟩ := k114_open hp
 obtain ⟨ad, hA, hc0⟩ := row_at_int h1 hour hh
 obtain rfl := hA
 have hc1 := cell_al (.cells #[.slice A0 p.f0.length c0, .slice (some ad) p.f1.length c1, .slice A2 p.f2.length c2] 114) hc0
 have hlen : p.f1.length ≤ 9223372036854775807 := h1.2.1
 have hhz : (hour : Int) < (p.f1.length : Int) := by omega
 clear hp h0 h1 h2 hc0
 have hu := Try.underlying114
 go_enter Try.func80, Try.ntmps80
 go_wp2
 go_ret
 exact ⟨rfl, below_alloc (Below.refl _ _) _⟩
set_option maxRecDepth 100000 in
set_option maxHeartbeats 1000000 in
theorem pastKept_calls (p : S114) (cs : List Value) (hour : Nat) (w : World) (hp : k114.K w p cs) (hh : hour < p.f2.length) :
    Calls Try.prog 99 #[.agg cs.toArray, .int .i64 hour] w fun e w' => e = .returned (.int .i64 (if p.f2[hour] then 1 else 0)) ∧ Below w.heap.size w w' := by
 obtain ⟨A0, c0, A1, c1, A2, c2, rfl, _, h0, _, h1, _, h2⟩ := k114_open hp
 obtain ⟨ad, hA, hc0⟩ := row_at_bool h2 hour hh
 obtain rfl := hA
 have hc1 := cell_al (.cells #[.slice A0 p.f0.length c0, .slice A1 p.f1.length c1, .slice (some ad) p.f2.length c2] 114) hc0
 have hlen : p.f2.length ≤ 9223372036854775807 := h2.2.1
 have hhz : (hour : Int) < (p.f2.length : Int) := by omega
 clear hp h0 h1 h2 hc0
 have hu := Try.underlying114
 cases hk : p.f2[hour] with
 | true =>
  rw [hk] at hc1
  clear hk
  go_enter Try.func99, Try.ntmps99
  go_wp2
  go_ret
  exact ⟨rfl, below_alloc (Below.refl _ _) _⟩
 | false =>
  rw [hk] at hc1
  clear hk
  go_enter Try.func99, Try.ntmps99
  go_wp2
  go_ret
  exact ⟨rfl, below_alloc (Below.refl _ _) _⟩
set_option maxRecDepth 100000 in
set_option maxHeartbeats 1000000 in
theorem pastWhole_calls (p : S114) (cs : List Value) (n : Int) (w : World) (hp : k114.K w p cs) :
    Calls Try.prog 121 #[.agg cs.toArray, .int .i64 n] w fun e w' => e = .returned (.int .i64 (if p.f2.all id then 1 else 0)) ∧ Below w.heap.size w w' := by
 obtain ⟨A0, c0, A1, c1, A2, c2, rfl, _, h0, _, h1, _, h2⟩ := k114_open hp
 have hcall := fun o => contains_bool false A2 c2 p.f2 (w.alloc o) (Kd.C_below h2 (below_alloc (Below.refl _ _) o))
 have hall := all_contains p.f2
 clear hp h0 h1 h2
 have hu := Try.underlying114
 cases hk : p.f2.all id with
 | true =>
  rw [hall, hk] at hcall
  clear hall hk
  go_enter Try.func121, Try.ntmps121
  go_wp2_with (go_at_call 133; refine (hcall _).mono ?_; rintro e w' ⟨rfl, rfl⟩)
  go_ret
  exact ⟨rfl, below_alloc (Below.refl _ _) _⟩
 | false =>
  rw [hall, hk] at hcall
  clear hall hk
  go_enter Try.func121, Try.ntmps121
  go_wp2_with (go_at_call 133; refine (hcall _).mono ?_; rintro e w' ⟨rfl, rfl⟩)
  go_ret
  exact ⟨rfl, below_alloc (Below.refl _ _) _⟩
end Go.Proofs.Ytdgkhoflajdidaa
/- copper's tests of lists: promised, isCoal, reading. -/
namespace Go.Proofs.Ytdgkhoflajdidaa
open Go.RowKit Go.Proofs.YtdgkhoflajdidaaW.PrintWords Go.Proofs.YtdgkhoflajdidaaW.PrintMore Go.Proofs.YtdgkhoflajdidaaW.PrintLast Go.Proofs.Ytdgkhoflajdidaa.Print
set_option linter.unusedVariables false
set_option linter.unusedSimpArgs false
/-- One number for each hour, each from 0 to m. -/
def forHours (last : Int) (l : List Int) (m : Int) : Bool := ((l.length : Int) == wrap64 (last + 1)) && l.all (fun n => inR n 0 m)
/-- A valid reading. -/
def readingB (last : Int) (r : S119) : Bool := inR r.f0 0 last && inside r.f1 999
theorem pass_buckets (w : World) (xs : List Int) : PassAt 120 #[] #[] (Value.int .i64) (fun n => inR n 0 20) (fun x => x ∈ xs) w := fun W x _ hb =>
 (buckets_calls x W).mono fun e w' ⟨he, hw⟩ => ⟨he, hw ▸ Below.refl _ _⟩
set_option maxRecDepth 100000 in
set_option maxHeartbeats 1000000 in
theorem promised_calls (x : S38) (cs : List Value) (A : Option Addr) (c : Nat) (l : List Int) (w : World) (hx : k38.K w x cs) (hr : Kd.C (Kd.int .i64) w A l.length l) :
    Calls Try.prog 83 #[.agg cs.toArray, .slice A l.length c] w fun e w' => e = .returned (.bool (forHours x.f0 l 20)) ∧ Below w.heap.size w w' := by
 obtain ⟨A5, c5, A6, c6, A9, c9, A10, c10, rfl, _⟩ := k38_open hx
 have hcall := fun o => all_int 120 #[] #[] (fun n => inR n 0 20) A c l (w.alloc o) (enters_of Try.func120 (by kernel_rfl) rfl) (pass_buckets _ _) (Kd.C_below hr (below_alloc (Below.refl _ _) o))
 clear hx hr
 have hu := Try.underlying38
 cases h : ((l.length : Int) == wrap64 (x.f0 + 1)) with
 | true =>
  have HF := Lib.hid (show forHours x.f0 l 20 = (((l.length : Int) == wrap64 (x.f0 + 1)) && l.all (fun n => inR n 0 20)) from rfl)
  go_enter Try.func83, Try.ntmps83
  go_wp2_with (go_at_call 119; refine (hcall _).mono ?_; rintro e w' ⟨rfl, hb'⟩)
  go_ret
  exact ⟨ret_bool (by rw [HF.out, h, Bool.true_and]), (below_alloc (Below.refl _ _) _).trans (hb'.mono (by simp))⟩
 | false =>
  have HF := Lib.hid (show forHours x.f0 l 20 = (((l.length : Int) == wrap64 (x.f0 + 1)) && l.all (fun n => inR n 0 20)) from rfl)
  clear hcall
  go_enter Try.func83, Try.ntmps83
  go_wp2
  go_ret
  exact ⟨ret_bool (by rw [HF.out, h, Bool.false_and]), below_alloc (Below.refl _ _) _⟩
set_option maxRecDepth 100000 in
set_option maxHeartbeats 1000000 in
/-- The closure of isCoal. -/
theorem coalOne_calls (sh : Int) (B : Nat) (w : World) (hB : B < w.heap.size) (hc : w.cell? ⟨B, 4, none⟩ = some (.int .i64 sh)) (xs : List Int) :
    PassAt 125 #[] #[.pointer (some ⟨B, 0, none⟩)] (Value.int .i64) (fun n => inR n 0 sh) (fun x => x ∈ xs) w := by
 intro W n _ hb
 have hc' : W.cell? ⟨B, 4, none⟩ = some (.int .i64 sh) := pw_cell_below hb hc
 have hu := Try.underlying38
 clear hc
 go_enter Try.func125, Try.ntmps125
 go_wp2_with (go_at_call 102; refine (within_calls _ _ _ _).mono ?_; rintro e w' ⟨rfl, rfl⟩)
 go_ret
 exact ⟨rfl, Below.refl _ _⟩
set_option maxRecDepth 100000 in
set_option maxHeartbeats 1000000 in
theorem isCoal_calls (x : S38) (cs : List Value) (A : Option Addr) (c : Nat) (l : List Int) (w : World) (hx : k38.K w x cs) (hr : Kd.C (Kd.int .i64) w A l.length l) :
    Calls Try.prog 103 #[.agg cs.toArray, .slice A l.length c] w fun e w' => e = .returned (.bool (forHours x.f0 l x.f4)) ∧ Below w.heap.size w w' := by
 obtain ⟨A5, c5, A6, c6, A9, c9, A10, c10, rfl, _⟩ := k38_open hx
 have hcall := fun (o : Array Value) (ho : o[4]? = some (.int .i64 x.f4)) => all_int 125 #[] #[.pointer (some ⟨w.heap.size, 0, none⟩)] (fun n => inR n 0 x.f4) A c l (w.alloc (.cells o 38)) (enters_of Try.func125 (by kernel_rfl) rfl)
  (coalOne_calls x.f4 w.heap.size (w.alloc (.cells o 38)) (by simp) (cell_last w o 38 _ rfl 4 _ ho) l) (Kd.C_below hr (below_alloc (Below.refl _ _) _))
 clear hx hr
 have hu := Try.underlying38
 have HF := Lib.hid (show forHours x.f0 l x.f4 = (((l.length : Int) == wrap64 (x.f0 + 1)) && l.all (fun n => inR n 0 x.f4)) from rfl)
 cases h : ((l.length : Int) == wrap64 (x.f0 + 1)) with
 | true =>
  go_enter Try.func103, Try.ntmps103
  go_wp2_with (go_at_call 119; refine (hcall _ rfl).mono ?_; rintro e w' ⟨rfl, hb'⟩)
  go_ret
  exact ⟨ret_bool (by rw [HF.out, h, Bool.true_and]), (below_alloc (Below.refl _ _) _).trans (hb'.mono (by simp))⟩
 | false =>
  clear hcall
  go_enter Try.func103, Try.ntmps103
  go_wp2
  go_ret
  exact ⟨ret_bool (by rw [HF.out, h, Bool.false_and]), below_alloc (Below.refl _ _) _⟩
set_option maxRecDepth 100000 in
set_option maxHeartbeats 1000000 in
theorem reading_calls (x : S38) (cs : List Value) (r : S119) (w : World) (hx : k38.K w x cs) :
    Calls Try.prog 101 #[.agg cs.toArray, .agg #[.int .i64 r.f0, .int .i64 r.f1.f0, .int .i64 r.f1.f1]] w fun e w' => e = .returned (.bool (readingB x.f0 r)) ∧ Below w.heap.size w w' := by
 obtain ⟨A5, c5, A6, c6, A9, c9, A10, c10, hcs, l5, g5, l6, g6, l9, g9, l10, g10⟩ := k38_open hx
 have HX := Aside0.mk hx
 clear hx
 subst hcs
 have hu := Try.underlying38
 have hu2 := Try.underlying119
 have HF := Lib.hid (show readingB x.f0 r = (inR r.f0 0 x.f0 && inside r.f1 999) from rfl)
 have hcall := fun o o2 => hour_calls x _ r.f0 ((w.alloc o).alloc o2) (k38.K_below (below_alloc (below_alloc (Below.refl _ _) o) o2) HX.out)
 clear l5 g5 l6 g6 l9 g9 l10 g10
 have hd1 := fun o => cell_last (w.alloc o) #[.int .i64 r.f0, .int .i64 r.f1.f0, .int .i64 r.f1.f1] 119 (w.heap.size + 1) (by simp) 1 (.int .i64 r.f1.f0) rfl
 have hd2 := fun o => cell_last (w.alloc o) #[.int .i64 r.f0, .int .i64 r.f1.f0, .int .i64 r.f1.f1] 119 (w.heap.size + 1) (by simp) 2 (.int .i64 r.f1.f1) rfl
 have HD1 := Lib.hid hd1
 have HD2 := Lib.hid hd2
 clear hd1 hd2
 have hb0 := fun o o2 => below_alloc (below_alloc (Below.refl w.heap.size w) o) o2
 cases h : inR r.f0 0 x.f0 with
 | true =>
  rw [h] at hcall
  go_enter Try.func101, Try.ntmps101
  go_wp2_with (first | (go_at_call 85; refine (hcall _ _).mono ?_; rintro e w' ⟨rfl, hb'⟩; have d1 := pw_cell_below hb' (HD1.out _); have d2 := pw_cell_below hb' (HD2.out _)) | (go_at_call 104; refine (inside_calls r.f1 999 _).mono ?_; rintro e w2 ⟨rfl, hb2⟩))
  go_ret
  exact ⟨ret_bool (by rw [HF.out, h, Bool.true_and]), bel2 (bel2 (hb0 _ _) hb') hb2⟩
 | false =>
  rw [h] at hcall
  go_enter Try.func101, Try.ntmps101
  go_wp2_with (go_at_call 85; refine (hcall _ _).mono ?_; rintro e w' ⟨rfl, hb'⟩)
  go_ret
  exact ⟨ret_bool (by rw [HF.out, h, Bool.false_and]), bel2 (hb0 _ _) hb'⟩
end Go.Proofs.Ytdgkhoflajdidaa
