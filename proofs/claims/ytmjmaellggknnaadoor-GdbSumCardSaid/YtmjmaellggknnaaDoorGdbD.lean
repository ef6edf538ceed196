import Derived.Test.YtmjmaellggknnaaDoorGdbA
import Derived.Shelf.Unicode.DecodeAny
import Derived.Shelf.Unicode.DecodeSlow
import Derived.Lib.SlBytesConst
namespace Go.Proofs.YtmjmaellggknnaaDoor.PGdbBack
open Go.Lib Go.RowKit Go.Proofs.YtmjmaellggknnaaDoorW.PrintWords Go.Proofs.YtmjmaellggknnaaDoorW.PrintLast Go.Proofs.YtmjmaellggknnaaDoorW.PrintMore
attribute [local go_sem] max2_int min2_int max_two min_two max_three min_three max_four min_four   -- for this text's walks alone
set_option linter.unusedVariables false
set_option linter.unusedSimpArgs false


/-- The bytes of a row that is read. -/
def Row (w : World) (A : Option Addr) (bs : List UInt8) : Prop := ∀ j (hj : j < bs.length), ∃ ad, A = some ad ∧ w.cell? (ad.add j) = some (.int .u8 (bs[j].toNat : Int))

set_option maxHeartbeats 8000000 in
set_option maxRecDepth 1000000 in
theorem decodeSlow (bs : List UInt8) (ad : Addr) (c : Nat) (w : World) (hT : Lib.Utf8Tabs 1 2 w) (h0 : 0 < bs.length) (hl : bs.length ≤ 9223372036854775807)
    (x0 x1 x2 x3 : UInt8) (hx0 : bs[0]? = some x0) (hx1 : 1 < bs.length → bs[1]? = some x1) (hx2 : 2 < bs.length → bs[2]? = some x2) (hx3 : 3 < bs.length → bs[3]? = some x3)
    (hc : ∀ j b, bs[j]? = some b → w.cell? (ad.add j) = some (.int .u8 (b.toNat : Int))) :
    Calls Tryd.prog 26 #[.slice (some ad) bs.length c] w fun e w' => e = .returned (.tuple #[.int .i32 (decodeN bs.length x0.toNat x1.toNat x2.toNat x3.toNat).1, .int .i64 (decodeN bs.length x0.toNat x1.toNat x2.toNat x3.toNat).2]) ∧ Below w.heap.size w w' := by
  have hz0 : (0 : Int) < (bs.length : Int) := by omega
  have hz0' : ¬ ((bs.length : Int) < 1) := by omega
  have l0 := x0.toNat_lt; have l1 := x1.toNat_lt; have l2 := x2.toNat_lt; have l3 := x3.toNat_lt
  have hs0 := hc 0 x0 hx0
  have hs0' : w.cell? ad = some (.int .u8 (x0.toNat : Int)) := by simpa [Addr.add] using hs0
  have hc0 := hT.1 x0.toNat (by omega)
  have hres : firstT x0.toNat < 240 → decodeN bs.length x0.toNat x1.toNat x2.toNat x3.toNat = slowN bs.length x0.toNat x1.toNat x2.toNat x3.toNat (firstT x0.toNat % 8) (accLo (firstT x0.toNat / 16)) (accHi (firstT x0.toNat / 16)) :=
    fun h => (Lib.slow_eq _ _ _ _ _ (by omega) (by omega) (by omega) (by omega) h).symm
  rcases Lib.firstT_cases x0.toNat with hX | hX | hX | hX | hX | hX | hX | hX | hX
  · rw [Lib.ascii_eq _ _ _ _ _ hX]
    rw [hX] at hc0
    clear hres hT hX
    go_enter Tryd.func26, Tryd.ntmps26
    go_wp2
    rw [Utf8W.mask240, Utf8W.keep_byte ⟨x0.toNat, l0⟩]
    go_ret2
    exact ⟨rfl, Below.refl _ _⟩
  · rw [Lib.bad_eq _ _ _ _ _ (by omega) hX]
    rw [hX] at hc0
    clear hres hT hX
    go_enter Tryd.func26, Tryd.ntmps26
    go_wp2
    rw [Utf8W.mask241, Utf8W.drop_byte ⟨x0.toNat, l0⟩]
    go_ret2
    exact ⟨rfl, Below.refl _ _⟩
  all_goals replace hres := hres (by omega)
  · rw [hX] at hc0 hres
    have ha0 := (hT.2 0 (by omega)).1
    have ha1 := (hT.2 0 (by omega)).2
    simp only [accLo, accHi, Nat.reduceMul, Nat.reduceAdd, Nat.reduceEqDiff, if_true, if_false, Nat.reduceMod, Nat.reduceDiv] at ha0 ha1 hres
    rw [hres]
    clear hres hT hX
    by_cases hn : bs.length < 2
    · have hnz : (bs.length : Int) < 2 := by omega
      clear hc
      go_enter Tryd.func26, Tryd.ntmps26
      go_wp2
      all_goals (go_ret2; refine ⟨?_, (Below.refl _ _).alloc (Nat.le_refl _) _⟩; utf8_leaf)
    · have hnz : ¬ ((bs.length : Int) < 2) := by omega
      have hz1 : (1 : Int) < (bs.length : Int) := by omega
      have hs1 : ∀ o, (w.alloc o).cell? { block := ad.block, off := ad.off + 1 } = some (.int .u8 (x1.toNat : Int)) := fun o => Lib.cell?_alloc_marked o (hc 1 x1 (hx1 (by omega)))
      clear hc
      go_enter Tryd.func26, Tryd.ntmps26
      go_wp2
      all_goals (go_ret2; refine ⟨?_, (Below.refl _ _).alloc (Nat.le_refl _) _⟩; utf8_leaf)
  · rw [hX] at hc0 hres
    have ha0 := (hT.2 1 (by omega)).1
    have ha1 := (hT.2 1 (by omega)).2
    simp only [accLo, accHi, Nat.reduceMul, Nat.reduceAdd, Nat.reduceEqDiff, if_true, if_false, Nat.reduceMod, Nat.reduceDiv] at ha0 ha1 hres
    rw [hres]
    clear hres hT hX
    by_cases hn : bs.length < 3
    · have hnz : (bs.length : Int) < 3 := by omega
      clear hc
      go_enter Tryd.func26, Tryd.ntmps26
      go_wp2
      all_goals (go_ret2; refine ⟨?_, (Below.refl _ _).alloc (Nat.le_refl _) _⟩; utf8_leaf)
    · have hnz : ¬ ((bs.length : Int) < 3) := by omega
      have hz1 : (1 : Int) < (bs.length : Int) := by omega
      have hs1 : ∀ o, (w.alloc o).cell? { block := ad.block, off := ad.off + 1 } = some (.int .u8 (x1.toNat : Int)) := fun o => Lib.cell?_alloc_marked o (hc 1 x1 (hx1 (by omega)))
      have hz2 : (2 : Int) < (bs.length : Int) := by omega
      have hs2 : ∀ o, (w.alloc o).cell? { block := ad.block, off := ad.off + 2 } = some (.int .u8 (x2.toNat : Int)) := fun o => Lib.cell?_alloc_marked o (hc 2 x2 (hx2 (by omega)))
      clear hc
      go_enter Tryd.func26, Tryd.ntmps26
      go_wp2
      all_goals (go_ret2; refine ⟨?_, (Below.refl _ _).alloc (Nat.le_refl _) _⟩; utf8_leaf)
  · rw [hX] at hc0 hres
    have ha0 := (hT.2 0 (by omega)).1
    have ha1 := (hT.2 0 (by omega)).2
    simp only [accLo, accHi, Nat.reduceMul, Nat.reduceAdd, Nat.reduceEqDiff, if_true, if_false, Nat.reduceMod, Nat.reduceDiv] at ha0 ha1 hres
    rw [hres]
    clear hres hT hX
    by_cases hn : bs.length < 3
    · have hnz : (bs.length : Int) < 3 := by omega
      clear hc
      go_enter Tryd.func26, Tryd.ntmps26
      go_wp2
      all_goals (go_ret2; refine ⟨?_, (Below.refl _ _).alloc (Nat.le_refl _) _⟩; utf8_leaf)
    · have hnz : ¬ ((bs.length : Int) < 3) := by omega
      have hz1 : (1 : Int) < (bs.length : Int) := by omega
      have hs1 : ∀ o, (w.alloc o).cell? { block := ad.block, off := ad.off + 1 } = some (.int .u8 (x1.toNat : Int)) := fun o => Lib.cell?_alloc_marked o (hc 1 x1 (hx1 (by omega)))
      have hz2 : (2 : Int) < (bs.length : Int) := by omega
      have hs2 : ∀ o, (w.alloc o).cell? { block := ad.block, off := ad.off + 2 } = some (.int .u8 (x2.toNat : Int)) := fun o => Lib.cell?_alloc_marked o (hc 2 x2 (hx2 (by omega)))
      clear hc
      go_enter Tryd.func26, Tryd.ntmps26
      go_wp2
      all_goals (go_ret2; refine ⟨?_, (Below.refl _ _).alloc (Nat.le_refl _) _⟩; utf8_leaf)
  · rw [hX] at hc0 hres
    have ha0 := (hT.2 2 (by omega)).1
    have ha1 := (hT.2 2 (by omega)).2
    simp only [accLo, accHi, Nat.reduceMul, Nat.reduceAdd, Nat.reduceEqDiff, if_true, if_false, Nat.reduceMod, Nat.reduceDiv] at ha0 ha1 hres
    rw [hres]
    clear hres hT hX
    by_cases hn : bs.length < 3
    · have hnz : (bs.length : Int) < 3 := by omega
      clear hc
      go_enter Tryd.func26, Tryd.ntmps26
      go_wp2
      all_goals (go_ret2; refine ⟨?_, (Below.refl _ _).alloc (Nat.le_refl _) _⟩; utf8_leaf)
    · have hnz : ¬ ((bs.length : Int) < 3) := by omega
      have hz1 : (1 : Int) < (bs.length : Int) := by omega
      have hs1 : ∀ o, (w.alloc o).cell? { block := ad.block, off := ad.off + 1 } = some (.int .u8 (x1.toNat : Int)) := fun o => Lib.cell?_alloc_marked o (hc 1 x1 (hx1 (by omega)))
      have hz2 : (2 : Int) < (bs.length : Int) := by omega
      have hs2 : ∀ o, (w.alloc o).cell? { block := ad.block, off := ad.off + 2 } = some (.int .u8 (x2.toNat : Int)) := fun o => Lib.cell?_alloc_marked o (hc 2 x2 (hx2 (by omega)))
      clear hc
      go_enter Tryd.func26, Tryd.ntmps26
      go_wp2
      all_goals (go_ret2; refine ⟨?_, (Below.refl _ _).alloc (Nat.le_refl _) _⟩; utf8_leaf)
  · rw [hX] at hc0 hres
    have ha0 := (hT.2 3 (by omega)).1
    have ha1 := (hT.2 3 (by omega)).2
    simp only [accLo, accHi, Nat.reduceMul, Nat.reduceAdd, Nat.reduceEqDiff, if_true, if_false, Nat.reduceMod, Nat.reduceDiv] at ha0 ha1 hres
    rw [hres]
    clear hres hT hX
    by_cases hn : bs.length < 4
    · have hnz : (bs.length : Int) < 4 := by omega
      clear hc
      go_enter Tryd.func26, Tryd.ntmps26
      go_wp2
      all_goals (go_ret2; refine ⟨?_, (Below.refl _ _).alloc (Nat.le_refl _) _⟩; utf8_leaf)
    · have hnz : ¬ ((bs.length : Int) < 4) := by omega
      have hz1 : (1 : Int) < (bs.length : Int) := by omega
      have hs1 : ∀ o, (w.alloc o).cell? { block := ad.block, off := ad.off + 1 } = some (.int .u8 (x1.toNat : Int)) := fun o => Lib.cell?_alloc_marked o (hc 1 x1 (hx1 (by omega)))
      have hz2 : (2 : Int) < (bs.length : Int) := by omega
      have hs2 : ∀ o, (w.alloc o).cell? { block := ad.block, off := ad.off + 2 } = some (.int .u8 (x2.toNat : Int)) := fun o => Lib.cell?_alloc_marked o (hc 2 x2 (hx2 (by omega)))
      have hz3 : (3 : Int) < (bs.length : Int) := by omega
      have hs3 : ∀ o, (w.alloc o).cell? { block := ad.block, off := ad.off + 3 } = some (.int .u8 (x3.toNat : Int)) := fun o => Lib.cell?_alloc_marked o (hc 3 x3 (hx3 (by omega)))
      clear hc
      go_enter Tryd.func26, Tryd.ntmps26
      go_wp2
      all_goals (go_ret2; refine ⟨?_, (Below.refl _ _).alloc (Nat.le_refl _) _⟩; utf8_leaf)
  · rw [hX] at hc0 hres
    have ha0 := (hT.2 0 (by omega)).1
    have ha1 := (hT.2 0 (by omega)).2
    simp only [accLo, accHi, Nat.reduceMul, Nat.reduceAdd, Nat.reduceEqDiff, if_true, if_false, Nat.reduceMod, Nat.reduceDiv] at ha0 ha1 hres
    rw [hres]
    clear hres hT hX
    by_cases hn : bs.length < 4
    · have hnz : (bs.length : Int) < 4 := by omega
      clear hc
      go_enter Tryd.func26, Tryd.ntmps26
      go_wp2
      all_goals (go_ret2; refine ⟨?_, (Below.refl _ _).alloc (Nat.le_refl _) _⟩; utf8_leaf)
    · have hnz : ¬ ((bs.length : Int) < 4) := by omega
      have hz1 : (1 : Int) < (bs.length : Int) := by omega
      have hs1 : ∀ o, (w.alloc o).cell? { block := ad.block, off := ad.off + 1 } = some (.int .u8 (x1.toNat : Int)) := fun o => Lib.cell?_alloc_marked o (hc 1 x1 (hx1 (by omega)))
      have hz2 : (2 : Int) < (bs.length : Int) := by omega
      have hs2 : ∀ o, (w.alloc o).cell? { block := ad.block, off := ad.off + 2 } = some (.int .u8 (x2.toNat : Int)) := fun o => Lib.cell?_alloc_marked o (hc 2 x2 (hx2 (by omega)))
      have hz3 : (3 : Int) < (bs.length : Int) := by omega
      have hs3 : ∀ o, (w.alloc o).cell? { block := ad.block, off := ad.off + 3 } = some (.int .u8 (x3.toNat : Int)) := fun o => Lib.cell?_alloc_marked o (hc 3 x3 (hx3 (by omega)))
      clear hc
      go_enter Tryd.func26, Tryd.ntmps26
      go_wp2
      all_goals (go_ret2; refine ⟨?_, (Below.refl _ _).alloc (Nat.le_refl _) _⟩; utf8_leaf)
  · rw [hX] at hc0 hres
    have ha0 := (hT.2 4 (by omega)).1
    have ha1 := (hT.2 4 (by omega)).2
    simp only [accLo, accHi, Nat.reduceMul, Nat.reduceAdd, Nat.reduceEqDiff, if_true, if_false, Nat.reduceMod, Nat.reduceDiv] at ha0 ha1 hres
    rw [hres]
    clear hres hT hX
    by_cases hn : bs.length < 4
    · have hnz : (bs.length : Int) < 4 := by omega
      clear hc
      go_enter Tryd.func26, Tryd.ntmps26
      go_wp2
      all_goals (go_ret2; refine ⟨?_, (Below.refl _ _).alloc (Nat.le_refl _) _⟩; utf8_leaf)
    · have hnz : ¬ ((bs.length : Int) < 4) := by omega
      have hz1 : (1 : Int) < (bs.length : Int) := by omega
      have hs1 : ∀ o, (w.alloc o).cell? { block := ad.block, off := ad.off + 1 } = some (.int .u8 (x1.toNat : Int)) := fun o => Lib.cell?_alloc_marked o (hc 1 x1 (hx1 (by omega)))
      have hz2 : (2 : Int) < (bs.length : Int) := by omega
      have hs2 : ∀ o, (w.alloc o).cell? { block := ad.block, off := ad.off + 2 } = some (.int .u8 (x2.toNat : Int)) := fun o => Lib.cell?_alloc_marked o (hc 2 x2 (hx2 (by omega)))
      have hz3 : (3 : Int) < (bs.length : Int) := by omega
      have hs3 : ∀ o, (w.alloc o).cell? { block := ad.block, off := ad.off + 3 } = some (.int .u8 (x3.toNat : Int)) := fun o => Lib.cell?_alloc_marked o (hc 3 x3 (hx3 (by omega)))
      clear hc
      go_enter Tryd.func26, Tryd.ntmps26
      go_wp2
      all_goals (go_ret2; refine ⟨?_, (Below.refl _ _).alloc (Nat.le_refl _) _⟩; utf8_leaf)

end Go.Proofs.YtmjmaellggknnaaDoor.PGdbBack
