import Derived.Test.YtmjmaellggknnaaDoorGdbF
import Derived.Lib.IndexAny
namespace Go.Proofs.YtmjmaellggknnaaDoor.PGdbBack
open Go.Lib Go.RowKit Go.Proofs.YtmjmaellggknnaaDoorW.PrintWords Go.Proofs.YtmjmaellggknnaaDoorW.PrintLast Go.Proofs.YtmjmaellggknnaaDoorW.PrintMore
attribute [local go_sem] max2_int min2_int max_two min_two max_three min_three max_four min_four   -- for this text's walks alone
set_option linter.unusedVariables false
set_option linter.unusedSimpArgs false


section
set_option maxHeartbeats 8000000 in
set_option maxRecDepth 1000000 in
theorem indexAny_long (bs : List UInt8) (ad : Addr) (c : Nat) (chars : ByteArray) (w : World) (h8 : 8 < bs.length) (hl : bs.length ≤ 9223372036854775807) (h2 : 2 ≤ chars.size) (hcs : chars.size < 4294967281)
    (hascii : ∀ (j : Nat) b, chars.data.toList[j]? = some b → b.toNat < 128)
    (hc : ∀ j b, bs[j]? = some b → w.cell? (ad.add j) = some (.int .u8 (b.toNat : Int))) :
    Calls Tryd.prog 14 #[.slice (some ad) bs.length c, .string chars] w fun e w' => e = .returned (.int .i64 (Lib.indexAny bs chars.data.toList)) ∧ Below w.heap.size w w' := by
  have hM := makeSet chars w hcs hascii
  clear hascii
  have hemp : chars.toList.isEmpty = false := by
    rw [Lib.toList_data]
    cases h : chars.data.toList with
    | nil => have := Lib.size_eq chars; rw [h, List.length_nil] at this; omega
    | cons _ _ => rfl
  have hn1 : ((chars.size : Int) == 1) = false := beq_eq_false_iff_ne.2 (by omega)
  have hb1 : ((bs.length : Int) == 1) = false := beq_eq_false_iff_ne.2 (by omega)
  have h8z : decide ((8 : Int) < (bs.length : Int)) = true := decide_eq_true (by omega)
  have hv43 := (zero_of_info set43).1
  have hi43 := (zero_of_info set43).2
  have hsc : (storeCells ⟨w.heap.size + 1, 0, none⟩ (Lib.setCells chars.data.toList).toList 0).run Tryd.prog ((w.alloc (.cells (Lib.setCells chars.data.toList) 43)).alloc (.cells (Array.replicate 256 (.bool false)) 43)) = .ok () ((w.alloc (.cells (Lib.setCells chars.data.toList) 43)).alloc (.cells (Lib.setCells chars.data.toList) 43)) := by
    have := run_storeCells_new (P := Tryd.prog) (w.alloc (.cells (Lib.setCells chars.data.toList) 43)) 43 (Array.replicate 256 (.bool false)) (Lib.setCells chars.data.toList) (by rw [Lib.setCells_size]; exact hi43) (by rw [Lib.setCells_size, Array.size_replicate]) (Lib.setCells_one _)
    simpa using this
  have hsz := Lib.setCells_size chars.data.toList
  have HC : Aside (∀ x : UInt8, ((w.alloc (.cells (Lib.setCells chars.data.toList) 43)).alloc (.cells (Lib.setCells chars.data.toList) 43)).cell? ⟨w.heap.size + 1, x.toNat, none⟩ = some (.bool (chars.data.toList.contains x))) := fun x => by
    rw [World.cell?_alloc_at _ _ _ _ (by simp), Lib.setCells_at]
  have HR : Aside (∀ j b, bs[j]? = some b → ((w.alloc (.cells (Lib.setCells chars.data.toList) 43)).alloc (.cells (Lib.setCells chars.data.toList) 43)).cell? (ad.add j) = some (.int .u8 (b.toNat : Int))) := fun j b hb => Lib.cell?_alloc_marked _ (Lib.cell?_alloc_marked _ (hc j b hb))
  clear hc
  have HS : Aside _ := hsc
  clear hsc
  go_enter Tryd.func14, Tryd.ntmps14
  go_wp2_with (first | ((with_reducible refine gate_callee (f := 17) rfl ?_); refine goesL_ (some 53) rfl rfl Tryd.func17 (by kernel_rfl) rfl #[.int .i64 bs.length] rfl (by (try simp only [List.map_toArray, List.map_cons, List.map_nil]); first | done | rfl) ?_; (with_reducible refine (shouldSet _ _).mono ?_); rintro e w' ⟨rfl, hw⟩; rw [hw, h8z]; refine ⟨_, rfl, ?_⟩) | ((with_reducible refine gate_callee (f := 18) rfl ?_); refine goesL_ (some 56) rfl rfl Tryd.func18 (by kernel_rfl) rfl #[.string chars] rfl (by (try simp only [List.map_toArray, List.map_cons, List.map_nil]); first | done | rfl) ?_; (with_reducible refine (hM).mono ?_); rintro e w' ⟨rfl, hw⟩; rw [hw]; refine ⟨_, rfl, ?_⟩))
  simp only [HS.out, Result.andThen]
  rw [Oper.upon_skip]
  go_wp2
  clear hM
  go_loopg [9, 10, 62] bs.length (fun g s9 s10 s62 wx => ∃ i : Nat, i + g = bs.length ∧ s62 = .int .i64 i ∧ wx = ((w.alloc (.cells (Lib.setCells chars.data.toList) 43)).alloc (.cells (Lib.setCells chars.data.toList) 43)) ∧ Lib.NoAny bs chars.data.toList i)
  case atStart => exact ⟨0, by omega, rfl, rfl, Lib.NoAny.zero _ _⟩
  case round =>
    obtain ⟨i, hig, rfl, rfl, hno⟩ := hrel
    have HN : Aside (Lib.NoAny bs chars.data.toList i) := hno
    clear hno
    cases gk with
    | zero =>
      obtain rfl : i = bs.length := by omega
      have hiz : ¬ ((bs.length : Int) < (bs.length : Int)) := by omega
      go_wp2
      go_ret
      exact ⟨by rw [Lib.indexAny_none HN.out]; rfl, by repeat (first | exact Below.refl _ _ | apply below_alloc)⟩
    | succ g =>
      have hi : i < bs.length := by omega
      have hiz : (i : Int) < (bs.length : Int) := by omega
      obtain ⟨x, hx⟩ : ∃ x : UInt8, bs[i]'hi = x := ⟨_, rfl⟩
      have hxl : bs[i]? = some x := by rw [← hx]; exact List.getElem?_eq_getElem hi
      have hcell := HR.out i x hxl
      have Hx : Aside (bs[i]? = some x) := hxl
      clear hxl hx
      have hcx := HC.out x
      cases hin : chars.data.toList.contains x <;> rw [hin] at hcx
      · go_wp2_with (first | ((with_reducible refine gate_callee (f := 19) rfl ?_); refine goesL_ (some 68) rfl rfl Tryd.func19 (by kernel_rfl) rfl #[.pointer (some ⟨w.heap.size + 1, 0, none⟩), .int .u8 x.toNat] rfl (by (try simp only [List.map_toArray, List.map_cons, List.map_nil]); first | done | rfl) ?_; (with_reducible refine (setContains _ x _ _ hcx).mono ?_); rintro e w' ⟨rfl, hw⟩; rw [hw]; refine ⟨_, rfl, ?_⟩))
        go_roundg g
        case measure => omega
        case rel => exact ⟨i + 1, by omega, by first | rfl | simp, rfl, HN.out.succ Hx.out hin⟩
      · go_wp2_with (first | ((with_reducible refine gate_callee (f := 19) rfl ?_); refine goesL_ (some 68) rfl rfl Tryd.func19 (by kernel_rfl) rfl #[.pointer (some ⟨w.heap.size + 1, 0, none⟩), .int .u8 x.toNat] rfl (by (try simp only [List.map_toArray, List.map_cons, List.map_nil]); first | done | rfl) ?_; (with_reducible refine (setContains _ x _ _ hcx).mono ?_); rintro e w' ⟨rfl, hw⟩; rw [hw]; refine ⟨_, rfl, ?_⟩))
        go_ret
        exact ⟨by rw [Lib.indexAny_hit HN.out Hx.out hin]; rfl, by repeat (first | exact Below.refl _ _ | apply below_alloc)⟩
end
end Go.Proofs.YtmjmaellggknnaaDoor.PGdbBack
