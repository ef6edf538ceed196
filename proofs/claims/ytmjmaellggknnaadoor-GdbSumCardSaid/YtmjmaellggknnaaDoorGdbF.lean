import Derived.Test.YtmjmaellggknnaaDoorGdbE
import Derived.Shelf.Strings.AsciiSet
import Derived.Lib.IndexAny
import Derived.Lib.Builder
import Derived.Lib.SlTrimSet
namespace Go.Proofs.YtmjmaellggknnaaDoor.PGdbBack
open Go.Lib Go.RowKit Go.Proofs.YtmjmaellggknnaaDoorW.PrintWords Go.Proofs.YtmjmaellggknnaaDoorW.PrintLast Go.Proofs.YtmjmaellggknnaaDoorW.PrintMore
attribute [local go_sem] max2_int min2_int max_two min_two max_three min_three max_four min_four   -- for this text's walks alone
set_option linter.unusedVariables false
set_option linter.unusedSimpArgs false


theorem set43 : (Tryd.prog.info? 43).map (fun i => (i.zero, i.size)) = some (some (.agg (Array.replicate 256 (.bool false))), 256) := by kernel_rfl

section
set_option maxHeartbeats 4000000 in
set_option maxRecDepth 1000000 in
theorem makeSet (chars : ByteArray) (w : World) (hs : chars.size < 4294967281) (hascii : ∀ (j : Nat) b, chars.data.toList[j]? = some b → b.toNat < 128) :
    Calls Tryd.prog 18 #[.string chars] w fun e w' => e = .returned (.tuple #[.agg (Lib.setCells chars.data.toList), .bool true]) ∧ w' = w.alloc (.cells (Lib.setCells chars.data.toList) 43) := by
  have HA : Aside (∀ (j : Nat) b, chars.data.toList[j]? = some b → b.toNat < 128) := hascii
  clear hascii
  have hv43 := (zero_of_info set43).1
  have hi43 := (zero_of_info set43).2
  go_enter Tryd.func18, Tryd.ntmps18
  go_wp2
  rw [← Lib.setCells_nil]
  go_loopg [4] chars.size (fun g s4 wx => ∃ i : Nat, i + g = chars.size ∧ s4 = .int .i64 i ∧ wx = w.alloc (.cells (Lib.setCells (chars.data.toList.take i)) 43))
  case atStart => exact ⟨0, by omega, rfl, rfl⟩
  case round =>
    obtain ⟨i, hig, rfl, rfl⟩ := hrel
    cases gk with
    | zero =>
      obtain rfl : i = chars.size := by omega
      have hiz : ¬ ((chars.size : Int) < (chars.size : Int)) := by omega
      rw [show chars.data.toList.take chars.size = chars.data.toList from List.take_of_length_le (by rw [← Lib.size_eq]; exact Nat.le_refl _)]
      have hld := run_loadVar_new (P := Tryd.prog) w 43 (Lib.setCells chars.data.toList) 256 4 Tryd.underlying43 (by rw [Lib.setCells_size]; exact hi43)
      have hsz := Lib.setCells_size chars.data.toList
      have hlc := run_loadCellsFrom_new (P := Tryd.prog) w 43 (Lib.setCells chars.data.toList) 256 hsz
      have hsc := run_storeCells_new (P := Tryd.prog) w 43 (Lib.setCells chars.data.toList) (Lib.setCells chars.data.toList) (by rw [hsz]; exact hi43) rfl (Lib.setCells_one _)
      have hload : ∀ (ev : Operand → Value) (o : Oper), o.op = .load 43 (.tmp 2) → ev (.tmp 2) = .pointer (some ⟨w.heap.size, 0, none⟩) → (execOp ev o).run Tryd.prog (w.alloc (.cells (Lib.setCells chars.data.toList) 43)) = .ok (.value (.agg (Lib.setCells chars.data.toList))) (w.alloc (.cells (Lib.setCells chars.data.toList) 43)) := by
        intro ev o ho he
        simp [execOp, ho, he, Instr.loadAt, Instr.sureAddr, asAddr, Result.andThen, hld]
      have HS : Aside _ := hsc
      clear hsc hlc hld
      go_wp2
      unfold Oper.wp
      rw [hload _ _ rfl rfl]
      rw [Oper.upon_value]
      go_wp2
      simp only [HS.out, Result.andThen]
      rw [Oper.upon_skip]
      go_wp2
      (try simp only [Exit.inBlock, Exit.then])
      refine bodyPost_ret (v := .tuple #[.agg (Lib.setCells chars.data.toList), .bool true]) ?_ rfl ⟨rfl, rfl⟩
      rw [results_cell_tmp rfl]
      simp [asAddr, Result.andThen, run_loadVar_new (P := Tryd.prog) w 43 (Lib.setCells chars.data.toList) 256 4 Tryd.underlying43 (by rw [Lib.setCells_size]; exact hi43)]
    | succ g =>
      have hi : i < chars.size := by omega
      have hiz : (i : Int) < (chars.size : Int) := by omega
      obtain ⟨x, hx⟩ : ∃ x : UInt8, chars[i]'hi = x := ⟨_, rfl⟩
      have hxl : chars.data.toList[i]? = some x := by rw [← hx]; exact Lib.data_getElem? chars i hi
      have hx128 : ¬ ((128 : Int) ≤ (x.toNat : Int)) := by have := HA.out i x hxl; omega
      have hx256 : (x.toNat : Int) < 256 := by have := HA.out i x hxl; omega
      have hcell := Lib.setCells_at (chars.data.toList.take i) x
      have Hx : Aside (chars.data.toList[i]? = some x) := hxl
      clear hxl
      go_wp2
      go_roundg g
      case measure => omega
      case rel => exact ⟨i + 1, by omega, by first | rfl | simp, by rw [List.take_add_one, Hx.out]; simp only [Option.toList]; rw [Lib.setCells_snoc]⟩

set_option maxHeartbeats 2000000 in
set_option maxRecDepth 1000000 in
theorem setContains (b : Nat) (x : UInt8) (v : Bool) (w : World) (hc : w.cell? ⟨b, x.toNat, none⟩ = some (.bool v)) :
    Calls Tryd.prog 19 #[.pointer (some ⟨b, 0, none⟩), .int .u8 x.toNat] w fun e w' => e = .returned (.bool v) ∧ w' = w := by
  have hx256 : (x.toNat : Int) < 256 := by have := UInt8.toNat_lt x; omega
  go_enter Tryd.func19, Tryd.ntmps19
  go_wp2
  go_ret
  exact ⟨rfl, rfl⟩

theorem shouldSet (n : Int) (w : World) : Calls Tryd.prog 17 #[.int .i64 n] w fun e w' => e = .returned (.bool (decide (8 < n))) ∧ w' = w := by
  go_enter Tryd.func17, Tryd.ntmps17
  go_wp2
  go_ret
  exact ⟨rfl, rfl⟩
end
end Go.Proofs.YtmjmaellggknnaaDoor.PGdbBack
