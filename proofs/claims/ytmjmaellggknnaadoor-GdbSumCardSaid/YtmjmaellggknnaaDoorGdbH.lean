import Derived.Test.YtmjmaellggknnaaDoorGdbG
import Derived.Lib.IndexEntry
import Derived.Lib.Bytealg
import Derived.Laws.RangeString
import Derived.Handy
namespace Go.Proofs.YtmjmaellggknnaaDoor.PGdbBack
set_option linter.unusedSimpArgs false
set_option linter.unusedVariables false
open Go.Lib Go.RowKit Go.Proofs.YtmjmaellggknnaaDoorW.PrintWords Go.Proofs.YtmjmaellggknnaaDoorW.PrintLast Go.Proofs.YtmjmaellggknnaaDoorW.PrintMore
set_option linter.unusedVariables false

theorem ext15 (s : ByteArray) (c : Int) (w : World) : (callFunc 15 #[.string s, .int .u8 c]).run Tryd.prog w = .ok (.value (.int .i64 (Lib.indexByte s.data.toList c.toNat.toUInt8))) w := by
  rw [run_callFunc_extern Tryd.func15 (by kernel_rfl) (by kernel_rfl) (by kernel_rfl) (e := Extern.BytealgIndexByte.indexByte) (by kernel_rfl), Lib.run_indexByteString]
  rfl

theorem ext21 (a b : ByteArray) (w : World) (m : Int) (hm : w.cell? ⟨0, 0, none⟩ = some (.int .i64 m)) (h2 : 2 ≤ b.size) (hb : (b.size : Int) ≤ m) (ha : a.size < 4294967281) :
    (callFunc 21 #[.string a, .string b]).run Tryd.prog w = .ok (.value (.int .i64 (Lib.index a.data.toList b.data.toList))) w := by
  rw [run_callFunc_extern Tryd.func21 (by kernel_rfl) (by kernel_rfl) (by kernel_rfl) (e := Extern.BytealgIndex.index) (by kernel_rfl), Lib.run_indexString a b w 0 m (by kernel_rfl) hm h2 hb ha]
  rfl

/-- What a decoded non-ASCII start gives. -/
def DP (n b1 b2 b3 : Nat) (p : Nat × Nat) : Prop :=
    1 ≤ p.2 ∧ p.2 ≤ n ∧ p.2 ≤ 4 ∧ 128 ≤ p.1 ∧ (1 < p.2 → 128 ≤ b1) ∧ (2 < p.2 → 128 ≤ b2) ∧ (3 < p.2 → 128 ≤ b3) ∧
    (p.1 = 65533 ∨ ((p.1 < 55296 ∨ (57344 ≤ p.1 ∧ p.1 ≤ 1114111)) ∧ (p.1 < 2048 → p.2 = 2) ∧ (2048 ≤ p.1 → p.1 < 65536 → p.2 = 3) ∧ (65536 ≤ p.1 → p.2 = 4)))
theorem decodeN_props (n b0 b1 b2 b3 : Nat) (hn : 1 ≤ n) (h0 : 128 ≤ b0) (h0' : b0 < 256) (h1 : b1 < 256) (h2 : b2 < 256) (h3 : b3 < 256) : DP n b1 b2 b3 (decodeN n b0 b1 b2 b3) := by
  unfold decodeN
  repeat' split
  all_goals (unfold DP; simp only; refine ⟨by omega, by omega, by omega, by omega, fun _ => by omega, fun _ => by omega, fun _ => by omega, ?_⟩; first | (left; first | trivial | omega) | (right; refine ⟨by omega, fun _ => by first | trivial | omega, fun _ _ => by first | trivial | omega, fun _ => by first | trivial | omega⟩))

theorem encode_width (r : Nat) (hv : r < 55296 ∨ (57344 ≤ r ∧ r ≤ 1114111)) (h : 128 ≤ r) : (Utf8.encode (r : Int)).size = (if r < 2048 then 2 else if r < 65536 then 3 else 4) ∧ 2 ≤ (Utf8.encode (r : Int)).size ∧
    ∃ b ∈ (Utf8.encode (r : Int)).data.toList, 128 ≤ b.toNat := by
  have hval : Utf8.valid (r : Int) = true := by
    simp [Utf8.valid]
    omega
  obtain ⟨e1, e2, e3⟩ := encode_facts (r : Int) hval (by omega)
  refine ⟨?_, e1, ?_⟩
  · unfold Utf8.encode
    have hc : ¬ ((r : Int).toNat < 128) := by omega
    simp only [hval, if_true, hc, if_false, Int.toNat_natCast]
    repeat' split
    all_goals first | rfl | (exfalso; omega)
  · have hlt : (Utf8.encode (r : Int)).size - 1 < (Utf8.encode (r : Int)).size := by omega
    exact ⟨_, List.mem_of_getElem? (Lib.data_getElem? (Utf8.encode (r : Int)) _ hlt), e3 hlt⟩

set_option maxHeartbeats 8000000 in
set_option maxRecDepth 1000000 in
theorem indexAny_nil (A : Option Addr) (c : Nat) (chars : ByteArray) (w : World) (hlist : chars.data.toList = [36, 35]) :
    Calls Tryd.prog 14 #[.slice A 0 c, .string chars] w fun e w' => e = .returned (.int .i64 (-1)) ∧ Below w.heap.size w w' := by
  have h2 : chars.size = 2 := by rw [Lib.size_eq, hlist]; rfl
  have hemp : chars.toList.isEmpty = false := by
    rw [Lib.toList_data, hlist]; rfl
  have hn1 : ((chars.size : Int) == 1) = false := beq_eq_false_iff_ne.2 (by omega)
  go_enter Tryd.func14, Tryd.ntmps14
  go_wp2_with (first | ((with_reducible refine gate_callee (f := 17) rfl ?_); refine goesL_ (some 53) rfl rfl Tryd.func17 (by kernel_rfl) rfl #[.int .i64 0] rfl (by (try simp only [List.map_toArray, List.map_cons, List.map_nil]); first | done | rfl) ?_; (with_reducible refine (shouldSet _ _).mono ?_); rintro e w' ⟨rfl, hw⟩; rw [hw]; refine ⟨_, rfl, ?_⟩))
  go_rounds 1
  go_ret
  exact ⟨rfl, Below.refl _ _⟩

set_option maxHeartbeats 8000000 in
set_option maxRecDepth 1000000 in
theorem indexAny_lone (x : UInt8) (ad : Addr) (c : Nat) (chars : ByteArray) (w : World) (hlist : chars.data.toList = [36, 35])
    (hc : w.cell? ad = some (.int .u8 (x.toNat : Int))) :
    Calls Tryd.prog 14 #[.slice (some ad) 1 c, .string chars] w fun e w' => e = .returned (.int .i64 (if x = 36 ∨ x = 35 then 0 else -1)) ∧ Below w.heap.size w w' := by
  have h2 : chars.size = 2 := by rw [Lib.size_eq, hlist]; rfl
  have hemp : chars.toList.isEmpty = false := by
    rw [Lib.toList_data, hlist]; rfl
  have hg0 : ∀ h : 0 < chars.size, chars[0]'h = 36 := fun h => by
    have := Lib.data_getElem? chars 0 h
    rw [hlist] at this
    simpa using this.symm
  have hg1 : ∀ h : 1 < chars.size, chars[1]'h = 35 := fun h => by
    have := Lib.data_getElem? chars 1 h
    rw [hlist] at this
    simpa using this.symm
  have hx := x.toNat_lt
  by_cases ha : x.toNat < 128
  · have hz : ¬ ((128 : Int) ≤ (x.toNat : Int)) := by omega
    have hE := fun w => ext15 chars (x.toNat : Int) w
    rw [hlist, show ((x.toNat : Int)).toNat.toUInt8 = x by simp] at hE
    by_cases h : x = 36 ∨ x = 35
    · have hi : (0 : Int) ≤ Lib.indexByte [36, 35] x := by rcases h with rfl | rfl <;> decide
      rw [if_pos h]
      go_enter Tryd.func14, Tryd.ntmps14
      go_wp2
      go_ret
      exact ⟨rfl, Below.refl _ _⟩
    · have hi : ¬ ((0 : Int) ≤ Lib.indexByte [36, 35] x) := by
        have h1 : ¬ (36 = x) := fun e => h (.inl e.symm)
        have h2 : ¬ (35 = x) := fun e => h (.inr e.symm)
        simp [Lib.indexByte, h1, h2]
      rw [if_neg h]
      go_enter Tryd.func14, Tryd.ntmps14
      go_wp2
      go_ret
      exact ⟨rfl, Below.refl _ _⟩
  · have hz : (128 : Int) ≤ (x.toNat : Int) := by omega
    have hne : ¬ (x = 36 ∨ x = 35) := by rintro (rfl | rfl) <;> revert ha <;> decide
    rw [if_neg hne]
    have n0 : ∀ ty, (Instr.next (.pointer (some ⟨w.heap.size, 0, none⟩)) true ty).run Tryd.prog (w.iter chars 0) = .ok (.tuple #[.bool true, .int .i64 0, .int .i32 36]) (w.iter chars 1) := fun ty => by
      have := run_next_ascii (P := Tryd.prog) w chars 0 ty (by omega) (by rw [hg0]; decide)
      rw [hg0] at this
      exact this
    have n1 : ∀ ty, (Instr.next (.pointer (some ⟨w.heap.size, 0, none⟩)) true ty).run Tryd.prog (w.iter chars 1) = .ok (.tuple #[.bool true, .int .i64 1, .int .i32 35]) (w.iter chars 2) := fun ty => by
      have := run_next_ascii (P := Tryd.prog) w chars 1 ty (by omega) (by rw [hg1]; decide)
      rw [hg1] at this
      exact this
    have n2 := fun ty => run_next_end (P := Tryd.prog) w chars 2 ty (by omega)
    go_enter Tryd.func14, Tryd.ntmps14
    go_wp2
    go_rounds 3
    go_ret
    exact ⟨rfl, by unfold World.iter; exact below_alloc (Below.refl _ _) _⟩

end Go.Proofs.YtmjmaellggknnaaDoor.PGdbBack
