import Derived.Test.YtmjmaellggknnaaDoorGdbP
namespace Go.Proofs.YtmjmaellggknnaaDoor.Pure
set_option linter.unusedSimpArgs false
set_option linter.unusedVariables false
open Go.Lib Go.RowKit Go.Proofs.YtmjmaellggknnaaDoor.PGdbBack Go.Proofs.YtmjmaellggknnaaDoorW.PrintWords Go.Proofs.YtmjmaellggknnaaDoorW.PrintLast
set_option linter.unusedVariables false

def Byte (c : Int) : Prop := 0 ≤ c ∧ c < 256
theorem byte_of {p : Int → Prop} (h : ∀ n : Fin 256, p ((n.val : Nat) : Int)) (c : Int) (hc : Byte c) : p c := by
  obtain ⟨n, rfl⟩ := Int.eq_ofNat_of_zero_le hc.1
  exact h ⟨n, by have := hc.2; omega⟩
theorem xor_twice (c : Int) (hc : Byte c) : Go.bits .xor .u8 (Go.bits .xor .u8 c 32) 32 = c := byte_of (p := fun c => Go.bits .xor .u8 (Go.bits .xor .u8 c 32) 32 = c) (by decide +kernel) c hc
theorem esc1_fits (c : Int) (hc : Byte c) : (esc1 c).all (fun x => decide (0 ≤ x) && decide (x < 256) && !(x == 36) && !(x == 35)) = true :=
  byte_of (p := fun c => (esc1 c).all (fun x => decide (0 ≤ x) && decide (x < 256) && !(x == 36) && !(x == 35)) = true) (by decide +kernel) c hc
theorem esc1_plain (c : Int) (hc : Byte c) : special c = false → c ≠ 125 := byte_of (p := fun c => special c = false → c ≠ 125) (by decide +kernel) c hc
theorem esc_fits (l : List Int) (hl : ∀ c ∈ l, Byte c) : ∀ x ∈ esc l, Byte x ∧ x ≠ 36 ∧ x ≠ 35 := by
  intro x hx
  obtain ⟨c, hc, hxc⟩ := List.mem_flatMap.1 hx
  have := List.all_eq_true.1 (esc1_fits c (hl c hc)) x hxc
  simp at this
  exact ⟨⟨this.1.1.1, this.1.1.2⟩, this.1.2, this.2⟩
theorem hex_pair (k : Nat) (s : Int) (hs : Byte s) : gdb_pair.f k (hexd (s / 16)) (hexd (s % 16)) = some s :=
  byte_of (p := fun s => gdb_pair.f k (hexd (s / 16)) (hexd (s % 16)) = some s) (fun n => by
    have : ∀ n : Fin 256, gdb_pair.f 0 (hexd (((n.val : Nat) : Int) / 16)) (hexd (((n.val : Nat) : Int) % 16)) = some ((n.val : Nat) : Int) := by decide +kernel
    exact this n) s hs
theorem rd_of_drop {B : List Int} {p : Nat} {a : Int} {r : List Int} (h : B.drop p = a :: r) : rd B (p : Int) = a ∧ p < B.length ∧ B.drop (p + 1) = r := by
  have hp : p < B.length := by
    have := congrArg List.length h
    simp at this
    omega
  rw [rd_drop B p hp] at h
  injection h with h1 h2
  exact ⟨h1, hp, h2⟩

theorem plain_l0 (B : List Int) (hB : B.length ≤ 3000) : ∀ (t : List Int) (p k : Nat) (x : List Int), B.drop p = esc t → (∀ c ∈ t, Byte c) → x.length ≤ p → p ≤ B.length → t.length < k → gdb_plain.l0 k B x (p : Int) = some (x ++ t, true)
  | [], p, k, x, hd, ht, hx, hp, hk => by
    obtain ⟨k, rfl⟩ : ∃ m, k = m + 1 := ⟨k - 1, by omega⟩
    have : (B.drop p).length = 0 := by rw [hd]; rfl
    rw [List.length_drop] at this
    simp only [gdb_plain.l0]
    rw [if_neg (by omega)]
    simp
  | c :: t, p, k, x, hd, ht, hx, hp, hk => by
    obtain ⟨k, rfl⟩ : ∃ m, k = m + 1 := ⟨k - 1, by simp at hk; omega⟩
    have e : esc (c :: t) = esc1 c ++ esc t := rfl
    have hc := ht c (List.mem_cons_self ..)
    have ht' : ∀ c ∈ t, Byte c := fun c h => ht c (List.mem_cons_of_mem _ h)
    simp only [gdb_plain.l0]
    simp only [List.length_cons] at hk
    rw [e, esc1] at hd
    by_cases hs : special c = true
    · rw [if_pos hs] at hd
      obtain ⟨r1, p1, d1⟩ := rd_of_drop hd
      obtain ⟨r2, p2, d2⟩ := rd_of_drop d1
      have hw : wrap64 ((p : Int) + 1) = ((p + 1 : Nat) : Int) := by rw [w64 _ (by omega) (by omega)]; rfl
      have hw2 : wrap64 (((p + 1 : Nat) : Int) + 1) = ((p + 2 : Nat) : Int) := by rw [w64 _ (by omega) (by omega)]; rfl
      rw [hw, hw2, r1, r2, if_pos (by omega), if_pos (by omega), if_pos rfl, if_neg (by omega), if_pos (by omega), if_pos (by omega), if_pos (by omega), xor_twice c hc]
      rw [plain_l0 B hB t (p + 2) k (x ++ [c]) d2 ht' (by simp; omega) (by omega) (by omega)]
      simp
    · rw [if_neg hs] at hd
      obtain ⟨r1, p1, d1⟩ := rd_of_drop hd
      have hw : wrap64 ((p : Int) + 1) = ((p + 1 : Nat) : Int) := by rw [w64 _ (by omega) (by omega)]; rfl
      rw [r1, if_pos (by omega), if_pos (by omega), if_neg (esc1_plain c hc (by simpa using hs)), if_pos (by omega), hw]
      rw [plain_l0 B hB t (p + 1) k (x ++ [c]) d1 ht' (by simp; omega) (by omega) (by omega)]
      simp

end Go.Proofs.YtmjmaellggknnaaDoor.Pure
