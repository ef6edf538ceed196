import Derived.Test.YtmjmaellggknnaaDoorGdbN
namespace Go.Proofs.YtmjmaellggknnaaDoor.Pure
set_option linter.unusedSimpArgs false
set_option linter.unusedVariables false
open Go.Lib Go.RowKit Go.Proofs.YtmjmaellggknnaaDoor.PGdbBack Go.Proofs.YtmjmaellggknnaaDoorW.PrintWords Go.Proofs.YtmjmaellggknnaaDoorW.PrintLast
set_option linter.unusedVariables false

theorem w64 (x : Int) (h0 : -9223372036854775808 ≤ x) (h1 : x ≤ 9223372036854775807) : wrap64 x = x := by unfold wrap64; omega
theorem rd_drop (l : List Int) (i : Nat) (h : i < l.length) : l.drop i = rd l (i : Int) :: l.drop (i + 1) := by
  rw [List.drop_eq_getElem_cons h]
  simp [rd, List.getD, h]

/-- The sum of bytes. -/
def total (l : List Int) (s : Int) : Int := l.foldl (fun s x => (s + x) % 256) s
theorem sum_l0 (l : List Int) (hl : l.length ≤ 140737488355328) : ∀ (d i k : Nat) (s : Int), i + d = l.length → d < k → gdb_sum.l0 k s l (l.length : Int) (i : Int) = some (total (l.drop i) s)
  | 0, i, k, s, hi, hk => by
    obtain ⟨k, rfl⟩ : ∃ m, k = m + 1 := ⟨k - 1, by omega⟩
    simp only [gdb_sum.l0]
    rw [if_neg (by omega), List.drop_of_length_le (by omega)]
    rfl
  | d + 1, i, k, s, hi, hk => by
    obtain ⟨k, rfl⟩ : ∃ m, k = m + 1 := ⟨k - 1, by omega⟩
    simp only [gdb_sum.l0]
    rw [if_pos (by omega), if_pos (by omega), if_pos (by omega), w64 _ (by omega) (by omega), rd_drop l i (by omega)]
    have := sum_l0 l hl d (i + 1) k ((s + rd l (i : Int)) % 256) (by omega) (by omega)
    simpa [total] using this
theorem sum_f (l : List Int) (hl : l.length ≤ 140737488355328) (k : Nat) (hk : l.length < k) : gdb_sum.f k l = some (total l 0) := by
  have := sum_l0 l hl l.length 0 k 0 (by omega) hk
  simpa [gdb_sum.f] using this

/-- What a byte becomes in a packet. -/
def special (c : Int) : Bool := decide (0 ≤ Lib.indexByte (Lib.bytesOf [35, 36, 125, 42]) c.toNat.toUInt8)
def esc1 (c : Int) : List Int := if special c = true then [125, Go.bits .xor .u8 c 32] else [c]
def esc (l : List Int) : List Int := l.flatMap esc1
theorem esc_length (l : List Int) : l.length ≤ (esc l).length ∧ (esc l).length ≤ 2 * l.length := by
  induction l with
  | nil => simp [esc]
  | cons c l ih =>
    have : esc (c :: l) = esc1 c ++ esc l := rfl
    rw [this, List.length_append, List.length_cons]
    have : 1 ≤ (esc1 c).length ∧ (esc1 c).length ≤ 2 := by
      unfold esc1
      split <;> simp
    omega
def hexd (n : Int) : Int := bt (⟨#[48, 49, 50, 51, 52, 53, 54, 55, 56, 57, 97, 98, 99, 100, 101, 102]⟩ : ByteArray) n
def tail3 (s : Int) : List Int := [35, hexd (s / 16), hexd (Go.bits .and .u8 s 15)]

theorem total_range (l : List Int) : ∀ s : Int, 0 ≤ s → s < 256 → 0 ≤ total l s ∧ total l s < 256 := by
  induction l with
  | nil => intro s h0 h1; exact ⟨h0, h1⟩
  | cons c l ih => intro s h0 h1; exact ih ((s + c) % 256) (by omega) (by omega)
set_option maxRecDepth 100000 in
theorem and15 (s : Int) (h0 : 0 ≤ s) (h1 : s < 256) : Go.bits .and .u8 s 15 = s % 16 := by
  obtain ⟨n, rfl⟩ := Int.eq_ofNat_of_zero_le h0
  have : ∀ n : Fin 256, Go.bits .and .u8 ((n.val : Nat) : Int) 15 = ((n.val : Nat) : Int) % 16 := by decide
  exact this ⟨n, by omega⟩

theorem pack_l0 (l : List Int) (hl : l.length ≤ 1000) : ∀ (d i k : Nat) (x : List Int), i + d = l.length → 1 ≤ x.length → x.length ≤ 1 + 2 * i → d + 3000 < k →
    gdb_Pack.l0 k x l (l.length : Int) (i : Int) = some ((x ++ esc (l.drop i)) ++ tail3 (total ((x ++ esc (l.drop i)).drop 1) 0), 0)
  | 0, i, k, x, hi, h1, hx, hk => by
    obtain ⟨k, rfl⟩ : ∃ m, k = m + 1 := ⟨k - 1, by omega⟩
    simp only [gdb_Pack.l0]
    rw [if_neg (by omega), if_pos (by omega), sum_f _ (by simp; omega) k (by simp; omega)]
    have hr := total_range (x.drop 1) 0 (by omega) (by omega)
    simp only [Option.bind_some]
    have h15 := and15 _ hr.1 hr.2
    rw [if_pos (by omega), if_pos (by omega), if_pos (by rw [h15]; omega), if_pos (by rw [h15]; omega), if_pos (by simp; omega), List.drop_of_length_le (by omega : l.length ≤ i)]
    simp [esc, tail3, hexd]
  | d + 1, i, k, x, hi, h1, hx, hk => by
    obtain ⟨k, rfl⟩ : ∃ m, k = m + 1 := ⟨k - 1, by omega⟩
    simp only [gdb_Pack.l0]
    rw [if_pos (by omega), if_pos (by omega), if_pos (by omega), w64 _ (by omega) (by omega), rd_drop l i (by omega)]
    simp only [gdb_indexByte.f, Option.bind_some]
    have e : ∀ c t, esc (c :: t) = esc1 c ++ esc t := fun _ _ => rfl
    by_cases hs : 0 ≤ Lib.indexByte (Lib.bytesOf [35, 36, 125, 42]) (rd l (i : Int)).toNat.toUInt8
    · rw [if_pos (by omega), if_pos (by omega), if_pos (by simp; omega)]
      have := pack_l0 l hl d (i + 1) k (x ++ [125] ++ [Go.bits .xor .u8 (rd l (i : Int)) 32]) (by omega) (by simp) (by simp; omega) (by omega)
      rw [e, esc1, special, if_pos (decide_eq_true hs)]
      simpa using this
    · rw [if_neg (by omega), if_pos (by omega)]
      have := pack_l0 l hl d (i + 1) k (x ++ [rd l (i : Int)]) (by omega) (by simp) (by simp; omega) (by omega)
      rw [e, esc1, special, if_neg (by simpa using hs)]
      simpa using this

end Go.Proofs.YtmjmaellggknnaaDoor.Pure
