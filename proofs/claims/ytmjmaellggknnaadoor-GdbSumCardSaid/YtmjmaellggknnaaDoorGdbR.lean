import Derived.Test.YtmjmaellggknnaaDoorGdbQ
namespace Go.Proofs.YtmjmaellggknnaaDoor.Pure
set_option linter.unusedSimpArgs false
set_option linter.unusedVariables false
open Go.Lib Go.RowKit Go.Proofs.YtmjmaellggknnaaDoor.PGdbBack Go.Proofs.YtmjmaellggknnaaDoorW.PrintWords Go.Proofs.YtmjmaellggknnaaDoorW.PrintLast
set_option linter.unusedVariables false

/-- The packet of a payload. -/
def packet (l : List Int) : List Int := [36] ++ esc l ++ tail3 (total (esc l) 0)
theorem packet_length (l : List Int) : (packet l).length = (esc l).length + 4 := by simp [packet, tail3]
theorem pack_short (l : List Int) (hl : l.length ≤ 1000) (k : Nat) (hk : 4000 < k) : gdb_Pack.f k l = some (packet l, 0) := by
  unfold gdb_Pack.f
  rw [if_neg (by omega)]
  have := pack_l0 l hl l.length 0 k [36] (by omega) (by simp) (by simp) (by omega)
  simpa [packet] using this
theorem pack_long (l : List Int) (hl : 1000 < l.length) (k : Nat) : gdb_Pack.f k l = some ([], 3) := by
  unfold gdb_Pack.f
  rw [if_pos (by omega)]
theorem rd_append_left (a b : List Int) (i : Nat) (h : i < a.length) : rd (a ++ b) (i : Int) = rd a (i : Int) := by
  simp [rd, List.getD, List.getElem?_append_left h]
theorem rd_append_right (a b : List Int) (i : Nat) : rd (a ++ b) ((a.length + i : Nat) : Int) = rd b (i : Int) := by
  simp only [rd, Int.toNat_natCast, List.getD]
  rw [List.getElem?_append_right (by omega)]
  congr 2
  omega

theorem unpack_packet (l : List Int) (hl : l.length ≤ 1000) (hb : ∀ c ∈ l, Byte c) (k : Nat) (hk : 6000 < k) : gdb_Unpack.f k (packet l) = some (l, 0) := by
  obtain ⟨k, rfl⟩ : ∃ m, k = m + 1 := ⟨k - 1, by omega⟩
  have hlen := packet_length l
  have hE := esc_length l
  have hs := total_range (esc l) 0 (by omega) (by omega)
  have h15 := and15 _ hs.1 hs.2
  have r0 : rd (packet l) 0 = 36 := rfl
  have hx : ∀ i : Nat, rd (packet l) (((esc l).length + 1 + i : Nat) : Int) = rd (tail3 (total (esc l) 0)) (i : Int) := fun i => by
    have := rd_append_right ([36] ++ esc l) (tail3 (total (esc l) 0)) i
    rw [List.length_append, List.length_singleton, Nat.add_comm 1] at this
    exact this
  have w3 : wrap64 (((packet l).length : Int) - 3) = (((esc l).length + 1 + 0 : Nat) : Int) := by rw [w64 _ (by omega) (by omega)]; omega
  have w2 : wrap64 (((packet l).length : Int) - 2) = (((esc l).length + 1 + 1 : Nat) : Int) := by rw [w64 _ (by omega) (by omega)]; omega
  have w1 : wrap64 (((packet l).length : Int) - 1) = (((esc l).length + 1 + 2 : Nat) : Int) := by rw [w64 _ (by omega) (by omega)]; omega
  have body : ((packet l).take ((esc l).length + 1 + 0)).drop 1 = esc l := by
    unfold packet
    rw [List.append_assoc, List.singleton_append, Nat.add_zero, List.take_succ_cons, List.drop_one, List.tail_cons]
    simp
  have t0 : rd (tail3 (total (esc l) 0)) ((0 : Nat) : Int) = 35 := rfl
  have t1 : rd (tail3 (total (esc l) 0)) ((1 : Nat) : Int) = hexd (total (esc l) 0 / 16) := rfl
  have t2 : rd (tail3 (total (esc l) 0)) ((2 : Nat) : Int) = hexd (total (esc l) 0 % 16) := by rw [← h15]; rfl
  have hp : ∀ k, gdb_pair.f k (hexd (total (esc l) 0 / 16)) (hexd (total (esc l) 0 % 16)) = some (total (esc l) 0) := fun k => hex_pair k _ ⟨hs.1, hs.2⟩
  have hany : ∀ k, gdb_containsAny.f k (esc l) (⟨#[36, 35]⟩ : ByteArray) = some false := fun k => by
    have hf := esc_fits l hb
    unfold gdb_containsAny.f
    rw [if_pos rfl, if_pos (List.all_eq_true.2 fun x hx => by have := (hf x hx).1; simp [this.1, this.2])]
    congr 1
    rw [List.any_eq_false]
    intro x hx
    have := (hf x hx).2
    simp [this.1, this.2]
  unfold gdb_Unpack.f
  rw [if_neg (by omega), if_pos (by omega), if_pos r0, w3, w2, w1, if_pos (by omega), if_pos (by omega), hx 0, if_pos t0, if_pos (by omega), if_pos (by omega), if_pos (by omega), if_pos (by omega), hx 1, hx 2, t1, t2, hp]
  simp only [Option.bind_some, gdb_Unpack.j0]
  rw [if_neg (by simp; omega), w3, w2, w1, if_pos (by omega), if_pos (by omega), Int.toNat_natCast, body, hany]
  simp only [Option.bind_some]
  rw [if_neg (by simp), if_pos (by omega), if_pos (by omega), if_pos (by omega), if_pos (by omega), hx 1, hx 2, t1, t2, hp, sum_f _ (by omega) _ (by omega)]
  simp only [Option.bind_some]
  rw [if_pos (by rw [w64 _ (by omega) (by omega)])]
  have := plain_l0 (esc l) (by omega) l 0 k [] rfl hb (by simp) (by omega) (by omega)
  rw [show gdb_plain.f k (esc l) = some (l, true) from this]
  simp only [Option.bind_some]
  rw [if_pos trivial, if_neg (by omega)]

theorem GdbBack : anvillaw17_GdbBack.Pure := by
  intro l hm hl hw
  have hb : ∀ c ∈ l, Byte c := fun c hc => by
    have := hw c hc
    simp [Lit.wf] at this
    have e1 : IntKind.u8.min = 0 := rfl
    have e2 : IntKind.u8.max = 255 := rfl
    rw [e1, e2] at this
    exact ⟨this.1, by omega⟩
  refine ⟨7000, ?_⟩
  unfold anvillaw17_GdbBack.f anvillaw17_copied.f
  rw [if_pos (by omega)]
  simp only [Option.bind_some]
  by_cases h : 1000 < l.length
  · rw [pack_long l h]
    simp only [Option.bind_some]
    rw [if_pos (by omega), if_pos trivial]
    rfl
  · rw [pack_short l (by omega) _ (by omega)]
    simp only [Option.bind_some]
    rw [if_neg (by omega), unpack_packet l (by omega) hb _ (by omega)]
    simp only [Option.bind_some]
    rw [if_pos trivial, if_pos trivial, if_pos trivial]
    have hlen := packet_length l
    have hE := esc_length l
    rw [w64 _ (by omega) (by omega), decide_eq_true (by omega)]

end Go.Proofs.YtmjmaellggknnaaDoor.Pure
