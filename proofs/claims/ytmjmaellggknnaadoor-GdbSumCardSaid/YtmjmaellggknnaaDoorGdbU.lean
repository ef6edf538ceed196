import Derived.Test.YtmjmaellggknnaaDoorGdbR
namespace Go.Proofs.YtmjmaellggknnaaDoor.Pure
set_option linter.unusedSimpArgs false
set_option linter.unusedVariables false
open Go.Lib Go.RowKit Go.Proofs.YtmjmaellggknnaaDoor.PGdbBack Go.Proofs.YtmjmaellggknnaaDoorW.PrintWords Go.Proofs.YtmjmaellggknnaaDoorW.PrintLast
set_option linter.unusedVariables false

/-! ### The sum of a changed body -/
theorem total_sum (l : List Int) : ∀ s : Int, 0 ≤ s → s < 256 → total l s = (s + l.sum) % 256 := by
  induction l with
  | nil => intro s h0 h1; simp [total]; omega
  | cons c l ih =>
    intro s h0 h1
    have := ih ((s + c) % 256) (by omega) (by omega)
    have e : total (c :: l) s = total l ((s + c) % 256) := rfl
    rw [e, this, List.sum_cons]
    omega
theorem sum_set (l : List Int) : ∀ (i : Nat) (c : Int), i < l.length → (l.set i c).sum = l.sum - rd l (i : Int) + c := by
  induction l with
  | nil => intro i c h; simp at h
  | cons a l ih =>
    intro i c h
    cases i with
    | zero => simp [rd]; omega
    | succ i =>
      have := ih i c (by simpa using h)
      have e : rd (a :: l) ((i + 1 : Nat) : Int) = rd l (i : Int) := by simp [rd]
      rw [List.set_cons_succ, List.sum_cons, List.sum_cons, this, e]
      omega
theorem total_set (l : List Int) (i : Nat) (c : Int) (h : i < l.length) (hc : Byte c) (hr : Byte (rd l (i : Int))) (hn : c ≠ rd l (i : Int)) : total (l.set i c) 0 ≠ total l 0 := by
  rw [total_sum _ 0 (by omega) (by omega), total_sum _ 0 (by omega) (by omega), sum_set l i c h]
  have := hc.1; have := hc.2; have := hr.1; have := hr.2
  omega

/-! ### Unpack of what is no packet -/
theorem unpack_bad (B : List Int) (d1 d2 p : Int) (hB : B.length ≤ 3000) (hf : ∀ x ∈ B, Byte x ∧ x ≠ 36 ∧ x ≠ 35) (hp : ∀ k, gdb_pair.f k d1 d2 = some p) (hne : p < 0 ∨ p ≠ total B 0) (k : Nat) (hk : 6000 < k) :
    ∃ e, e ≠ 0 ∧ gdb_Unpack.f k ([36] ++ B ++ [35, d1, d2]) = some ([], e) := by
  obtain ⟨k, rfl⟩ : ∃ m, k = m + 1 := ⟨k - 1, by omega⟩
  obtain ⟨Q, hQ⟩ : ∃ Q, Q = [36] ++ B ++ [35, d1, d2] := ⟨_, rfl⟩
  rw [← hQ]
  have hlen : Q.length = B.length + 4 := by rw [hQ]; simp
  have r0 : rd Q 0 = 36 := by rw [hQ]; rfl
  have hx : ∀ i : Nat, rd Q ((B.length + 1 + i : Nat) : Int) = rd [35, d1, d2] (i : Int) := fun i => by
    have := rd_append_right ([36] ++ B) [35, d1, d2] i
    rw [List.length_append, List.length_singleton, Nat.add_comm 1] at this
    rw [hQ]
    exact this
  have w3 : wrap64 ((Q.length : Int) - 3) = ((B.length + 1 + 0 : Nat) : Int) := by rw [w64 _ (by omega) (by omega)]; omega
  have w2 : wrap64 ((Q.length : Int) - 2) = ((B.length + 1 + 1 : Nat) : Int) := by rw [w64 _ (by omega) (by omega)]; omega
  have w1 : wrap64 ((Q.length : Int) - 1) = ((B.length + 1 + 2 : Nat) : Int) := by rw [w64 _ (by omega) (by omega)]; omega
  have body : (Q.take (B.length + 1 + 0)).drop 1 = B := by
    rw [hQ, List.append_assoc, List.singleton_append, Nat.add_zero, List.take_succ_cons, List.drop_one, List.tail_cons]
    simp
  have t0 : rd [35, d1, d2] ((0 : Nat) : Int) = 35 := rfl
  have t1 : rd [35, d1, d2] ((1 : Nat) : Int) = d1 := rfl
  have t2 : rd [35, d1, d2] ((2 : Nat) : Int) = d2 := rfl
  have hany : ∀ k, gdb_containsAny.f k B (⟨#[36, 35]⟩ : ByteArray) = some false := fun k => by
    unfold gdb_containsAny.f
    rw [if_pos rfl, if_pos (List.all_eq_true.2 fun x hx => by have := (hf x hx).1; simp [this.1, this.2])]
    congr 1
    rw [List.any_eq_false]
    intro x hx
    have := (hf x hx).2
    simp [this.1, this.2]
  unfold gdb_Unpack.f
  rw [if_neg (by omega), if_pos (by omega), if_pos r0, w3, w2, w1, if_pos (by omega), if_pos (by omega), hx 0, if_pos t0, if_pos (by omega), if_pos (by omega), if_pos (by omega), if_pos (by omega), hx 1, hx 2, t1, t2, hp]
  simp only [Option.bind_some, gdb_Unpack.j0]
  by_cases hneg : p < 0
  · rw [if_pos (by simpa using hneg)]
    exact ⟨1, by omega, rfl⟩
  · have hs := total_range B 0 (by omega) (by omega)
    rw [if_neg (by simpa using hneg), w3, w2, w1, if_pos (by omega), if_pos (by omega), Int.toNat_natCast, body, hany]
    simp only [Option.bind_some]
    rw [if_neg (by simp), if_pos (by omega), if_pos (by omega), if_pos (by omega), if_pos (by omega), hx 1, hx 2, t1, t2, hp, sum_f _ (by omega) _ (by omega)]
    simp only [Option.bind_some]
    rw [if_neg (by rw [w64 _ (by omega) (by omega)]; rcases hne with h | h <;> omega)]
    exact ⟨160, by omega, rfl⟩

/-! ### Digits -/
theorem digit_tells (c : Int) (hc : Byte c) : ∀ k, ∃ h, gdb_digit.f k c = some h ∧ -1 ≤ h ∧ h ≤ 15 ∧ ∀ n : Fin 16, Go.bits .or .u8 c 32 ≠ Go.bits .or .u8 (hexd ((n.val : Nat) : Int)) 32 → h ≠ ((n.val : Nat) : Int) := by
  intro k
  have hk : gdb_digit.f k c = gdb_digit.f 0 c := rfl
  rw [hk]
  have := byte_of (p := fun c => (match gdb_digit.f 0 c with
    | none => false
    | some h => decide (-1 ≤ h) && decide (h ≤ 15) && decide (∀ n : Fin 16, Go.bits .or .u8 c 32 ≠ Go.bits .or .u8 (hexd ((n.val : Nat) : Int)) 32 → h ≠ ((n.val : Nat) : Int))) = true) (by decide +kernel) c hc
  revert this
  cases gdb_digit.f 0 c with
  | none => intro h; cases h
  | some h => intro e; simp only [Bool.and_eq_true, decide_eq_true_eq] at e; exact ⟨h, rfl, e.1.1, e.1.2, e.2⟩
theorem hexd_digit (n : Fin 16) (k : Nat) : gdb_digit.f k (hexd ((n.val : Nat) : Int)) = some ((n.val : Nat) : Int) := by
  have hk : gdb_digit.f k (hexd ((n.val : Nat) : Int)) = gdb_digit.f 0 (hexd ((n.val : Nat) : Int)) := rfl
  rw [hk]
  clear hk
  revert n
  decide +kernel
theorem or_pair (a b : Fin 16) : Go.bits .or .i64 (wrap64 (((a.val : Nat) : Int) * 16)) ((b.val : Nat) : Int) = ((a.val : Nat) : Int) * 16 + ((b.val : Nat) : Int) := by
  revert a b
  decide +kernel
theorem pair_of (a b h l : Int) (ha : ∀ k, gdb_digit.f k a = some h) (hb : ∀ k, gdb_digit.f k b = some l) (h0 : -1 ≤ h) (h1 : h ≤ 15) (l0 : -1 ≤ l) (l1 : l ≤ 15) :
    ∃ p, (∀ k, gdb_pair.f k a b = some p) ∧ (p < 0 ∨ p = h * 16 + l ∧ 0 ≤ h ∧ 0 ≤ l) := by
  by_cases c1 : h < 0
  · exact ⟨-1, fun k => by unfold gdb_pair.f; rw [ha, hb]; simp only [Option.bind_some]; rw [if_pos c1], .inl (by omega)⟩
  · by_cases c2 : l < 0
    · exact ⟨-1, fun k => by unfold gdb_pair.f; rw [ha, hb]; simp only [Option.bind_some]; rw [if_neg c1, if_pos c2], .inl (by omega)⟩
    · refine ⟨h * 16 + l, fun k => ?_, .inr ⟨rfl, by omega, by omega⟩⟩
      unfold gdb_pair.f
      rw [ha, hb]
      simp only [Option.bind_some]
      rw [if_neg c1, if_neg c2]
      obtain ⟨m, rfl⟩ := Int.eq_ofNat_of_zero_le (show 0 ≤ h by omega)
      obtain ⟨n, rfl⟩ := Int.eq_ofNat_of_zero_le (show 0 ≤ l by omega)
      exact congrArg some (or_pair ⟨m, by omega⟩ ⟨n, by omega⟩)

/-! ### The packet with one byte changed -/
theorem esc_rd (l : List Int) (hb : ∀ c ∈ l, Byte c) (i : Nat) (hi : i < (esc l).length) : Byte (rd (esc l) (i : Int)) := by
  have : rd (esc l) (i : Int) ∈ esc l := by simp [rd, List.getD, hi]
  exact (esc_fits l hb _ this).1
theorem set_append_right' (a b : List Int) (i : Nat) (c : Int) : (a ++ b).set (a.length + i) c = a ++ b.set i c := by
  rw [List.set_append, if_neg (by omega), show a.length + i - a.length = i by omega]
theorem flip_refused (l : List Int) (hl : l.length ≤ 1000) (hb : ∀ c ∈ l, Byte c) (i : Nat) (c : Int) (h1 : 1 ≤ i) (h2 : i < (packet l).length) (hc : Byte c) (n35 : rd (packet l) (i : Int) ≠ 35) (c35 : c ≠ 35) (c36 : c ≠ 36) (hcn : c ≠ rd (packet l) (i : Int))
    (hcase : (esc l).length + 2 ≤ i → Go.bits .or .u8 c 32 ≠ Go.bits .or .u8 (rd (packet l) (i : Int)) 32) (k : Nat) (hk : 6000 < k) :
    ∃ e, e ≠ 0 ∧ gdb_Unpack.f k ((packet l).set i c) = some ([], e) := by
  have hlen := packet_length l
  have hE := esc_length l
  have hs := total_range (esc l) 0 (by omega) (by omega)
  have h15 := and15 _ hs.1 hs.2
  have hfit := esc_fits l hb
  have hP : packet l = [36] ++ esc l ++ [35, hexd (total (esc l) 0 / 16), hexd (total (esc l) 0 % 16)] := by rw [← h15]; rfl
  obtain ⟨hi, hhi⟩ : ∃ n : Fin 16, ((n.val : Nat) : Int) = total (esc l) 0 / 16 := ⟨⟨(total (esc l) 0 / 16).toNat, by omega⟩, by simp only; omega⟩
  obtain ⟨lo, hlo⟩ : ∃ n : Fin 16, ((n.val : Nat) : Int) = total (esc l) 0 % 16 := ⟨⟨(total (esc l) 0 % 16).toNat, by omega⟩, by simp only; omega⟩
  by_cases hbody : i ≤ (esc l).length
  · obtain ⟨j, rfl⟩ : ∃ j, i = j + 1 := ⟨i - 1, by omega⟩
    have hr : rd (packet l) ((j + 1 : Nat) : Int) = rd (esc l) (j : Int) := by
      have a1 := rd_append_left ([36] ++ esc l) (tail3 (total (esc l) 0)) (j + 1) (by simp; omega)
      have a2 : rd ([36] ++ esc l) ((j + 1 : Nat) : Int) = rd (esc l) (j : Int) := by
        have := rd_append_right [36] (esc l) j
        rwa [List.length_singleton, Nat.add_comm 1] at this
      exact a1.trans a2
    have hset : (packet l).set (j + 1) c = [36] ++ (esc l).set j c ++ [35, hexd (total (esc l) 0 / 16), hexd (total (esc l) 0 % 16)] := by
      rw [hP, List.set_append_left _ _ (by simp; omega)]
      congr 1
    rw [hr] at hcn
    rw [hset]
    refine unpack_bad _ _ _ (total (esc l) 0) (by simp; omega) ?_ (fun k => hex_pair k _ ⟨hs.1, hs.2⟩) (.inr (total_set (esc l) j c (by omega) hc (esc_rd l hb j (by omega)) hcn).symm) k hk
    intro x hx
    rcases List.mem_or_eq_of_mem_set hx with h | h
    · exact hfit x h
    · subst h; exact ⟨hc, c36, c35⟩
  · have hx : ∀ m : Nat, rd (packet l) (((esc l).length + 1 + m : Nat) : Int) = rd [35, hexd (total (esc l) 0 / 16), hexd (total (esc l) 0 % 16)] (m : Int) := fun m => by
      have := rd_append_right ([36] ++ esc l) [35, hexd (total (esc l) 0 / 16), hexd (total (esc l) 0 % 16)] m
      rw [List.length_append, List.length_singleton, Nat.add_comm 1] at this
      rw [hP]
      exact this
    have hset : ∀ m, (packet l).set ((esc l).length + 1 + m) c = [36] ++ esc l ++ [35, hexd (total (esc l) 0 / 16), hexd (total (esc l) 0 % 16)].set m c := fun m => by
      have := set_append_right' ([36] ++ esc l) [35, hexd (total (esc l) 0 / 16), hexd (total (esc l) 0 % 16)] m c
      rw [List.length_append, List.length_singleton, Nat.add_comm 1] at this
      rw [hP]
      exact this
    obtain ⟨m, rfl⟩ : ∃ m, i = (esc l).length + 1 + m := ⟨i - (esc l).length - 1, by omega⟩
    rw [hx] at n35 hcase
    rw [hset]
    obtain ⟨hh, hd, d0, d1, dn⟩ : ∃ h, (∀ k, gdb_digit.f k c = some h) ∧ -1 ≤ h ∧ h ≤ 15 ∧ ∀ n : Fin 16, Go.bits .or .u8 c 32 ≠ Go.bits .or .u8 (hexd ((n.val : Nat) : Int)) 32 → h ≠ ((n.val : Nat) : Int) := by
      obtain ⟨h, e, r⟩ := digit_tells c hc 0
      exact ⟨h, fun k => e, r⟩
    have hm : m = 0 ∨ m = 1 ∨ m = 2 := by omega
    rcases hm with rfl | rfl | rfl
    · exact absurd rfl n35
    · have hne := dn hi (by rw [hhi]; exact hcase (by omega))
      obtain ⟨p, hp, hpv⟩ := pair_of c (hexd (total (esc l) 0 % 16)) hh _ hd (fun k => by rw [← hlo]; exact hexd_digit lo k) d0 d1 (by omega) (by omega)
      exact unpack_bad (esc l) c _ p (by omega) hfit hp (by rcases hpv with h | ⟨h, _⟩ <;> omega) k hk
    · have hne := dn lo (by rw [hlo]; exact hcase (by omega))
      obtain ⟨p, hp, hpv⟩ := pair_of (hexd (total (esc l) 0 / 16)) c _ hh (fun k => by rw [← hhi]; exact hexd_digit hi k) hd (by omega) (by omega) d0 d1
      exact unpack_bad (esc l) _ c p (by omega) hfit hp (by rcases hpv with h | ⟨h, _⟩ <;> omega) k hk

end Go.Proofs.YtmjmaellggknnaaDoor.Pure
namespace Go.Proofs.YtmjmaellggknnaaDoor.PGdbBack
/-- THE ONE PURE STATEMENT of anvillaw17_GdbSum. -/
def anvillaw17_GdbSum.Pure : Prop := ∀ (l0 : List Int) (a1 a2 : Int), l0.length ≤ maxLen → l0.length * 1 ≤ 140737488351232 → (∀ x ∈ l0, (Lit.int .u8 x).wf = true) → (Lit.int .i64 a1).wf = true → (Lit.int .u8 a2).wf = true → ∃ k, anvillaw17_GdbSum.f k l0 a1 a2 = some true
end Go.Proofs.YtmjmaellggknnaaDoor.PGdbBack
namespace Go.Proofs.YtmjmaellggknnaaDoor.Pure
open Go.Lib Go.RowKit Go.Proofs.YtmjmaellggknnaaDoor.PGdbBack Go.Proofs.YtmjmaellggknnaaDoorW.PrintWords Go.Proofs.YtmjmaellggknnaaDoorW.PrintLast
theorem byte_wf {x : Int} (h : (Lit.int .u8 x).wf = true) : Byte x := by
  simp [Lit.wf] at h
  have e1 : IntKind.u8.min = 0 := rfl
  have e2 : IntKind.u8.max = 255 := rfl
  rw [e1, e2] at h
  exact ⟨h.1, by omega⟩
theorem GdbSum : anvillaw17_GdbSum.Pure := by
  intro l a1 a2 hm hl hw _ hw2
  have hb : ∀ c ∈ l, Byte c := fun c hc => byte_wf (hw c hc)
  have hc := byte_wf hw2
  refine ⟨7003, ?_⟩
  unfold anvillaw17_GdbSum.f anvillaw17_copied.f
  rw [if_pos (by omega)]
  simp only [Option.bind_some]
  by_cases h : 1000 < l.length
  · rw [pack_long l h]
    simp only [Option.bind_some]
    rw [if_pos (by omega)]
    rfl
  · have hlen := packet_length l
    have hE := esc_length l
    rw [pack_short l (by omega) _ (by omega)]
    simp only [Option.bind_some]
    rw [if_neg (by omega), if_pos trivial, decide_eq_false (by omega)]
    have j1 : ∀ k, anvillaw17_GdbSum.j1 (k + 1) (packet l) true l a1 a2 = some true := fun k => by simp only [anvillaw17_GdbSum.j1]; rw [if_pos trivial]
    have w2 : wrap64 (((packet l).length : Int) - 2) = (((esc l).length + 2 : Nat) : Int) := by rw [w64 _ (by omega) (by omega)]; omega
    simp only [anvillaw17_GdbSum.j0]
    rw [if_neg (by simp)]
    by_cases k1 : a1 < 1
    · rw [if_pos k1, j1]
    rw [if_neg k1]
    by_cases k2 : a1 ≥ ((packet l).length : Int)
    · rw [if_pos k2, j1]
    rw [if_neg k2, if_pos (by omega), if_pos (by omega)]
    by_cases k3 : rd (packet l) a1 = 35
    · rw [if_pos k3, j1]
    rw [if_neg k3]
    by_cases k4 : a2 = 35
    · rw [if_pos k4, j1]
    rw [if_neg k4]
    by_cases k5 : a2 = 36
    · rw [if_pos k5, j1]
    rw [if_neg k5]
    by_cases k6 : a2 = rd (packet l) a1
    · rw [beq_iff_eq.2 k6, j1]
    rw [beq_eq_false_iff_ne.2 k6]
    obtain ⟨i, rfl⟩ := Int.eq_ofNat_of_zero_le (show 0 ≤ a1 by omega)
    have main := flip_refused l (by omega) hb i a2 (by omega) (by omega) hc k3 k4 k5 k6
    simp only [anvillaw17_GdbSum.j1]
    rw [if_neg (by simp), w2]
    by_cases k7 : (i : Int) ≥ (((esc l).length + 2 : Nat) : Int)
    · rw [if_pos k7, if_pos (by omega), if_pos (by omega)]
      by_cases k8 : Go.bits .or .u8 a2 32 = Go.bits .or .u8 (rd (packet l) (i : Int)) 32
      · rw [if_pos k8]
      · rw [if_neg k8, Int.toNat_natCast]
        obtain ⟨e, he, hu⟩ := main (fun _ => k8) 7001 (by omega)
        rw [hu]
        simp only [Option.bind_some]
        rw [if_neg he]
        rfl
    · rw [if_neg k7, if_pos (by omega), if_pos (by omega), Int.toNat_natCast]
      obtain ⟨e, he, hu⟩ := main (fun h => absurd h (by omega)) 7001 (by omega)
      rw [hu]
      simp only [Option.bind_some]
      rw [if_neg he]
      rfl

end Go.Proofs.YtmjmaellggknnaaDoor.Pure
