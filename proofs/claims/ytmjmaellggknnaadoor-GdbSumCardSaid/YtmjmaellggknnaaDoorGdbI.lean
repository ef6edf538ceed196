import Derived.Test.YtmjmaellggknnaaDoorGdbH
namespace Go.Proofs.YtmjmaellggknnaaDoor.PGdbBack
set_option linter.unusedSimpArgs false
set_option linter.unusedVariables false
open Go.Lib Go.RowKit Go.Proofs.YtmjmaellggknnaaDoorW.PrintWords Go.Proofs.YtmjmaellggknnaaDoorW.PrintLast Go.Proofs.YtmjmaellggknnaaDoorW.PrintMore
set_option linter.unusedVariables false

theorem add_add (a : Addr) (i j : Nat) : (a.add i).add j = a.add (i + j) := by
  unfold Addr.add
  by_cases hi : i = 0
  · subst hi; simp
  · by_cases hj : j = 0
    · subst hj; simp [hi]
    · simp [hi, hj, Nat.add_assoc]

theorem index_none35 (l : List UInt8) (h2 : 2 ≤ l.length) (h : ∃ b ∈ l, 128 ≤ b.toNat) : Lib.index [36, 35] l = -1 := by
  apply Lib.index_none
  intro j hj
  cases ho : Lib.occAt [36, 35] l j with
  | false => rfl
  | true =>
    exfalso
    rcases Lib.occAt_room ho with hr | hr
    · have hj0 : j = 0 ∧ l.length = 2 := by simp at hr; omega
      obtain ⟨rfl, hl2⟩ := hj0
      have hp := (Lib.occAt_iff_take [36, 35] l 0 (by simp; omega))
      rw [ho] at hp
      have hq : l = [36, 35] := by
        have : (List.take l.length (List.drop 0 [36, 35]) : List UInt8) = l := by simpa using hp.symm
        rw [← this, hl2]
        rfl
      obtain ⟨b, hb, hb8⟩ := h
      rw [hq] at hb
      simp at hb
      rcases hb with rfl | rfl <;> revert hb8 <;> decide
    · rw [hr] at h2; simp at h2

set_option maxHeartbeats 8000000 in
set_option maxRecDepth 1000000 in
theorem indexAny_short (bs : List UInt8) (ad : Addr) (c : Nat) (chars : ByteArray) (w : World) (m : Int) (h2 : 2 ≤ bs.length) (h8 : bs.length ≤ 8) (hcap : bs.length ≤ c) (hlist : chars.data.toList = [36, 35])
    (hT : Lib.Utf8Tabs 1 2 w) (hm : w.cell? ⟨0, 0, none⟩ = some (.int .i64 m))
    (hc : ∀ j b, bs[j]? = some b → w.cell? (ad.add j) = some (.int .u8 (b.toNat : Int))) :
    Calls Tryd.prog 14 #[.slice (some ad) bs.length c, .string chars] w fun e w' => e = .returned (.int .i64 (Lib.indexAny bs chars.data.toList)) ∧ Below w.heap.size w w' := by
  have hcs : chars.size = 2 := by rw [Lib.size_eq, hlist]; rfl
  have hemp : chars.toList.isEmpty = false := by rw [Lib.toList_data, hlist]; rfl
  have hn1 : ((chars.size : Int) == 1) = false := beq_eq_false_iff_ne.2 (by omega)
  have hb1 : ((bs.length : Int) == 1) = false := beq_eq_false_iff_ne.2 (by omega)
  have h8z : decide ((8 : Int) < (bs.length : Int)) = false := decide_eq_false (by omega)
  have hg0 : ∀ h : 0 < chars.size, chars[0]'h = 36 := fun h => by
    have := Lib.data_getElem? chars 0 h
    rw [hlist] at this
    simpa using this.symm
  have hg1 : ∀ h : 1 < chars.size, chars[1]'h = 35 := fun h => by
    have := Lib.data_getElem? chars 1 h
    rw [hlist] at this
    simpa using this.symm
  have n0 : ∀ (w : World) ty, (Instr.next (.pointer (some ⟨w.heap.size, 0, none⟩)) true ty).run Tryd.prog (w.iter chars 0) = .ok (.tuple #[.bool true, .int .i64 0, .int .i32 36]) (w.iter chars 1) := fun w ty => by
    have := run_next_ascii (P := Tryd.prog) w chars 0 ty (by omega) (by rw [hg0]; decide)
    rw [hg0] at this
    exact this
  have n1 : ∀ (w : World) ty, (Instr.next (.pointer (some ⟨w.heap.size, 0, none⟩)) true ty).run Tryd.prog (w.iter chars 1) = .ok (.tuple #[.bool true, .int .i64 1, .int .i32 35]) (w.iter chars 2) := fun w ty => by
    have := run_next_ascii (P := Tryd.prog) w chars 1 ty (by omega) (by rw [hg1]; decide)
    rw [hg1] at this
    exact this
  have n2 := fun (w : World) ty => run_next_end (P := Tryd.prog) w chars 2 ty (by omega)
  clear hg0 hg1
  have HT : Aside _ := hT
  have HM : Aside _ := hm
  have HR : Aside _ := hc
  have HL : Aside _ := hlist
  clear hT hm hc hlist
  go_enter Tryd.func14, Tryd.ntmps14
  go_wp2_with (first | ((with_reducible refine gate_callee (f := 17) rfl ?_); refine goesL_ (some 53) rfl rfl Tryd.func17 (by kernel_rfl) rfl #[.int .i64 bs.length] rfl (by (try simp only [List.map_toArray, List.map_cons, List.map_nil]); first | done | rfl) ?_; (with_reducible refine (shouldSet _ _).mono ?_); rintro e w' ⟨rfl, hw⟩; rw [hw, h8z]; refine ⟨_, rfl, ?_⟩))
  go_loopg [11, 12] bs.length (fun g s11 s12 wx => ∃ i : Nat, i + g = bs.length ∧ s12 = .int .i64 i ∧ Below w.heap.size w wx ∧ Lib.NoAny bs chars.data.toList i)
  case atStart => exact ⟨0, by omega, rfl, Below.refl _ _, Lib.NoAny.zero _ _⟩
  case round =>
    obtain ⟨i, hig, rfl, hbx, hno⟩ := hrel
    have HN : Aside (Lib.NoAny bs chars.data.toList i) := hno
    clear hno
    cases gk with
    | zero =>
      obtain rfl : i = bs.length := by omega
      have hiz : ¬ ((bs.length : Int) < (bs.length : Int)) := by omega
      go_wp2
      go_ret
      exact ⟨by rw [Lib.indexAny_none HN.out]; rfl, hbx⟩
    | succ g =>
      have hi : i < bs.length := by omega
      have hiz : (i : Int) < (bs.length : Int) := by omega
      obtain ⟨x, hx⟩ : ∃ x : UInt8, bs[i]'hi = x := ⟨_, rfl⟩
      have hxl : bs[i]? = some x := by rw [← hx]; exact List.getElem?_eq_getElem hi
      have low : ∀ {a : Addr} {v : Value}, w.cell? a = some v → wr.cell? a = some v := fun {a v} h => (hbx.cell (World.block_lt_of_cell? w _ h)).trans h
      have hcell := low (HR.out i x hxl)
      have hx256 := x.toNat_lt
      by_cases ha : x.toNat < 128
      · have hz : (x.toNat : Int) < 128 := by omega
        have hE := fun w => ext15 chars (x.toNat : Int) w
        rw [HL.out, show ((x.toNat : Int)).toNat.toUInt8 = x by simp] at hE
        have Hx : Aside (bs[i]? = some x) := hxl
        clear hxl hx low
        by_cases h : x = 36 ∨ x = 35
        · have hi0 : (0 : Int) ≤ Lib.indexByte [36, 35] x := by rcases h with rfl | rfl <;> decide
          go_wp2
          go_ret
          refine ⟨by rw [Lib.indexAny_hit HN.out Hx.out (by rw [HL.out]; rcases h with rfl | rfl <;> decide)]; rfl, hbx⟩
        · have hi0 : ¬ ((0 : Int) ≤ Lib.indexByte [36, 35] x) := by
            have h1 : ¬ (36 = x) := fun e => h (.inl e.symm)
            have h2 : ¬ (35 = x) := fun e => h (.inr e.symm)
            simp [Lib.indexByte, h1, h2]
          go_wp2
          go_roundg g
          case measure => omega
          case rel => exact ⟨i + 1, by omega, by first | rfl | simp, hbx, HN.out.succ Hx.out (by
            rw [HL.out]
            have h1 : ¬ (x = 36) := fun e => h (.inl e)
            have h2 : ¬ (x = 35) := fun e => h (.inr e)
            simp [h1, h2])⟩
      · have hz : ¬ ((x.toNat : Int) < 128) := by omega
        have hlen : (bs.drop i).length = bs.length - i := List.length_drop
        have hget : ∀ j, (bs.drop i)[j]? = bs[i + j]? := fun j => by rw [List.getElem?_drop]
        have cD := decodeRune (bs.drop i) (ad.add i) (c - i) wr (Utf8Tabs_below HT.out hbx) (by omega) (by omega) x ((bs.drop i).getD 1 0) ((bs.drop i).getD 2 0) ((bs.drop i).getD 3 0)
          (by rw [hget]; exact hxl) (fun h => by simp [List.getD, List.getElem?_eq_getElem h]) (fun h => by simp [List.getD, List.getElem?_eq_getElem h]) (fun h => by simp [List.getD, List.getElem?_eq_getElem h])
          (fun j b hb => by rw [add_add]; rw [hget] at hb; exact low (HR.out _ _ hb)) (by omega)
        have hDP := decodeN_props (bs.drop i).length x.toNat ((bs.drop i).getD 1 0).toNat ((bs.drop i).getD 2 0).toNat ((bs.drop i).getD 3 0).toNat (by omega) (by omega) hx256 (UInt8.toNat_lt _) (UInt8.toNat_lt _) (UInt8.toNat_lt _)
        have hb1' : ∀ j b, (bs.drop i)[j]? = some b → (bs.drop i).getD j 0 = b := fun j b h => by simp [List.getD, h]
        revert cD hDP
        generalize decodeN (bs.drop i).length x.toNat ((bs.drop i).getD 1 0).toNat ((bs.drop i).getD 2 0).toNat ((bs.drop i).getD 3 0).toNat = p
        obtain ⟨R, K⟩ := p
        intro cD hDP
        unfold DP at hDP
        simp only at cD hDP
        obtain ⟨d1, d2, d3, d4, d5, d6, d7, d8⟩ := hDP
        have hnot : ∀ y : UInt8, 128 ≤ y.toNat → chars.data.toList.contains y = false := fun y hy => by
          rw [HL.out]
          have h1 : ¬ (y = 36) := fun e => by subst e; revert hy; decide
          have h2 : ¬ (y = 35) := fun e => by subst e; revert hy; decide
          simp [h1, h2]
        have HN' : Aside (Lib.NoAny bs chars.data.toList (i + K)) := fun j b hj hb => by
          by_cases hji : j < i
          · exact HN.out j b hji hb
          · apply hnot
            have hb' : (bs.drop i)[j - i]? = some b := by rw [hget]; rw [show i + (j - i) = j by omega]; exact hb
            have hjK : j - i < K := by omega
            have : j - i = 0 ∨ j - i = 1 ∨ j - i = 2 ∨ j - i = 3 := by omega
            rcases this with h | h | h | h
            · rw [h, hget, Nat.add_zero, hxl] at hb'
              cases hb'
              omega
            · rw [h] at hb'
              have := hb1' _ _ hb'
              rw [← this]
              exact d5 (by omega)
            · rw [h] at hb'
              have := hb1' _ _ hb'
              rw [← this]
              exact d6 (by omega)
            · rw [h] at hb'
              have := hb1' _ _ hb'
              rw [← this]
              exact d7 (by omega)
        rw [hlen] at cD d2
        have hMx := low HM.out
        clear hnot hb1' hget d5 d6 d7 low hxl hx
        have hne1 : ((R : Int) == 36) = false := beq_eq_false_iff_ne.2 (by omega)
        have hne2 : ((R : Int) == 35) = false := beq_eq_false_iff_ne.2 (by omega)
        have hwK : wrap64 ((i : Int) + (K : Int)) = ((i + K : Nat) : Int) := by unfold wrap64; omega
        have D1 : Aside _ := d1
        have D2 : Aside _ := d2
        have D3 : Aside _ := d3
        have D4 : Aside _ := d4
        have D8 : Aside _ := d8
        clear d1 d2 d3 d4 d8
        by_cases hR : R = 65533
        · have hRe : ((R : Int) == 65533) = true := by subst hR; rfl
          clear hR
          go_wp2_with (first | ((with_reducible refine gate_callee (f := 20) rfl ?_); refine goesL_ (some 97) rfl rfl Tryd.func20 (by kernel_rfl) rfl #[.slice (some (ad.add i)) (bs.length - i) (c - i)] rfl (by (try simp only [List.map_toArray, List.map_cons, List.map_nil]); first | done | rfl) ?_; (with_reducible refine cD.mono ?_); rintro e w' ⟨rfl, hb⟩; refine ⟨_, rfl, ?_⟩))
          go_rounds 3
          go_roundg (g + 1 - K)
          case measure => have := D1.out; omega
          case rel => exact ⟨i + K, by have := D2.out; omega, by first | exact congrArg _ hwK | rfl | simp [hwK], by unfold World.iter; exact below_alloc (below_step hbx hb) _, HN'⟩
        · have hRe : ((R : Int) == 65533) = false := beq_eq_false_iff_ne.2 (by omega)
          have hRn : ((R : Int) != 65533) = true := by rw [bne, hRe]; rfl
          have hval := (D8.out.resolve_left hR).1
          have hk2 := (D8.out.resolve_left hR).2.1
          have hk3 := (D8.out.resolve_left hR).2.2.1
          have hk4 := (D8.out.resolve_left hR).2.2.2
          obtain ⟨w1, w2, w3⟩ := encode_width R hval D4.out
          have hsz : (Utf8.encode (R : Int)).size = K := by
            rw [w1]
            repeat' split
            · exact (hk2 (by assumption)).symm
            · exact (hk3 (by omega) (by assumption)).symm
            · exact (hk4 (by omega)).symm
          have hix : Lib.index chars.data.toList (Utf8.encode (R : Int)).data.toList = -1 := by
            rw [HL.out]
            exact index_none35 _ (by rw [← Lib.size_eq]; exact w2) w3
          clear hk2 hk3 hk4 w1 hval hR
          by_cases hK : K = 2
          · have hKe : ((2 : Int) == (K : Int)) = true := by subst hK; rfl
            have hse : (chars.toList == (Utf8.encode (R : Int)).toList) = false := by
              rw [beq_eq_false_iff_ne, Lib.toList_data, Lib.toList_data]
              intro e
              obtain ⟨b, hb1, hb2⟩ := w3
              rw [← e, HL.out] at hb1
              simp at hb1
              rcases hb1 with rfl | rfl <;> revert hb2 <;> decide
            clear hK w3 w2 hix hsz
            go_wp2_with (first | ((with_reducible refine gate_callee (f := 20) rfl ?_); refine goesL_ (some 97) rfl rfl Tryd.func20 (by kernel_rfl) rfl #[.slice (some (ad.add i)) (bs.length - i) (c - i)] rfl (by (try simp only [List.map_toArray, List.map_cons, List.map_nil]); first | done | rfl) ?_; (with_reducible refine cD.mono ?_); rintro e w' ⟨rfl, hb⟩; refine ⟨_, rfl, ?_⟩))
            go_roundg (g + 1 - K)
            case measure => have := D1.out; omega
            case rel => exact ⟨i + K, by have := D2.out; omega, by first | exact congrArg _ hwK | rfl | simp [hwK], below_step hbx hb, HN'⟩
          · have hKe : ((2 : Int) == (K : Int)) = false := beq_eq_false_iff_ne.2 (by omega)
            by_cases hKm : (K : Int) ≤ m
            · have hx21 : ∀ w', Below wr.heap.size wr w' → (callFunc 21 #[.string chars, .string (Utf8.encode (R : Int))]).run Tryd.prog w' = .ok (.value (.int .i64 (-1))) w' := fun w' hb => by
                rw [ext21 chars (Utf8.encode (R : Int)) w' m ((hb.cell (World.block_lt_of_cell? wr _ hMx)).trans hMx) w2 (by rw [hsz]; exact hKm) (by omega), hix]
              have low2 : ∀ w', Below wr.heap.size wr w' → w'.cell? ⟨0, 0, none⟩ = some (.int .i64 m) := fun w' hb => (hb.cell (World.block_lt_of_cell? wr _ hMx)).trans hMx
              clear hK w3 w2 hix hsz
              go_wp2_with (first | ((with_reducible refine gate_callee (f := 20) rfl ?_); refine goesL_ (some 97) rfl rfl Tryd.func20 (by kernel_rfl) rfl #[.slice (some (ad.add i)) (bs.length - i) (c - i)] rfl (by (try simp only [List.map_toArray, List.map_cons, List.map_nil]); first | done | rfl) ?_; (with_reducible refine cD.mono ?_); rintro e w' ⟨rfl, hb⟩; refine ⟨_, rfl, ?_⟩; have hx21 := hx21 _ hb; have hMx2 := low2 _ hb))
              go_roundg (g + 1 - K)
              case measure => have := D1.out; omega
              case rel => exact ⟨i + K, by have := D2.out; omega, by first | exact congrArg _ hwK | rfl | simp [hwK], below_step hbx hb, HN'⟩
            · have low2 : ∀ w', Below wr.heap.size wr w' → w'.cell? ⟨0, 0, none⟩ = some (.int .i64 m) := fun w' hb => (hb.cell (World.block_lt_of_cell? wr _ hMx)).trans hMx
              clear hK w3 w2 hix hsz
              go_wp2_with (first | ((with_reducible refine gate_callee (f := 20) rfl ?_); refine goesL_ (some 97) rfl rfl Tryd.func20 (by kernel_rfl) rfl #[.slice (some (ad.add i)) (bs.length - i) (c - i)] rfl (by (try simp only [List.map_toArray, List.map_cons, List.map_nil]); first | done | rfl) ?_; (with_reducible refine cD.mono ?_); rintro e w' ⟨rfl, hb⟩; refine ⟨_, rfl, ?_⟩; have hMx2 := low2 _ hb))
              go_rounds 3
              go_roundg (g + 1 - K)
              case measure => have := D1.out; omega
              case rel => exact ⟨i + K, by have := D2.out; omega, by first | exact congrArg _ hwK | rfl | simp [hwK], by unfold World.iter; exact below_alloc (below_step hbx hb) _, HN'⟩
end Go.Proofs.YtmjmaellggknnaaDoor.PGdbBack
