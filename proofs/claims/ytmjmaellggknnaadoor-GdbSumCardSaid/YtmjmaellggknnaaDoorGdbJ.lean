import Derived.Test.YtmjmaellggknnaaDoorGdbI
namespace Go.Proofs.YtmjmaellggknnaaDoor.PGdbBack
set_option linter.unusedSimpArgs false
set_option linter.unusedVariables false
open Go.Lib Go.RowKit Go.Proofs.YtmjmaellggknnaaDoorW.PrintWords Go.Proofs.YtmjmaellggknnaaDoorW.PrintLast Go.Proofs.YtmjmaellggknnaaDoorW.PrintMore
set_option linter.unusedVariables false

/-- What the library's variables hold: the tables of unicode/utf8; some whole number in bytealg.MaxLen. -/
def Tabs (w : World) : Prop := Lib.Utf8Tabs 1 2 w ∧ ∃ m, w.cell? ⟨0, 0, none⟩ = some (.int .i64 m)
theorem Tabs.below {w w' : World} (h : Tabs w) (hb : Below w.heap.size w w') : Tabs w' := by
  obtain ⟨h1, m, h2⟩ := h
  exact ⟨Utf8Tabs_below h1 hb, m, (hb.cell (World.block_lt_of_cell? w _ h2)).trans h2⟩

/-! ### bytes.ContainsAny: function 10, at "$#" -/
def gdb_containsAny.f (k : Nat) (l0 : List Int) (a1 : ByteArray) : Option Bool :=
  if a1.data.toList = [36, 35] then if l0.all (fun x => decide (0 ≤ x) && decide (x < 256)) = true then some (l0.any fun x => x == 36 || x == 35) else none else none
theorem gdb_containsAny.mono : ∀ a0 a1 k, LeO (gdb_containsAny.f k a0 a1) (gdb_containsAny.f (k + 1) a0 a1) := fun _ _ _ => LeO.refl _

set_option maxRecDepth 100000 in
theorem any_bytes (l : List Int) (hr : ∀ x ∈ l, 0 ≤ x ∧ x < 256) : decide (0 ≤ Lib.indexAny (Lib.bytesOf l) [36, 35]) = l.any fun x => x == 36 || x == 35 := by
  induction l with
  | nil => rfl
  | cons x l ih =>
    have hx := hr x (List.mem_cons_self ..)
    have ih := ih (fun y hy => hr y (List.mem_cons_of_mem _ hy))
    have hb : Lib.bytesOf (x :: l) = UInt8.ofNat x.toNat :: Lib.bytesOf l := rfl
    rw [hb, Lib.indexAny]
    have hcon : ([36, 35] : List UInt8).contains (UInt8.ofNat x.toNat) = (x == 36 || x == 35) := by
      obtain ⟨n, rfl⟩ := Int.eq_ofNat_of_zero_le hx.1
      have hn : n < 256 := by omega
      have : ∀ n : Fin 256, ([36, 35] : List UInt8).contains (UInt8.ofNat n.val) = (((n.val : Nat) : Int) == 36 || ((n.val : Nat) : Int) == 35) := by decide
      simpa using this ⟨n, hn⟩
    rw [hcon, List.any_cons]
    have hge := Lib.indexAny_ge [36, 35] (Lib.bytesOf l)
    cases (x == 36 || x == 35)
    · simp only [Bool.false_eq_true, if_false, Bool.false_or]
      rw [← ih]
      split
      · rename_i h
        rw [eq_of_beq h]
        first | done | decide
      · rename_i h
        have : Lib.indexAny (Lib.bytesOf l) [36, 35] ≠ -1 := fun e => h (by rw [e]; rfl)
        exact decide_eq_decide.2 (by omega)
    · simp

theorem bytes_at (l : List Int) (hr : ∀ x ∈ l, 0 ≤ x ∧ x < 256) (j : Nat) (b : UInt8) (h : (Lib.bytesOf l)[j]? = some b) : l.getD j 0 = (b.toNat : Int) ∧ j < l.length := by
  unfold Lib.bytesOf at h
  rw [List.getElem?_map] at h
  cases hl : l[j]? with
  | none => rw [hl] at h; simp at h
  | some x =>
    rw [hl] at h
    simp at h
    obtain ⟨hj, he⟩ := List.getElem?_eq_some_iff.1 hl
    have hx := hr x (by rw [← he]; exact List.getElem_mem _)
    subst h
    refine ⟨?_, hj⟩
    rw [List.getD_eq_getElem?_getD, hl]
    simp
    omega

set_option maxHeartbeats 4000000 in
set_option maxRecDepth 1000000 in
theorem gdb_containsAny.calls (k : Nat) (A0 : Option Addr) (c0 : Nat) (l0 : List Int) (a1 : ByteArray) (r : Bool) (w : World) (hr0 : Kd.C (Kd.int .u8) w A0 l0.length l0) (hc0 : l0.length ≤ c0) (hT : Tabs w) (h : gdb_containsAny.f k l0 a1 = some r) :
    Calls Tryd.prog 10 #[.slice A0 l0.length c0, .string a1] w fun e w' => e = .returned (.bool r) ∧ Below w.heap.size w w' := by
  unfold gdb_containsAny.f at h
  split at h
  · rename_i hlist
    split at h
    · rename_i hall
      obtain rfl := Option.some.inj h
      clear h
      have hr : ∀ x ∈ l0, 0 ≤ x ∧ x < 256 := fun x hx => by
        have := List.all_eq_true.1 hall x hx
        simpa using this
      have hbl : (Lib.bytesOf l0).length = l0.length := by simp [Lib.bytesOf]
      obtain ⟨hT1, m, hm⟩ := hT
      have cI : Calls Tryd.prog 14 #[.slice A0 l0.length c0, .string a1] w fun e w' => e = .returned (.int .i64 (Lib.indexAny (Lib.bytesOf l0) [36, 35])) ∧ Below w.heap.size w w' := by
        by_cases h0 : l0.length = 0
        · have : l0 = [] := List.eq_nil_of_length_eq_zero h0
          subst this
          exact indexAny_nil A0 c0 a1 w hlist
        · obtain ⟨ad, hA, hcell⟩ := (Kd.reads_of_C (d := (0 : Int)) hr0).2.2 (by omega)
          subst hA
          have hc : ∀ j b, (Lib.bytesOf l0)[j]? = some b → w.cell? (ad.add j) = some (.int .u8 (b.toNat : Int)) := fun j b hb => by
            obtain ⟨h1, h2⟩ := bytes_at l0 hr j b hb
            rw [hcell j h2, h1]
          by_cases h1 : l0.length = 1
          · obtain ⟨x, hx⟩ : ∃ x, (Lib.bytesOf l0) = [x] := by
              cases hb : Lib.bytesOf l0 with
              | nil => rw [hb] at hbl; simp at hbl; omega
              | cons x t =>
                rw [hb] at hbl
                simp at hbl
                exact ⟨x, by rw [List.eq_nil_of_length_eq_zero (by omega : t.length = 0)]⟩
            have := indexAny_lone x ad c0 a1 w hlist (by have := hc 0 x (by rw [hx]; rfl); simpa [Addr.add] using this)
            rw [h1]
            refine this.mono fun e w' ⟨he, hb⟩ => ⟨?_, hb⟩
            rw [he, hx]
            congr 3
            by_cases h36 : x = 36
            · subst h36; decide
            · by_cases h35 : x = 35
              · subst h35; decide
              · simp [Lib.indexAny, h36, h35]
          · have hle := hr0.2.1
            rw [← hbl]
            rw [← hlist]
            by_cases h8 : 8 < l0.length
            · refine indexAny_long (Lib.bytesOf l0) ad c0 a1 w (by omega) (by omega) (by rw [Lib.size_eq, hlist]; decide) (by rw [Lib.size_eq, hlist]; decide) ?_ hc
              intro j b hb
              rw [hlist] at hb
              have := List.mem_of_getElem? hb
              simp at this
              rcases this with rfl | rfl <;> decide
            · exact indexAny_short (Lib.bytesOf l0) ad c0 a1 w m (by omega) (by omega) (by omega) hlist hT1 hm hc
      have hany := any_bytes l0 hr
      rw [← hany]
      clear hany hr0 hall hr hT1 hm hbl hlist
      go_enter Tryd.func10, Tryd.ntmps10
      go_wp2_with (first | ((with_reducible refine gate_callee (f := 14) rfl ?_); refine goesL_ (some 7) rfl rfl Tryd.func14 (by kernel_rfl) rfl #[.slice A0 l0.length c0, .string a1] rfl (by (try simp only [List.map_toArray, List.map_cons, List.map_nil]); first | done | rfl) ?_; (with_reducible refine cI.mono ?_); rintro e w' ⟨rfl, hb⟩; refine ⟨_, rfl, ?_⟩))
      go_ret
      exact ⟨rfl, hb⟩
    · cases h
  · cases h

end Go.Proofs.YtmjmaellggknnaaDoor.PGdbBack
