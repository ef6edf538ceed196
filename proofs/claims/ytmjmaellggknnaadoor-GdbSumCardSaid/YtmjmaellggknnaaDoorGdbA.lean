import Derived.Ground.NamesProg
import Derived.Shelf.Bytes.IndexByte
import Derived.Lib.SlBytesConst
import Derived.Test.YtmjmaellggknnaaDoorPGdbBackx0
namespace Go.Proofs
set_option linter.unusedSimpArgs false
set_option linter.unusedVariables false
open Go.Shelf
def Tryd.lays187_ren : Go.Shelf.Ren := ⟨fun | 187 => 7 | 255 => 12 | n => n, fun | 37 => 22 | 5 => 5 | 3 => 3 | n => n, fun | n => n⟩
theorem Tryd.lays187 : Go.Proofs.Lays.n187 Tryd.prog Tryd.lays187_ren := {
  mixed := by kernel_rfl
  f187 := Tryd.func7.trans (congrArg some (by kernel_rfl))
  f255 := Tryd.func12.trans (congrArg some (by kernel_rfl))
  t3 := Tryd.underlying3
  a3 := Tryd.isAgg3
  z3 := Tryd.sizeOf3
  v3 := Tryd.zeroValue3
  t5 := Tryd.underlying5
  a5 := Tryd.isAgg5
  z5 := Tryd.sizeOf5
  v5 := Tryd.zeroValue5
  t37 := Tryd.underlying22
  a37 := Tryd.isAgg22
  z37 := Tryd.sizeOf22
  v37 := Tryd.zeroValue22 }
end Go.Proofs
namespace Go.Proofs.YtmjmaellggknnaaDoor.PGdbBack
open Go.RowKit Go.Proofs.YtmjmaellggknnaaDoorW.PrintWords Go.Proofs.YtmjmaellggknnaaDoorW.PrintLast Go.Proofs.YtmjmaellggknnaaDoorW.PrintMore
set_option linter.unusedVariables false

theorem add_blk (a : Addr) (n : Nat) : (a.add n).block = a.block := by unfold Addr.add; split <;> rfl
/-- '[]byte("..")' of a constant: the row behind its conversion. -/
theorem conv_row {P : Program} {ops : Array Oper} {rest : List Oper} {o : Oper} {a : Act} {Q : Exit → Act → World → Prop} {W w0 : World} (base t e : Nat)
    (hgd : o.guard = none) (x : Operand) (ho : o.op = .convert t t x) (ht : P.underlying t = some (.slice e)) (he : P.underlying e = some (.int .u8))
    {A : Option Addr} {n c : Nat} (hx : a.eval x = .slice A n c) {xs : List Int} {okk : Nat → Prop}
    (HO : (Kd.int .u8).R e W base okk (.slice A n c) xs) (hn : 0 < xs.length) (HB : Below base w0 W)
    (h : ∀ g w1, A = some ⟨g, 0, none⟩ → base ≤ g → (Kd.int .u8).C w1 A xs.length xs → Below base w0 w1 → (∀ k, some k ≠ (.slice A n c : Value).ownBlock → w1.heap[k]? = W.heap[k]?) → wpList P ops Q rest (a.put o.dst (.slice A n c)) w1) :
    wpList P ops Q (o :: rest) a W := by
  obtain ⟨h0, inner, hown, hr⟩ := HO
  have hown' := hown
  obtain ⟨h1, ⟨hv, hz⟩ | ⟨g, cap, cur, hv, hg, hh, hnc, hcm, hcs, htk⟩⟩ := hown
  · omega
  injection hv with hA hl hc
  subst hA
  have hsh : W.shape? g = some (e, cur.size) := by unfold World.shape?; rw [hh]
  have hheap : ∀ k, k ≠ g → (W.freeze ⟨g, cur.size, none⟩ 1).heap[k]? = W.heap[k]? := by
    intro k hk
    unfold World.freeze
    rw [if_neg (by decide)]
    simp [Array.getElem?_modify, Ne.symm hk]
  have hsz : (W.freeze ⟨g, cur.size, none⟩ 1).heap.size = W.heap.size := by
    unfold World.freeze
    rw [if_neg (by decide)]
    simp
  have hblk : (W.freeze ⟨g, cur.size, none⟩ 1).heap[g]? = some (.cells cur e (cur.size, cur.size + 1)) := by
    unfold World.freeze
    rw [if_neg (by decide)]
    simp [Array.getElem?_modify, hh]
  have hos : (W.freeze ⟨g, cur.size, none⟩ 1).os = W.os := rfl
  have htp : (W.freeze ⟨g, cur.size, none⟩ 1).tape = W.tape := rfl
  have hop : (W.freeze ⟨g, cur.size, none⟩ 1).output = W.output := rfl
  refine Kd.event_run (w1 := W.freeze ⟨g, cur.size, none⟩ 1) hgd ?_ (h g _ rfl hg ?_ ?_ ?_)
  · simp [execOp, ho, hx, convert, run_underlying ht, run_underlying he, markStringish, hsh]
  · have hC : (Kd.int .u8).C W (some ⟨g, 0, none⟩) xs.length xs := (Kd.R_reads' (w := W) (base := base) (ok := okk) (n := n) (c := c) ⟨h0, inner, hown', hr⟩).2.2
    refine ⟨hC.1, hC.2.1, fun hp => ?_⟩
    obtain ⟨ad, had, hj⟩ := hC.2.2 hp
    refine ⟨ad, had, fun j p hjp => ?_⟩
    obtain ⟨cc, hc1, hc2, hc3⟩ := hj j p hjp
    refine ⟨cc, hc1, hc2, fun i u hu => ?_⟩
    have h3 := hc3 i u hu
    injection had with had
    subst had
    have hb : ((⟨g, 0, none⟩ : Addr).add (j * (Kd.int .u8).sz + i)).block = g := add_blk _ _
    simp only [World.cell?, hb, hh] at h3
    simp only [World.cell?, hb, hblk]
    exact h3
  · refine ⟨?_, ?_, ?_, ?_, fun k hk => ?_⟩
    · rw [hos]; exact HB.os
    · rw [htp]; exact HB.tape
    · rw [hop]; exact HB.output
    · rw [hsz]; exact HB.size
    · rw [hheap k (by omega)]; exact HB.block k hk
  · intro k hk
    exact hheap k (fun e => hk (by rw [e]; rfl))

/-! ### bytes.IndexByte: function 7 -/
def gdb_indexByte.f (k : Nat) (l0 : List Int) (a1 : Int) : Option Int := some (Lib.indexByte (Lib.bytesOf l0) a1.toNat.toUInt8)
theorem gdb_indexByte.mono : ∀ a0 a1 k, LeO (gdb_indexByte.f k a0 a1) (gdb_indexByte.f (k + 1) a0 a1) := fun _ _ _ => LeO.refl _
theorem gdb_indexByte.calls (k : Nat) (b : Nat) (c0 : Nat) (l0 : List Int) (a1 : Int) (r : Int) (w : World) (hr0 : Kd.C (Kd.int .u8) w (some ⟨b, 0, none⟩) l0.length l0) (h : gdb_indexByte.f k l0 a1 = some r) :
    Calls Tryd.prog 7 #[.slice (some ⟨b, 0, none⟩) l0.length c0, .int .u8 a1] w fun e w' => e = .returned (.int .i64 r) ∧ ∃ nd, w' = w.drewN nd := by
  obtain rfl := Option.some.inj h
  refine (Any.bytes_IndexByte Tryd.lays187 b 0 l0.length c0 l0 a1 w rfl fun i hi => ?_).mono ?_
  · obtain ⟨ad, he, hc⟩ := Kd.at_int hr0 (i : Int) (by omega) (by omega)
    injection he with he
    subst he
    have : ((⟨b, 0, none⟩ : Addr).add i) = ⟨b, 0 + i, none⟩ := by
      unfold Addr.add
      split
      · subst_vars; rfl
      · rfl
    simp only [Int.toNat_natCast] at hc
    rw [this] at hc
    rw [hc]
    simp [rd]
  · rintro e w' ⟨rfl, rfl⟩
    exact ⟨rfl, 0, rfl⟩

end Go.Proofs.YtmjmaellggknnaaDoor.PGdbBack
