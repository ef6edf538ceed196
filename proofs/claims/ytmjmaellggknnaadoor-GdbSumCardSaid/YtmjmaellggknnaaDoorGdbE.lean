import Derived.Test.YtmjmaellggknnaaDoorGdbD
namespace Go.Proofs.YtmjmaellggknnaaDoor.PGdbBack
open Go.Lib Go.RowKit Go.Proofs.YtmjmaellggknnaaDoorW.PrintWords Go.Proofs.YtmjmaellggknnaaDoorW.PrintLast Go.Proofs.YtmjmaellggknnaaDoorW.PrintMore
attribute [local go_sem] max2_int min2_int max_two min_two max_three min_three max_four min_four   -- for this text's walks alone
set_option linter.unusedVariables false
set_option linter.unusedSimpArgs false


set_option maxHeartbeats 8000000 in
set_option maxRecDepth 1000000 in
theorem decodeRune (bs : List UInt8) (ad : Addr) (c : Nat) (w : World) (hT : Lib.Utf8Tabs 1 2 w) (h0 : 0 < bs.length) (hl : bs.length ≤ 9223372036854775807)
    (x0 x1 x2 x3 : UInt8) (hx0 : bs[0]? = some x0) (hx1 : 1 < bs.length → bs[1]? = some x1) (hx2 : 2 < bs.length → bs[2]? = some x2) (hx3 : 3 < bs.length → bs[3]? = some x3)
    (hc : ∀ j b, bs[j]? = some b → w.cell? (ad.add j) = some (.int .u8 (b.toNat : Int))) (h128 : 128 ≤ x0.toNat) :
    Calls Tryd.prog 20 #[.slice (some ad) bs.length c] w fun e w' => e = .returned (.tuple #[.int .i32 (decodeN bs.length x0.toNat x1.toNat x2.toNat x3.toNat).1, .int .i64 (decodeN bs.length x0.toNat x1.toNat x2.toNat x3.toNat).2]) ∧ Below w.heap.size w w' := by
  have cS := decodeSlow bs ad c w hT h0 hl x0 x1 x2 x3 hx0 hx1 hx2 hx3 hc
  have hz0 : (0 : Int) < (bs.length : Int) := by omega
  have hs0' : w.cell? ad = some (.int .u8 (x0.toNat : Int)) := by simpa [Addr.add] using hc 0 x0 hx0
  obtain ⟨R, hR⟩ : ∃ R, (decodeN bs.length x0.toNat x1.toNat x2.toNat x3.toNat).1 = R := ⟨_, rfl⟩
  obtain ⟨K, hK⟩ : ∃ K, (decodeN bs.length x0.toNat x1.toNat x2.toNat x3.toNat).2 = K := ⟨_, rfl⟩
  rw [hR, hK] at cS ⊢
  clear hR hK hx0 hx1 hx2 hx3 hc hT
  have hge : ¬ ((x0.toNat : Int) < 128) := by omega
  go_enter Tryd.func20, Tryd.ntmps20
  go_wp2
  go_loopg [5, 8] 1 (fun kq v5 v8 w' => kq = 1 ∧ v8 = .int .i64 0 ∧ w' = w)
  case atStart => exact ⟨rfl, rfl, rfl⟩
  case round =>
    obtain ⟨rfl, rfl, rfl⟩ := hrel
    go_wp2_with (first | ((with_reducible refine gate_callee (f := 26) rfl ?_); refine goesL_ (some 19) rfl rfl Tryd.func26 (by kernel_rfl) rfl #[.slice (some ad) bs.length c] rfl (by (try simp only [List.map_toArray, List.map_cons, List.map_nil]); first | done | rfl) ?_; (with_reducible refine cS.mono ?_); rintro e w' ⟨rfl, hb⟩; refine ⟨_, rfl, ?_⟩))
    go_ret2
    exact ⟨rfl, hb⟩

end Go.Proofs.YtmjmaellggknnaaDoor.PGdbBack
