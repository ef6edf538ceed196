/-
  PROVED: for every payload p, GdbBack(p) of the given program returns true (Unpack of Pack of a payload that is not too long is the payload, a longer one is refused), and p reads afterwards as it read before.
  CONDITIONS: those of the card Rows.GdbBackCardSaid, none added: unicode/utf8.acceptRanges and unicode/utf8.first start as the program's and the library's text lays them (tied by the given Tie); internal/bytealg.MaxLen may hold any int.
-/
import Derived.Test.YtmjmaellggknnaaDoorGdbS
import Derived.SevenTiedAt
namespace Go.Proofs.YtmjmaellggknnaaDoor.gdbBack
set_option linter.unusedSimpArgs false
set_option linter.unusedVariables false
open Go
set_option maxRecDepth 100000
theorem card_holds : Rows.GdbBackCardSaid :=
  Claim7.holds_tied_plain_at .later [] [.data, .pinned] true (true, "8ed22910a91a391dc6b1df76f5c93ebbb710197acb74ae6ba211312b8cd80921") false
    said (fun _ h => by cases h) (by kernel_rfl) (fun _ h => by cases h) gdbBack_row_tie rfl ⟨rfl, rfl⟩ (by kernel_rfl) rfl
    (fun f fn hf hfn => by
      obtain rfl : f = 3 := Option.some.inj ((show Tryd.prog.funcNamed "anvil/anvillaw17.GdbBack" = some 3 by kernel_rfl).symm.trans hf) |>.symm
      obtain rfl : fn = Tryd.f3 := (Option.some.inj (Tryd.func3.symm.trans hfn)).symm
      exact ⟨by kernel_rfl, fun j t ht => by
        rw [Tryd.params3] at ht
        have h3 : t = 22 := by
          rcases j with _ | j
          · simpa using ht.symm
          · simp at ht
        subst h3
        exact (show Tryd.prog.wantsStandIn 22 = false by kernel_rfl)⟩)
    (by kernel_rfl)
#print axioms card_holds
end Go.Proofs.YtmjmaellggknnaaDoor.gdbBack
