/- FormatRat: the reference. -/
import Derived.Deep.RegionHeld3
import Derived.Test.YtehhpkeabckdaaaGreatDoorFmtB
import Derived.Test.YtehhpkeabckdaaaGreatDoorRatOkW
import Derived.Test.YtehhpkeabckdaaaGreatDoorRatLaw
namespace Go.Proofs.YtehhpkeabckdaaaGreatDoor
set_option linter.unusedVariables false
set_option linter.unusedSimpArgs false
open Go.RowKit
def fmtRat (n : Bool) (xs ds : List Int) : ByteArray := if ratOkB n xs ds then (if val ds = 1 then fmtBig n xs else fmtBig n xs ++ ⟨#[47]⟩ ++ fmtNat ds) else ByteArray.empty
theorem fmtRat_size (n : Bool) (xs ds : List Int) : (fmtRat n xs ds).size ≤ 1084 := by
  have h2 := fmtNat_size ds
  have h3 := fmtBig_size n xs
  have h1 : (⟨#[47]⟩ : ByteArray).size = 1 := rfl
  unfold fmtRat
  split
  · split
    · omega
    · rw [ByteArray.size_append, ByteArray.size_append]; omega
  · exact Nat.zero_le _
section
variable (n : Bool) (a : Option Addr) (ca : Nat) (xs : List Int) (b : Option Addr) (cb : Nat) (ds : List Int) (w : World) (ha : IntsAt w a ca xs) (hn : xs.length ≤ 1048576) (hb : IntsAt w b cb ds) (hm : ds.length ≤ 1048576)
include ha hn hb hm
end
end Go.Proofs.YtehhpkeabckdaaaGreatDoor
