/- More of what the laws' walks take. -/
import Derived.Test.YtjklefkkdaelnaaDoorBoxes
namespace Go.Proofs.YtjklefkkdaelnaaDoor
set_option linter.unusedVariables false
set_option linter.unusedSimpArgs false
open Go.RowKit
theorem cell_dr {W : World} {B j : Nat} {v : Value} (h : W.cell? ⟨B, j, none⟩ = some v) : W.drew.cell? ⟨B, j, none⟩ = some v := h
section
variable {w : World} {lo hi k0 k1 k2 k3 : Nat} {a b c d : Option Addr} {xs ys zs us : List Int}
theorem Two.i1 (h : Two w lo hi (.slice a xs.length k0) (.slice b ys.length k1) xs ys) : IntsAt w a k0 xs := let ⟨_, _, _, h3, _⟩ := h; h3.ints
theorem Two.i2 (h : Two w lo hi (.slice a xs.length k0) (.slice b ys.length k1) xs ys) : IntsAt w b k1 ys := let ⟨_, _, _, _, h4⟩ := h; h4.ints
theorem Four.i1 (h : Four w lo hi (.slice a xs.length k0) (.slice b ys.length k1) (.slice c zs.length k2) (.slice d us.length k3) xs ys zs us) : IntsAt w a k0 xs := let ⟨_, _, _, h3, _⟩ := h; h3.i1
theorem Four.i2 (h : Four w lo hi (.slice a xs.length k0) (.slice b ys.length k1) (.slice c zs.length k2) (.slice d us.length k3) xs ys zs us) : IntsAt w b k1 ys := let ⟨_, _, _, h3, _⟩ := h; h3.i2
theorem Four.i3 (h : Four w lo hi (.slice a xs.length k0) (.slice b ys.length k1) (.slice c zs.length k2) (.slice d us.length k3) xs ys zs us) : IntsAt w c k2 zs := let ⟨_, _, _, _, h4⟩ := h; h4.i1
theorem Four.i4 (h : Four w lo hi (.slice a xs.length k0) (.slice b ys.length k1) (.slice c zs.length k2) (.slice d us.length k3) xs ys zs us) : IntsAt w d k3 us := let ⟨_, _, _, _, h4⟩ := h; h4.i2
end
end Go.Proofs.YtjklefkkdaelnaaDoor
