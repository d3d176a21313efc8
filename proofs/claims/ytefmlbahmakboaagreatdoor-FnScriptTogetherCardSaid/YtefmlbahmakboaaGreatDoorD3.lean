/- What the reference's drawing functions draw: some value, in new memory (printed by drawgen.py). The reference's draws of a whole law's arguments: rules. -/
import Derived.Test.YtefmlbahmakboaaGreatDoorD2
set_option linter.unusedSimpArgs false
set_option linter.unusedVariables false
namespace Go.Proofs.YtefmlbahmakboaaGreatDoor
open Go.RowKit
theorem BytesIn.on {w w' : World} {R R' : Nat} {ao : Option Addr} {n : Nat} (h : BytesIn w R ao n) (hb : Below R w w') (hR : R ≤ R') : BytesIn w' R' ao n := by
  refine ⟨h.len, fun hn => ?_⟩
  obtain ⟨b, off, e, hbR, hc⟩ := h.cell hn
  refine ⟨b, off, e, by omega, fun k hk => ?_⟩
  obtain ⟨v, h0, h1, hv⟩ := hc k hk
  exact ⟨v, h0, h1, (cell_block (hb.block b hbR)).trans hv⟩
theorem l14OpenR_any (ao : Option Addr) (n c R : Nat) (w : World) (hR : w.heap.size = R) (hx : BytesIn w R ao n) (hnc : n ≤ c) :
    Calls Tryz.prog 34 #[.slice ao n c] w fun e w' => e = .returned (.pointer (some ⟨R, 0, none⟩)) ∧ Rd w' R 0 ∧ Below R w w' := by
  subst hR; exact l14Open_any ao n c w hx hnc
end Go.Proofs.YtefmlbahmakboaaGreatDoor
