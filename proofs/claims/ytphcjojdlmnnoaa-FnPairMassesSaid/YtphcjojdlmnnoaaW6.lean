/- Gains and acts: areGains, areActs, ActsValid; spec: l10Gains, ActsValid. -/
import Derived.Test.YtphcjojdlmnnoaaW5
set_option linter.unusedSimpArgs false
set_option linter.unusedVariables false
namespace Go.Proofs.Ytphcjojdlmnnoaa
open Go.RowKit
theorem RowsAt.vals {w : World} {ao n xss} (h : RowsAt w ao n xss) : ∃ vals : Nat → Value, ∀ k, k < n → (∃ b off, ao = some ⟨b, off, none⟩ ∧ b < w.heap.size ∧ w.cell? ⟨b, off + k, none⟩ = some (vals k)) ∧ ∃ a' n' c', vals k = .slice a' n' c' ∧ IntsAt w a' n' (nthL xss k) := by
  by_cases h0 : 0 < n
  · obtain ⟨b, off, e, hbs, hc⟩ := h.cell h0
    refine ⟨fun k => (w.cell? ⟨b, off + k, none⟩).getD undef, fun k hk => ?_⟩
    obtain ⟨a', n', c', h1, h2⟩ := hc k hk
    exact ⟨⟨b, off, e, hbs, by show w.cell? _ = some ((w.cell? ⟨b, off + k, none⟩).getD undef); rw [h1]; rfl⟩, a', n', c', by show (w.cell? ⟨b, off + k, none⟩).getD undef = _; rw [h1]; rfl, h2⟩
  · exact ⟨fun _ => undef, fun k hk => by omega⟩
end Go.Proofs.Ytphcjojdlmnnoaa
