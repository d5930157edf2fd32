/- Walk laws that these walks need beside the words: '>=' of two texts. No condition. -/
import Derived.WalkKit
import Derived.Laws.Strings
import Derived.Test.YtbhkinfdilngiaaVMore
namespace Go.Proofs.Ytbhkinfdilngiaa.L
open Go.RowKit
theorem str_geq (t : TypeId) (a b : ByteArray) : binOp .geq t (.string a) (.string b) = pure (.bool !(Op.bytesLess a.toList b.toList)) := by simp [binOp, Op.stringOp]
open Go.Proofs.YtbhkinfdilngiaaW.PrintWords in
/-- A row of texts that is read: cell by cell. -/
theorem cells_at {w : World} {A : Option Addr} {l : List ByteArray} (h : Kd.C Kd.string w A l.length l) (hp : 0 < l.length) :
    ∃ b off, A = some ⟨b, off, none⟩ ∧ ∀ (j : Nat) (x : ByteArray), l[j]? = some x → w.cell? ⟨b, off + j, none⟩ = some (.string x) := by
  obtain ⟨_, _, h2⟩ := h
  obtain ⟨⟨b, off, spot⟩, rfl, hc⟩ := h2 hp
  have one : ∀ (j : Nat) (x : ByteArray), l[j]? = some x → w.cell? ((⟨b, off, spot⟩ : Addr).add j) = some (.string x) := by
    intro j x hx
    obtain ⟨c, _, rfl, h4⟩ := hc j x hx
    have := h4 0 _ rfl
    rwa [show j * Kd.string.sz + 0 = j by show j * 1 + 0 = j; omega] at this
  have hspot : spot = none := by simpa [Addr.add] using World.cell?_spot (one 0 _ (List.getElem?_eq_getElem hp))
  subst hspot
  exact ⟨b, off, rfl, fun j x hx => by rw [← Go.WideShapes.add_plain]; exact one j x hx⟩
theorem block_at {w : World} {b off : Nat} {v : Value} (h : w.cell? ⟨b, off, none⟩ = some v) : b < w.heap.size := World.block_lt_of_cell? w _ h
end Go.Proofs.Ytbhkinfdilngiaa.L
