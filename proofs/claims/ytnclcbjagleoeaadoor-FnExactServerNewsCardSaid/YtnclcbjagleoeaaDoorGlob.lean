/- The package's table of who makes which row, as the program's text lays it; and that memory laid later leaves it as it is. -/
import Derived.Test.YtnclcbjagleoeaaDoorProg
import Derived.Lib.LaidTab
import Derived.WalkKit
import Derived.Deep.Draws
import Derived.KernelRfl
namespace Go.Proofs.YtnclcbjagleoeaaDoor.P
open Go.RowKit

def owners : List Int := [0, 1, 1, 1, 0, 0, 0, 0, 0, 0, 0, 2, 2, 2, 2, 2, 2, 0, 0, 0, 0, 3, 3, 3, 3, 3, 3, 0, 0, 0, 0, 4, 4, 4, 4, 4, 4]
/-- The table reads as the program's text lays it. -/
def Glob (w : World) : Prop := Lib.TabIs Tryd.prog w "loop.example/plashet/impl.rowOwners" .i64 owners
theorem gOwners : Tryd.prog.globalNamed "loop.example/plashet/impl.rowOwners" = some 0 := by kernel_rfl
theorem Glob.var {w : World} (h : Glob w) : w.var? Tryd.prog "loop.example/plashet/impl.rowOwners" = some (owners.map fun z => Value.int .i64 z).toArray := h
theorem Glob.lt {w : World} (h : Glob w) : 0 < w.heap.size := by
  have h := h.var
  unfold World.var? at h
  simp only [gOwners, Option.bind_some] at h
  rcases Nat.lt_or_ge 0 w.heap.size with hl | hl
  · exact hl
  · rw [Array.getElem?_eq_none hl] at h
    cases h
theorem Glob.below {w w' : World} (h : Glob w) (hb : Below w.heap.size w w') : Glob w' := by
  have hl := h.lt
  have h := h.var
  unfold Glob Lib.TabIs World.var? at *
  simp only [gOwners, Option.bind_some] at h ⊢
  rw [hb.block _ hl]
  exact h
theorem Glob.drew {w : World} (h : Glob w) : Glob w.drew := by
  have h := h.var
  unfold Glob Lib.TabIs World.var? at *
  exact h
theorem Glob.drewN {w : World} (h : Glob w) (n : Nat) : Glob (w.drewN n) := by
  induction n generalizing w with
  | zero => exact h
  | succ n ih => rw [← World.drew_drewN]; exact ih h.drew
theorem Glob.cell {w : World} (h : Glob w) (i : Nat) (hi : i < 37) : w.cell? ⟨0, i, none⟩ = some (.int .i64 (owners.getD i 0)) := by
  have hc := World.var?_cell gOwners h.var i
  rw [hc]
  have hl : i < owners.length := hi
  simp [List.getD_eq_getElem?_getD, List.getElem?_eq_getElem hl]
/-- Who makes row 'id', plus one; 0: there is no such row. -/
def ownI (id : Int) : Int := if 0 ≤ id ∧ id < 37 then owners.getD id.toNat 0 else 0
theorem Glob.at_ {w : World} (h : Glob w) (i : Int) (h0 : 0 ≤ i) (h1 : i < 37) : w.cell? ⟨0, i.toNat, none⟩ = some (.int .i64 (ownI i)) := by
  have := h.cell i.toNat (by omega)
  rw [ownI, if_pos ⟨h0, h1⟩]
  exact this
theorem owners_range : ∀ z ∈ owners, 0 ≤ z ∧ z ≤ 4 := by decide
theorem ownI_range (i : Int) : 0 ≤ ownI i ∧ ownI i ≤ 4 := by
  unfold ownI
  split
  · rename_i h
    have hl : i.toNat < owners.length := by have : owners.length = 37 := rfl; omega
    rw [List.getD_eq_getElem?_getD, List.getElem?_eq_getElem hl]
    exact owners_range _ (List.getElem_mem hl)
  · omega
end Go.Proofs.YtnclcbjagleoeaaDoor.P
