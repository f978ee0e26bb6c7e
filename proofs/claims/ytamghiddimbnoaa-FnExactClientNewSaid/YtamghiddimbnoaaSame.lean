/- Equals: the laws' 'eqRowS' and 'eqEntryS' answer true of a list and itself. Condition: lists below 2^40 elements. -/
import Derived.Test.YtamghiddimbnoaaPFnExactClientNewx5
namespace Go.Proofs.Ytamghiddimbnoaa.PFnExactClientNew.Same
open Go.RowKit Go.Proofs.Ytamghiddimbnoaa.PFnExactClientNew Go.Proofs.YtamghiddimbnoaaW.PrintWords Go.Proofs.YtamghiddimbnoaaW.PrintLast
theorem ev_neg {α : Type} {c : Prop} [Decidable c] {f g : Nat → Option α} {r : α} (h : ¬ c) (k : Ev g r) : Ev (fun n => if c then f n else g n) r := Ev.congr (fun _ => if_neg h) k
theorem ev_pos {α : Type} {c : Prop} [Decidable c] {f g : Nat → Option α} {r : α} (h : c) (k : Ev f r) : Ev (fun n => if c then f n else g n) r := Ev.congr (fun _ => if_pos h) k
theorem wrapS (i : Int) (h0 : 0 ≤ i) (h : i ≤ 4611686018427387904) : wrap64 (i + 1) = i + 1 := by unfold wrap64; omega
theorem eqRow_refl (a b : Int) (c : ByteArray) : laws_eqRow.f a b c a b c = some true := by simp [laws_eqRow.f]
theorem eqOp_refl (a b c d : Int) (e : ByteArray) : laws_eqOp.f a b c d e a b c d e = some true := by simp [laws_eqOp.f]
theorem eqEntry_refl (x y a b c d : Int) (e : ByteArray) : laws_eqEntry.f x y a b c d e x y a b c d e = some true := by simp [laws_eqEntry.f, eqOp_refl]
theorem eqR_ev (d : Nat) : ∀ (x : List S38) (i : Int), 0 ≤ i → (x.length : Int) - i = d → x.length ≤ 1099511627776 → Ev (fun k => laws_eqRowS.l0 k x x i) true := by
  induction d with
  | zero =>
    intro x i h0 hd hl
    refine Ev.step (f := fun _ => some true) (fun k => ?_) (Ev.now _)
    simp only [laws_eqRowS.l0]; rw [if_neg (by omega)]
  | succ d ih =>
    intro x i h0 hd hl
    have hi : i < (x.length : Int) := by omega
    refine Ev.step (fun k => ?_) (ih x (i + 1) (by omega) (by omega) hl)
    simp only [laws_eqRowS.l0, if_pos hi, if_pos h0, eqRow_refl, Option.bind_some, if_true, wrapS i h0 (by omega)]
theorem eqR (x : List S38) (hl : x.length ≤ 1099511627776) : Ev (fun k => laws_eqRowS.f k x x) true :=
  Ev.congr (fun k => by simp only [laws_eqRowS.f, if_true]) (eqR_ev x.length x 0 (by omega) (by omega) hl)
theorem eqE_ev (d : Nat) : ∀ (x : List S44) (i : Int), 0 ≤ i → (x.length : Int) - i = d → x.length ≤ 1099511627776 → Ev (fun k => laws_eqEntryS.l0 k x x i) true := by
  induction d with
  | zero =>
    intro x i h0 hd hl
    refine Ev.step (f := fun _ => some true) (fun k => ?_) (Ev.now _)
    simp only [laws_eqEntryS.l0]; rw [if_neg (by omega)]
  | succ d ih =>
    intro x i h0 hd hl
    have hi : i < (x.length : Int) := by omega
    refine Ev.step (fun k => ?_) (ih x (i + 1) (by omega) (by omega) hl)
    simp only [laws_eqEntryS.l0, if_pos hi, if_pos h0, eqEntry_refl, Option.bind_some, if_true, wrapS i h0 (by omega)]
theorem eqE (x : List S44) (hl : x.length ≤ 1099511627776) : Ev (fun k => laws_eqEntryS.f k x x) true :=
  Ev.congr (fun k => by simp only [laws_eqEntryS.f, if_true]) (eqE_ev x.length x 0 (by omega) (by omega) hl)
end Go.Proofs.Ytamghiddimbnoaa.PFnExactClientNew.Same
