/- The table, as the row lists it. -/
import Derived.Test.YtomhpbhkckjmdaaDoorRRRows
import Derived.Test.YtomhpbhkckjmdaaDoorRRDgB
import Derived.ChangeVars
import Derived.LaidLaws
import Derived.Lay
import Derived.RowKit
namespace Go.Proofs.YtomhpbhkckjmdaaDoorRR
open Go Go.RowKit

theorem mapM_at {α β : Type} {f : α → Option β} : ∀ (l : List α) (ys : List β), l.mapM f = some ys → ∀ (i : Nat) a, l[i]? = some a → ∃ y, ys[i]? = some y ∧ f a = some y
  | [], _, _, i, a, h => by simp at h
  | b :: l, ys, h, i, a, hi => by
    rw [List.mapM_cons] at h
    simp only [Option.bind_eq_bind, Option.bind_eq_some_iff, Option.pure_def, Option.some.injEq] at h
    obtain ⟨y, h1, zs, h2, rfl⟩ := h
    cases i with
    | zero =>
      cases hi
      exact ⟨y, rfl, h1⟩
    | succ i =>
      rw [List.getElem?_cons_succ] at hi
      obtain ⟨z, h3, h4⟩ := mapM_at l zs h2 i a hi
      exact ⟨z, by rw [List.getElem?_cons_succ]; exact h3, h4⟩
theorem u8_of_trod {H : Type} {enc : TypeId × Value → H} {P : Program} {w : World} {base : Nat} {sp : Nat → Bool} {held : Bool} {fuel : Nat} {t : TypeId} {k : IntKind} {c : Value} {y : DataW H × List MemPlace}
    (ht : P.underlying t = some (.int k)) (h : DataW.trod enc P w base sp held fuel t [c] = some y) : ∃ n, c = .int k n ∧ y = (.lit (.int k n), []) := by
  cases fuel with
  | zero => simp [DataW.trod] at h
  | succ fuel =>
    cases c <;> simp [DataW.trod, ht] at h
    rename_i k' n
    obtain ⟨⟨rfl, _⟩, rfl⟩ := h
    exact ⟨n, rfl, rfl⟩
theorem gN : Tryd.prog.globalNamed "math/bits.deBruijn64tab" = some 0 := by kernel_rfl
theorem gT : (Tryd.prog.globals[0]?).map (·.type) = some 70 := by kernel_rfl
theorem c70 : Tryd.prog.cellsOf 70 = 64 := by kernel_rfl
theorem c5 : Tryd.prog.cellsOf 5 = 1 := by kernel_rfl
abbrev laidL : List (String × DataW Unit) := [("math/bits.deBruijn64tab", Rows.laid_math_bits_deBruijn64tab)]
theorem tabIs : (Rows.laid_math_bits_deBruijn64tab : DataW Unit) = .agg (Lib.deBruijn64tab.map (fun n : Nat => .lit (.int .u8 (n : Int)))) := by kernel_rfl
theorem tab_of_laid {W : World} (h : laidMetH Tryd.prog laidL W) : Tab W := by
  have h' : laidMet Tryd.prog laidL W := h
  obtain ⟨ps, ⟨g, t, cs, fuel, p, q, hg, ht, hvar, hd, _, _⟩, _⟩ := h'
  obtain rfl := Option.some.inj (gN.symm.trans hg)
  obtain rfl := Option.some.inj (gT.symm.trans ht)
  have hcell : ∀ j, j < 64 → cs[j]? = some (.int .u8 (Lib.deBruijn64tab.getD j 0)) := by
    obtain ⟨l⟩ := cs
    clear hvar
    cases fuel with
    | zero => simp [DataW.trod] at hd
    | succ fuel =>
      simp only [DataW.trod, Tryd.underlying70, c70, c5] at hd
      split at hd
      · rename_i hl
        rw [tabIs] at hd
        simp only [Option.map_eq_some_iff, Prod.mk.injEq, DataW.agg.injEq] at hd
        obtain ⟨xs, hx, he, _⟩ := hd
        intro j hj
        obtain ⟨y, h1, h2⟩ := mapM_at _ xs hx j j (List.getElem?_range hj)
        rw [Nat.mul_one] at h2
        have hlj : j < l.length := by omega
        have e1 : List.take 1 (List.drop j l) = [l[j]] := by rw [List.drop_eq_getElem_cons hlj]; rfl
        rw [e1] at h2
        obtain ⟨n, h3, rfl⟩ := u8_of_trod Tryd.underlying5 h2
        have h4 := congrArg (fun z => z[j]?) he
        simp only [List.getElem?_map, h1, Option.map_some] at h4
        have h5 : Lib.deBruijn64tab[j]? = some (Lib.deBruijn64tab.getD j 0) := by
          have hjt : j < Lib.deBruijn64tab.length := hj
          rw [List.getElem?_eq_getElem hjt, List.getD_eq_getElem?_getD, List.getElem?_eq_getElem hjt]; rfl
        rw [h5] at h4
        simp only [Option.map_some, Option.some.injEq, DataW.lit.injEq, Lit.int.injEq, true_and] at h4
        rw [List.getElem?_toArray, List.getElem?_eq_getElem hlj, h3, h4]
      · cases hd
  have hat : ∀ j, j < 64 → W.cell? ⟨0, j, none⟩ = some (.int .u8 (Lib.deBruijn64tab.getD j 0)) := fun j hj => by
    have := World.var?_cell gN hvar j
    rw [this]
    exact hcell j hj
  refine ⟨hat, ?_⟩
  have h0 := hat 0 (by decide)
  unfold World.cell? at h0
  cases ho : W.heap[0]? with
  | none => simp [ho] at h0
  | some x => exact (Array.getElem?_eq_some_iff.1 ho).1
theorem laidWorld_met (os : Os) (args : Array Value) : laidMetH Tryd.prog laidL ((World.laidAll Tryd.prog os laidL).forCall (fun _ _ => 0) ⟨#[], args, []⟩).memory :=
  laidMet_laidAll args (by kernel_rfl) (by kernel_rfl)
end Go.Proofs.YtomhpbhkckjmdaaDoorRR
