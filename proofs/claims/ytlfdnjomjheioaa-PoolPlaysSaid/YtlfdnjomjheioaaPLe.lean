/- Calls: are they few? -/
import Derived.Test.YtlfdnjomjheioaaPLd
namespace Go.Proofs.Ytlfdnjomjheioaa
open Go.RowKit

def fewB (l : List PAct) : Bool := decide (l.length ≤ 300) && l.all (fun a => decide (a.j.stamp.length ≤ 100))
theorem Row_act {K : Nat → Prop} {w : World} {A : Option Addr} {n c : Nat} {xs : List PAct} (h : pactE.Row K w (.slice A n c) xs) (i : Nat) (hi : i < xs.length) :
    ∃ b off B cb, A = some ⟨b, off, none⟩ ∧ b < w.heap.size ∧ K b ∧ intE.Row K w (.slice B xs[i].j.stamp.length cb) xs[i].j.stamp ∧ (w.cell? ⟨b, off + i * 9, none⟩ = some (.int .i64 xs[i].kind) ∧ w.cell? ⟨b, off + i * 9 + 1, none⟩ = some (.int .i64 xs[i].w) ∧ w.cell? ⟨b, off + i * 9 + 2, none⟩ = some (.int .i64 xs[i].n)) ∧
      ∀ j u, (jobCells xs[i].j (.slice B xs[i].j.stamp.length cb))[j]? = some u → w.cell? ⟨b, off + i * 9 + 3 + j, none⟩ = some u := by
  obtain ⟨b, off, cs, rfl, hb, hl, ⟨c1, _, rfl, rfl, ⟨c2, _, rfl, rfl, ⟨c3, c4, rfl, rfl, hrd⟩⟩⟩, hc⟩ := h.get i hi
  obtain ⟨v, rfl, hv⟩ := jobE_open hrd
  obtain ⟨B, cb, rfl, _⟩ := hv.form
  refine ⟨b, off, B, cb, rfl, hl, hb, hv, ⟨hc 0 _ rfl, hc 1 _ rfl, hc 2 _ rfl⟩, fun j u hj => ?_⟩
  have := hc (3 + j) u (by
    rw [← hj]
    simp only [List.cons_append, List.nil_append]
    rw [show 3 + j = j + 1 + 1 + 1 from by omega]
    simp only [List.getElem?_cons_succ])
  rwa [← Nat.add_assoc] at this

set_option maxHeartbeats 1000000 in
theorem few_any {K : Nat → Prop} {w : World} {v : Value} {xs : List PAct} (h : pactE.Row K w v xs) :
    Calls Try.prog 7 #[v] w fun e w' => e = .returned (.bool (fewB xs)) ∧ Below w.heap.size w w' := by
  obtain ⟨A, c, rfl, h1, h2⟩ := h.form
  have HR := hid h
  clear h h1 h2
  by_cases hl : 300 < xs.length
  · have i0 : (300 : Int) < (xs.length : Int) := by omega
    go_enter Try.func7, Try.ntmps7
    go_wp2
    go_ret
    refine ⟨?_, (by repeat (first | (with_reducible exact Below.refl _ _) | (with_reducible exact bl_mm) | (with_reducible refine bl_dr ?_) | (with_reducible refine bl_drN ?_ _) | (with_reducible refine bl_al ?_ _) | (with_reducible refine bl_more ?_ _ _)))⟩
    have : fewB xs = false := by
      simp only [fewB, Bool.and_eq_false_iff]
      left
      simp; omega
    rw [this]; rfl
  · have i0 : ¬ (300 : Int) < (xs.length : Int) := by omega
    have HL := hid hl
    go_enter Try.func7, Try.ntmps7
    go_wp2
    go_loopg [3] xs.length (fun k i wr => ∃ j : Nat, j + k = xs.length ∧ i = .int .i64 j ∧ (∀ x ∈ xs.take j, x.j.stamp.length ≤ 100) ∧ wr = w)
    case atStart => exact ⟨0, by omega, rfl, by simp, rfl⟩
    case round =>
      obtain ⟨j, hj, rfl, hno, rfl⟩ := hrel
      have HN := hid hno
      have HJ := hid hj
      clear hno
      by_cases hlt : j < xs.length
      · obtain ⟨bb, off, B, cb, rfl, hbl, _, hv, _, hc⟩ := Row_act HR.out j hlt
        have e5 : wr.cell? ⟨bb, off + j * 9 + 3 + 5, none⟩ = some (.slice B xs[j].j.stamp.length cb) := hc 5 _ rfl
        clear hc hv hj
        have i1 : (j : Int) < (xs.length : Int) := by omega
        have i3 : (0 : Int) ≤ (j : Int) := by omega
        have w1' : IntKind.i64.wrap ((j : Int) + 1) = ((j + 1 : Nat) : Int) := by rw [IntWalk.i64_in _ (by omega)]; rfl
        by_cases hs : 100 < xs[j].j.stamp.length
        · have i4 : (100 : Int) < (xs[j].j.stamp.length : Int) := by omega
          go_wp2
          go_ret
          refine ⟨?_, (by repeat (first | (with_reducible exact Below.refl _ _) | (with_reducible exact bl_mm) | (with_reducible refine bl_dr ?_) | (with_reducible refine bl_drN ?_ _) | (with_reducible refine bl_al ?_ _) | (with_reducible refine bl_more ?_ _ _)))⟩
          have : fewB xs = false := by
            simp only [fewB, Bool.and_eq_false_iff]
            right
            rw [List.all_eq_false]
            exact ⟨xs[j], List.getElem_mem hlt, by simp; omega⟩
          rw [this]; rfl
        · have i4 : ¬ (100 : Int) < (xs[j].j.stamp.length : Int) := by omega
          go_wp2
          go_roundg (xs.length - (j + 1))
          case measure => have := HJ.out; omega
          case rel =>
            refine ⟨j + 1, by have := HJ.out; omega, rfl, fun x hx => ?_, rfl⟩
            rw [List.take_succ_eq_append_getElem hlt] at hx
            rcases List.mem_append.1 hx with h | h
            · exact HN.out x h
            · rw [List.mem_singleton.1 h]; omega
      · obtain rfl : j = xs.length := by omega
        have i1 : ¬ (xs.length : Int) < xs.length := by omega
        clear hj
        go_wp2
        go_ret
        refine ⟨?_, (by repeat (first | (with_reducible exact Below.refl _ _) | (with_reducible exact bl_mm) | (with_reducible refine bl_dr ?_) | (with_reducible refine bl_drN ?_ _) | (with_reducible refine bl_al ?_ _) | (with_reducible refine bl_more ?_ _ _)))⟩
        have : fewB xs = true := by
          simp only [fewB, Bool.and_eq_true, decide_eq_true_eq, List.all_eq_true]
          exact ⟨by have := HL.out; omega, fun x hx => HN.out x (by rw [List.take_length]; exact hx)⟩
        rw [this]; rfl
end Go.Proofs.Ytlfdnjomjheioaa
