/- A world that has more blocks, told so that the walk sees the elder ones. -/
import Derived.Test.YtomhpbhkckjmdaaDoorRRSpine
namespace Go.Proofs.YtomhpbhkckjmdaaDoorRR
open Go.RowKit

/-- W, with more blocks behind its own, and another count of draws. -/
def more (W : World) (e : Array Obj) (d : Nat) : World := { W with heap := W.heap ++ e, drawn := d }

theorem more_of {W w : World} (h : Below W.heap.size W w) : ∃ e d, w = more W e d := by
  refine ⟨w.heap.extract W.heap.size w.heap.size, w.drawn, ?_⟩
  have hh : w.heap = W.heap ++ w.heap.extract W.heap.size w.heap.size := by
    apply Array.ext_getElem?
    intro i
    by_cases hi : i < W.heap.size
    · rw [Array.getElem?_append_left hi]; exact h.block i hi
    · rw [Array.getElem?_append_right (by omega), Array.getElem?_extract]
      have := h.size
      split
      · congr 1; omega
      · rw [Array.getElem?_eq_none (by omega)]
  have h1 := h.os
  have h2 := h.tape
  have h3 := h.output
  cases w
  simp only [more] at *
  subst h1; subst h2; subst h3
  rw [← hh]

@[go_sem] theorem more_size (W : World) (e : Array Obj) (d : Nat) : (more W e d).heap.size = W.heap.size + e.size := by simp [more]
theorem more_heap {W : World} {e : Array Obj} {d : Nat} {b : Nat} (h : b < W.heap.size) : (more W e d).heap[b]? = W.heap[b]? := by
  simp only [more]; rw [Array.getElem?_append_left h]
@[go_sem] theorem more_cell {W : World} {e : Array Obj} {d : Nat} {b o : Nat} {s : Option Nat} (h : b < W.heap.size) : (more W e d).cell? ⟨b, o, s⟩ = W.cell? ⟨b, o, s⟩ := World.cell?_of_block (w := W) (more_heap h)
@[go_sem] theorem more_frozen {W : World} {e : Array Obj} {d : Nat} {b o : Nat} {s : Option Nat} (h : b < W.heap.size) : (more W e d).frozen? ⟨b, o, s⟩ = W.frozen? ⟨b, o, s⟩ := World.frozen?_of_block (w := W) (more_heap h)
@[go_sem] theorem more_setCell {W : World} {e : Array Obj} {d : Nat} {b o : Nat} {s : Option Nat} {v : Value} (h : b < W.heap.size) : (more W e d).setCell ⟨b, o, s⟩ v = more (W.setCell ⟨b, o, s⟩ v) e d := by
  simp only [more, World.setCell]
  congr 1
  apply Array.ext_getElem?
  intro i
  by_cases hi : i < W.heap.size
  · rw [Array.getElem?_append_left (by simpa using hi), Array.getElem?_modify, Array.getElem?_modify, Array.getElem?_append_left hi]
  · rw [Array.getElem?_append_right (by simpa using hi), Array.getElem?_modify, if_neg (by omega), Array.getElem?_append_right (by omega), Array.size_modify]
@[go_sem] theorem lt_ks1 {d n k0 : Nat} (h : d < n) : (d < n + k0) = True := by simp only [eq_iff_iff, iff_true]; omega
@[go_sem] theorem ne_ks1 {d n k0 : Nat} (h : d < n) : (n + k0 = d) = False := by simp only [eq_iff_iff, iff_false]; omega
@[go_sem] theorem ne_kr1 {d n k0 : Nat} (h : d < n) : (d = n + k0) = False := by simp only [eq_iff_iff, iff_false]; omega
@[go_sem] theorem lt_ks2 {d n k0 k1 : Nat} (h : d < n) : (d < n + k0 + k1) = True := by simp only [eq_iff_iff, iff_true]; omega
@[go_sem] theorem ne_ks2 {d n k0 k1 : Nat} (h : d < n) : (n + k0 + k1 = d) = False := by simp only [eq_iff_iff, iff_false]; omega
@[go_sem] theorem ne_kr2 {d n k0 k1 : Nat} (h : d < n) : (d = n + k0 + k1) = False := by simp only [eq_iff_iff, iff_false]; omega
@[go_sem] theorem lt_ks3 {d n k0 k1 k2 : Nat} (h : d < n) : (d < n + k0 + k1 + k2) = True := by simp only [eq_iff_iff, iff_true]; omega
@[go_sem] theorem ne_ks3 {d n k0 k1 k2 : Nat} (h : d < n) : (n + k0 + k1 + k2 = d) = False := by simp only [eq_iff_iff, iff_false]; omega
@[go_sem] theorem ne_kr3 {d n k0 k1 k2 : Nat} (h : d < n) : (d = n + k0 + k1 + k2) = False := by simp only [eq_iff_iff, iff_false]; omega
@[go_sem] theorem lt_ks4 {d n k0 k1 k2 k3 : Nat} (h : d < n) : (d < n + k0 + k1 + k2 + k3) = True := by simp only [eq_iff_iff, iff_true]; omega
@[go_sem] theorem ne_ks4 {d n k0 k1 k2 k3 : Nat} (h : d < n) : (n + k0 + k1 + k2 + k3 = d) = False := by simp only [eq_iff_iff, iff_false]; omega
@[go_sem] theorem ne_kr4 {d n k0 k1 k2 k3 : Nat} (h : d < n) : (d = n + k0 + k1 + k2 + k3) = False := by simp only [eq_iff_iff, iff_false]; omega
@[go_sem] theorem lt_ks5 {d n k0 k1 k2 k3 k4 : Nat} (h : d < n) : (d < n + k0 + k1 + k2 + k3 + k4) = True := by simp only [eq_iff_iff, iff_true]; omega
@[go_sem] theorem ne_ks5 {d n k0 k1 k2 k3 k4 : Nat} (h : d < n) : (n + k0 + k1 + k2 + k3 + k4 = d) = False := by simp only [eq_iff_iff, iff_false]; omega
@[go_sem] theorem ne_kr5 {d n k0 k1 k2 k3 k4 : Nat} (h : d < n) : (d = n + k0 + k1 + k2 + k3 + k4) = False := by simp only [eq_iff_iff, iff_false]; omega
@[go_sem] theorem lt_ks6 {d n k0 k1 k2 k3 k4 k5 : Nat} (h : d < n) : (d < n + k0 + k1 + k2 + k3 + k4 + k5) = True := by simp only [eq_iff_iff, iff_true]; omega
@[go_sem] theorem ne_ks6 {d n k0 k1 k2 k3 k4 k5 : Nat} (h : d < n) : (n + k0 + k1 + k2 + k3 + k4 + k5 = d) = False := by simp only [eq_iff_iff, iff_false]; omega
@[go_sem] theorem ne_kr6 {d n k0 k1 k2 k3 k4 k5 : Nat} (h : d < n) : (d = n + k0 + k1 + k2 + k3 + k4 + k5) = False := by simp only [eq_iff_iff, iff_false]; omega
@[go_sem] theorem lt_ks7 {d n k0 k1 k2 k3 k4 k5 k6 : Nat} (h : d < n) : (d < n + k0 + k1 + k2 + k3 + k4 + k5 + k6) = True := by simp only [eq_iff_iff, iff_true]; omega
@[go_sem] theorem ne_ks7 {d n k0 k1 k2 k3 k4 k5 k6 : Nat} (h : d < n) : (n + k0 + k1 + k2 + k3 + k4 + k5 + k6 = d) = False := by simp only [eq_iff_iff, iff_false]; omega
@[go_sem] theorem ne_kr7 {d n k0 k1 k2 k3 k4 k5 k6 : Nat} (h : d < n) : (d = n + k0 + k1 + k2 + k3 + k4 + k5 + k6) = False := by simp only [eq_iff_iff, iff_false]; omega
@[go_sem] theorem lt_ks8 {d n k0 k1 k2 k3 k4 k5 k6 k7 : Nat} (h : d < n) : (d < n + k0 + k1 + k2 + k3 + k4 + k5 + k6 + k7) = True := by simp only [eq_iff_iff, iff_true]; omega
@[go_sem] theorem ne_ks8 {d n k0 k1 k2 k3 k4 k5 k6 k7 : Nat} (h : d < n) : (n + k0 + k1 + k2 + k3 + k4 + k5 + k6 + k7 = d) = False := by simp only [eq_iff_iff, iff_false]; omega
@[go_sem] theorem ne_kr8 {d n k0 k1 k2 k3 k4 k5 k6 k7 : Nat} (h : d < n) : (d = n + k0 + k1 + k2 + k3 + k4 + k5 + k6 + k7) = False := by simp only [eq_iff_iff, iff_false]; omega
@[go_sem] theorem lt_ks9 {d n k0 k1 k2 k3 k4 k5 k6 k7 k8 : Nat} (h : d < n) : (d < n + k0 + k1 + k2 + k3 + k4 + k5 + k6 + k7 + k8) = True := by simp only [eq_iff_iff, iff_true]; omega
@[go_sem] theorem ne_ks9 {d n k0 k1 k2 k3 k4 k5 k6 k7 k8 : Nat} (h : d < n) : (n + k0 + k1 + k2 + k3 + k4 + k5 + k6 + k7 + k8 = d) = False := by simp only [eq_iff_iff, iff_false]; omega
@[go_sem] theorem ne_kr9 {d n k0 k1 k2 k3 k4 k5 k6 k7 k8 : Nat} (h : d < n) : (d = n + k0 + k1 + k2 + k3 + k4 + k5 + k6 + k7 + k8) = False := by simp only [eq_iff_iff, iff_false]; omega
@[go_sem] theorem lt_ks10 {d n k0 k1 k2 k3 k4 k5 k6 k7 k8 k9 : Nat} (h : d < n) : (d < n + k0 + k1 + k2 + k3 + k4 + k5 + k6 + k7 + k8 + k9) = True := by simp only [eq_iff_iff, iff_true]; omega
@[go_sem] theorem ne_ks10 {d n k0 k1 k2 k3 k4 k5 k6 k7 k8 k9 : Nat} (h : d < n) : (n + k0 + k1 + k2 + k3 + k4 + k5 + k6 + k7 + k8 + k9 = d) = False := by simp only [eq_iff_iff, iff_false]; omega
@[go_sem] theorem ne_kr10 {d n k0 k1 k2 k3 k4 k5 k6 k7 k8 k9 : Nat} (h : d < n) : (d = n + k0 + k1 + k2 + k3 + k4 + k5 + k6 + k7 + k8 + k9) = False := by simp only [eq_iff_iff, iff_false]; omega
@[go_sem] theorem lt_ks11 {d n k0 k1 k2 k3 k4 k5 k6 k7 k8 k9 k10 : Nat} (h : d < n) : (d < n + k0 + k1 + k2 + k3 + k4 + k5 + k6 + k7 + k8 + k9 + k10) = True := by simp only [eq_iff_iff, iff_true]; omega
@[go_sem] theorem ne_ks11 {d n k0 k1 k2 k3 k4 k5 k6 k7 k8 k9 k10 : Nat} (h : d < n) : (n + k0 + k1 + k2 + k3 + k4 + k5 + k6 + k7 + k8 + k9 + k10 = d) = False := by simp only [eq_iff_iff, iff_false]; omega
@[go_sem] theorem ne_kr11 {d n k0 k1 k2 k3 k4 k5 k6 k7 k8 k9 k10 : Nat} (h : d < n) : (d = n + k0 + k1 + k2 + k3 + k4 + k5 + k6 + k7 + k8 + k9 + k10) = False := by simp only [eq_iff_iff, iff_false]; omega
@[go_sem] theorem lt_ks12 {d n k0 k1 k2 k3 k4 k5 k6 k7 k8 k9 k10 k11 : Nat} (h : d < n) : (d < n + k0 + k1 + k2 + k3 + k4 + k5 + k6 + k7 + k8 + k9 + k10 + k11) = True := by simp only [eq_iff_iff, iff_true]; omega
@[go_sem] theorem ne_ks12 {d n k0 k1 k2 k3 k4 k5 k6 k7 k8 k9 k10 k11 : Nat} (h : d < n) : (n + k0 + k1 + k2 + k3 + k4 + k5 + k6 + k7 + k8 + k9 + k10 + k11 = d) = False := by simp only [eq_iff_iff, iff_false]; omega
@[go_sem] theorem ne_kr12 {d n k0 k1 k2 k3 k4 k5 k6 k7 k8 k9 k10 k11 : Nat} (h : d < n) : (d = n + k0 + k1 + k2 + k3 + k4 + k5 + k6 + k7 + k8 + k9 + k10 + k11) = False := by simp only [eq_iff_iff, iff_false]; omega
@[go_sem] theorem lt_ks13 {d n k0 k1 k2 k3 k4 k5 k6 k7 k8 k9 k10 k11 k12 : Nat} (h : d < n) : (d < n + k0 + k1 + k2 + k3 + k4 + k5 + k6 + k7 + k8 + k9 + k10 + k11 + k12) = True := by simp only [eq_iff_iff, iff_true]; omega
@[go_sem] theorem ne_ks13 {d n k0 k1 k2 k3 k4 k5 k6 k7 k8 k9 k10 k11 k12 : Nat} (h : d < n) : (n + k0 + k1 + k2 + k3 + k4 + k5 + k6 + k7 + k8 + k9 + k10 + k11 + k12 = d) = False := by simp only [eq_iff_iff, iff_false]; omega
@[go_sem] theorem ne_kr13 {d n k0 k1 k2 k3 k4 k5 k6 k7 k8 k9 k10 k11 k12 : Nat} (h : d < n) : (d = n + k0 + k1 + k2 + k3 + k4 + k5 + k6 + k7 + k8 + k9 + k10 + k11 + k12) = False := by simp only [eq_iff_iff, iff_false]; omega
@[go_sem] theorem lt_ks14 {d n k0 k1 k2 k3 k4 k5 k6 k7 k8 k9 k10 k11 k12 k13 : Nat} (h : d < n) : (d < n + k0 + k1 + k2 + k3 + k4 + k5 + k6 + k7 + k8 + k9 + k10 + k11 + k12 + k13) = True := by simp only [eq_iff_iff, iff_true]; omega
@[go_sem] theorem ne_ks14 {d n k0 k1 k2 k3 k4 k5 k6 k7 k8 k9 k10 k11 k12 k13 : Nat} (h : d < n) : (n + k0 + k1 + k2 + k3 + k4 + k5 + k6 + k7 + k8 + k9 + k10 + k11 + k12 + k13 = d) = False := by simp only [eq_iff_iff, iff_false]; omega
@[go_sem] theorem ne_kr14 {d n k0 k1 k2 k3 k4 k5 k6 k7 k8 k9 k10 k11 k12 k13 : Nat} (h : d < n) : (d = n + k0 + k1 + k2 + k3 + k4 + k5 + k6 + k7 + k8 + k9 + k10 + k11 + k12 + k13) = False := by simp only [eq_iff_iff, iff_false]; omega
@[go_sem] theorem lt_ks15 {d n k0 k1 k2 k3 k4 k5 k6 k7 k8 k9 k10 k11 k12 k13 k14 : Nat} (h : d < n) : (d < n + k0 + k1 + k2 + k3 + k4 + k5 + k6 + k7 + k8 + k9 + k10 + k11 + k12 + k13 + k14) = True := by simp only [eq_iff_iff, iff_true]; omega
@[go_sem] theorem ne_ks15 {d n k0 k1 k2 k3 k4 k5 k6 k7 k8 k9 k10 k11 k12 k13 k14 : Nat} (h : d < n) : (n + k0 + k1 + k2 + k3 + k4 + k5 + k6 + k7 + k8 + k9 + k10 + k11 + k12 + k13 + k14 = d) = False := by simp only [eq_iff_iff, iff_false]; omega
@[go_sem] theorem ne_kr15 {d n k0 k1 k2 k3 k4 k5 k6 k7 k8 k9 k10 k11 k12 k13 k14 : Nat} (h : d < n) : (d = n + k0 + k1 + k2 + k3 + k4 + k5 + k6 + k7 + k8 + k9 + k10 + k11 + k12 + k13 + k14) = False := by simp only [eq_iff_iff, iff_false]; omega
@[go_sem] theorem n_lt0 {n : Nat} : (n < n + 1) = True := by simp only [eq_iff_iff, iff_true]; omega
@[go_sem] theorem n_ne0 {n : Nat} : (n = n + 1) = False := by simp only [eq_iff_iff, iff_false]; omega
@[go_sem] theorem n_nf0 {n : Nat} : (n + 1 = n) = False := by simp only [eq_iff_iff, iff_false]; omega
@[go_sem] theorem n_lt1 {n k0 : Nat} : (n < n + 1 + k0) = True := by simp only [eq_iff_iff, iff_true]; omega
@[go_sem] theorem n_ne1 {n k0 : Nat} : (n = n + 1 + k0) = False := by simp only [eq_iff_iff, iff_false]; omega
@[go_sem] theorem n_nf1 {n k0 : Nat} : (n + 1 + k0 = n) = False := by simp only [eq_iff_iff, iff_false]; omega
@[go_sem] theorem n_lt2 {n k0 k1 : Nat} : (n < n + 1 + k0 + k1) = True := by simp only [eq_iff_iff, iff_true]; omega
@[go_sem] theorem n_ne2 {n k0 k1 : Nat} : (n = n + 1 + k0 + k1) = False := by simp only [eq_iff_iff, iff_false]; omega
@[go_sem] theorem n_nf2 {n k0 k1 : Nat} : (n + 1 + k0 + k1 = n) = False := by simp only [eq_iff_iff, iff_false]; omega
@[go_sem] theorem n_lt3 {n k0 k1 k2 : Nat} : (n < n + 1 + k0 + k1 + k2) = True := by simp only [eq_iff_iff, iff_true]; omega
@[go_sem] theorem n_ne3 {n k0 k1 k2 : Nat} : (n = n + 1 + k0 + k1 + k2) = False := by simp only [eq_iff_iff, iff_false]; omega
@[go_sem] theorem n_nf3 {n k0 k1 k2 : Nat} : (n + 1 + k0 + k1 + k2 = n) = False := by simp only [eq_iff_iff, iff_false]; omega
@[go_sem] theorem n_lt4 {n k0 k1 k2 k3 : Nat} : (n < n + 1 + k0 + k1 + k2 + k3) = True := by simp only [eq_iff_iff, iff_true]; omega
@[go_sem] theorem n_ne4 {n k0 k1 k2 k3 : Nat} : (n = n + 1 + k0 + k1 + k2 + k3) = False := by simp only [eq_iff_iff, iff_false]; omega
@[go_sem] theorem n_nf4 {n k0 k1 k2 k3 : Nat} : (n + 1 + k0 + k1 + k2 + k3 = n) = False := by simp only [eq_iff_iff, iff_false]; omega
@[go_sem] theorem n_lt5 {n k0 k1 k2 k3 k4 : Nat} : (n < n + 1 + k0 + k1 + k2 + k3 + k4) = True := by simp only [eq_iff_iff, iff_true]; omega
@[go_sem] theorem n_ne5 {n k0 k1 k2 k3 k4 : Nat} : (n = n + 1 + k0 + k1 + k2 + k3 + k4) = False := by simp only [eq_iff_iff, iff_false]; omega
@[go_sem] theorem n_nf5 {n k0 k1 k2 k3 k4 : Nat} : (n + 1 + k0 + k1 + k2 + k3 + k4 = n) = False := by simp only [eq_iff_iff, iff_false]; omega
@[go_sem] theorem n_lt6 {n k0 k1 k2 k3 k4 k5 : Nat} : (n < n + 1 + k0 + k1 + k2 + k3 + k4 + k5) = True := by simp only [eq_iff_iff, iff_true]; omega
@[go_sem] theorem n_ne6 {n k0 k1 k2 k3 k4 k5 : Nat} : (n = n + 1 + k0 + k1 + k2 + k3 + k4 + k5) = False := by simp only [eq_iff_iff, iff_false]; omega
@[go_sem] theorem n_nf6 {n k0 k1 k2 k3 k4 k5 : Nat} : (n + 1 + k0 + k1 + k2 + k3 + k4 + k5 = n) = False := by simp only [eq_iff_iff, iff_false]; omega
@[go_sem] theorem n_lt7 {n k0 k1 k2 k3 k4 k5 k6 : Nat} : (n < n + 1 + k0 + k1 + k2 + k3 + k4 + k5 + k6) = True := by simp only [eq_iff_iff, iff_true]; omega
@[go_sem] theorem n_ne7 {n k0 k1 k2 k3 k4 k5 k6 : Nat} : (n = n + 1 + k0 + k1 + k2 + k3 + k4 + k5 + k6) = False := by simp only [eq_iff_iff, iff_false]; omega
@[go_sem] theorem n_nf7 {n k0 k1 k2 k3 k4 k5 k6 : Nat} : (n + 1 + k0 + k1 + k2 + k3 + k4 + k5 + k6 = n) = False := by simp only [eq_iff_iff, iff_false]; omega
@[go_sem] theorem n_lt8 {n k0 k1 k2 k3 k4 k5 k6 k7 : Nat} : (n < n + 1 + k0 + k1 + k2 + k3 + k4 + k5 + k6 + k7) = True := by simp only [eq_iff_iff, iff_true]; omega
@[go_sem] theorem n_ne8 {n k0 k1 k2 k3 k4 k5 k6 k7 : Nat} : (n = n + 1 + k0 + k1 + k2 + k3 + k4 + k5 + k6 + k7) = False := by simp only [eq_iff_iff, iff_false]; omega
@[go_sem] theorem n_nf8 {n k0 k1 k2 k3 k4 k5 k6 k7 : Nat} : (n + 1 + k0 + k1 + k2 + k3 + k4 + k5 + k6 + k7 = n) = False := by simp only [eq_iff_iff, iff_false]; omega
@[go_sem] theorem n_lt9 {n k0 k1 k2 k3 k4 k5 k6 k7 k8 : Nat} : (n < n + 1 + k0 + k1 + k2 + k3 + k4 + k5 + k6 + k7 + k8) = True := by simp only [eq_iff_iff, iff_true]; omega
@[go_sem] theorem n_ne9 {n k0 k1 k2 k3 k4 k5 k6 k7 k8 : Nat} : (n = n + 1 + k0 + k1 + k2 + k3 + k4 + k5 + k6 + k7 + k8) = False := by simp only [eq_iff_iff, iff_false]; omega
@[go_sem] theorem n_nf9 {n k0 k1 k2 k3 k4 k5 k6 k7 k8 : Nat} : (n + 1 + k0 + k1 + k2 + k3 + k4 + k5 + k6 + k7 + k8 = n) = False := by simp only [eq_iff_iff, iff_false]; omega
@[go_sem] theorem n_lt10 {n k0 k1 k2 k3 k4 k5 k6 k7 k8 k9 : Nat} : (n < n + 1 + k0 + k1 + k2 + k3 + k4 + k5 + k6 + k7 + k8 + k9) = True := by simp only [eq_iff_iff, iff_true]; omega
@[go_sem] theorem n_ne10 {n k0 k1 k2 k3 k4 k5 k6 k7 k8 k9 : Nat} : (n = n + 1 + k0 + k1 + k2 + k3 + k4 + k5 + k6 + k7 + k8 + k9) = False := by simp only [eq_iff_iff, iff_false]; omega
@[go_sem] theorem n_nf10 {n k0 k1 k2 k3 k4 k5 k6 k7 k8 k9 : Nat} : (n + 1 + k0 + k1 + k2 + k3 + k4 + k5 + k6 + k7 + k8 + k9 = n) = False := by simp only [eq_iff_iff, iff_false]; omega
@[go_sem] theorem n_lt11 {n k0 k1 k2 k3 k4 k5 k6 k7 k8 k9 k10 : Nat} : (n < n + 1 + k0 + k1 + k2 + k3 + k4 + k5 + k6 + k7 + k8 + k9 + k10) = True := by simp only [eq_iff_iff, iff_true]; omega
@[go_sem] theorem n_ne11 {n k0 k1 k2 k3 k4 k5 k6 k7 k8 k9 k10 : Nat} : (n = n + 1 + k0 + k1 + k2 + k3 + k4 + k5 + k6 + k7 + k8 + k9 + k10) = False := by simp only [eq_iff_iff, iff_false]; omega
@[go_sem] theorem n_nf11 {n k0 k1 k2 k3 k4 k5 k6 k7 k8 k9 k10 : Nat} : (n + 1 + k0 + k1 + k2 + k3 + k4 + k5 + k6 + k7 + k8 + k9 + k10 = n) = False := by simp only [eq_iff_iff, iff_false]; omega
@[go_sem] theorem n_lt12 {n k0 k1 k2 k3 k4 k5 k6 k7 k8 k9 k10 k11 : Nat} : (n < n + 1 + k0 + k1 + k2 + k3 + k4 + k5 + k6 + k7 + k8 + k9 + k10 + k11) = True := by simp only [eq_iff_iff, iff_true]; omega
@[go_sem] theorem n_ne12 {n k0 k1 k2 k3 k4 k5 k6 k7 k8 k9 k10 k11 : Nat} : (n = n + 1 + k0 + k1 + k2 + k3 + k4 + k5 + k6 + k7 + k8 + k9 + k10 + k11) = False := by simp only [eq_iff_iff, iff_false]; omega
@[go_sem] theorem n_nf12 {n k0 k1 k2 k3 k4 k5 k6 k7 k8 k9 k10 k11 : Nat} : (n + 1 + k0 + k1 + k2 + k3 + k4 + k5 + k6 + k7 + k8 + k9 + k10 + k11 = n) = False := by simp only [eq_iff_iff, iff_false]; omega
@[go_sem] theorem n_lt13 {n k0 k1 k2 k3 k4 k5 k6 k7 k8 k9 k10 k11 k12 : Nat} : (n < n + 1 + k0 + k1 + k2 + k3 + k4 + k5 + k6 + k7 + k8 + k9 + k10 + k11 + k12) = True := by simp only [eq_iff_iff, iff_true]; omega
@[go_sem] theorem n_ne13 {n k0 k1 k2 k3 k4 k5 k6 k7 k8 k9 k10 k11 k12 : Nat} : (n = n + 1 + k0 + k1 + k2 + k3 + k4 + k5 + k6 + k7 + k8 + k9 + k10 + k11 + k12) = False := by simp only [eq_iff_iff, iff_false]; omega
@[go_sem] theorem n_nf13 {n k0 k1 k2 k3 k4 k5 k6 k7 k8 k9 k10 k11 k12 : Nat} : (n + 1 + k0 + k1 + k2 + k3 + k4 + k5 + k6 + k7 + k8 + k9 + k10 + k11 + k12 = n) = False := by simp only [eq_iff_iff, iff_false]; omega
@[go_sem] theorem n_lt14 {n k0 k1 k2 k3 k4 k5 k6 k7 k8 k9 k10 k11 k12 k13 : Nat} : (n < n + 1 + k0 + k1 + k2 + k3 + k4 + k5 + k6 + k7 + k8 + k9 + k10 + k11 + k12 + k13) = True := by simp only [eq_iff_iff, iff_true]; omega
@[go_sem] theorem n_ne14 {n k0 k1 k2 k3 k4 k5 k6 k7 k8 k9 k10 k11 k12 k13 : Nat} : (n = n + 1 + k0 + k1 + k2 + k3 + k4 + k5 + k6 + k7 + k8 + k9 + k10 + k11 + k12 + k13) = False := by simp only [eq_iff_iff, iff_false]; omega
@[go_sem] theorem n_nf14 {n k0 k1 k2 k3 k4 k5 k6 k7 k8 k9 k10 k11 k12 k13 : Nat} : (n + 1 + k0 + k1 + k2 + k3 + k4 + k5 + k6 + k7 + k8 + k9 + k10 + k11 + k12 + k13 = n) = False := by simp only [eq_iff_iff, iff_false]; omega
@[go_sem] theorem ne_lt {d n : Nat} (h : d < n) : (n = d) = False := by simp only [eq_iff_iff, iff_false]; omega
@[go_sem] theorem ne_gt {d n : Nat} (h : d < n) : (d = n) = False := by simp only [eq_iff_iff, iff_false]; omega

/-- W, one block of which is another one. -/
def putB (W : World) (g : Nat) (o : Obj) : World := { W with heap := W.heap.setIfInBounds g o }
@[go_sem] theorem putB_size (W : World) (g : Nat) (o : Obj) : (putB W g o).heap.size = W.heap.size := by simp [putB]
theorem putB_heap {W : World} {g : Nat} {o : Obj} {b : Nat} (h : b ≠ g) : (putB W g o).heap[b]? = W.heap[b]? := by
  simp only [putB, Array.getElem?_setIfInBounds]; rw [if_neg (fun e => h e.symm)]
@[go_sem] theorem putB_cell {W : World} {g : Nat} {o : Obj} {b i : Nat} {s : Option Nat} (h : b ≠ g) : (putB W g o).cell? ⟨b, i, s⟩ = W.cell? ⟨b, i, s⟩ := World.cell?_of_block (w := W) (putB_heap h)
@[go_sem] theorem putB_frozen {W : World} {g : Nat} {o : Obj} {b i : Nat} {s : Option Nat} (h : b ≠ g) : (putB W g o).frozen? ⟨b, i, s⟩ = W.frozen? ⟨b, i, s⟩ := World.frozen?_of_block (w := W) (putB_heap h)
@[go_sem] theorem putB_setCell {W : World} {g : Nat} {o : Obj} {b i : Nat} {s : Option Nat} {v : Value} (h : b ≠ g) : (putB W g o).setCell ⟨b, i, s⟩ v = putB (W.setCell ⟨b, i, s⟩ v) g o := by
  simp only [putB, World.setCell]
  congr 1
  apply Array.ext_getElem?
  intro k
  simp only [Array.getElem?_modify, Array.getElem?_setIfInBounds, Array.size_modify]
  by_cases h1 : b = k
  · subst h1; rw [if_pos rfl, if_neg (fun e => h e.symm), if_pos rfl, if_neg (fun e => h e.symm)]
  · rw [if_neg h1]; by_cases h2 : g = k
    · simp [h2]
    · rw [if_neg h2, if_neg h2, if_neg h1]
@[go_sem] theorem putB_drew (W : World) (g : Nat) (o : Obj) : (putB W g o).drew = putB W.drew g o := rfl

theorem form_of {P : Prop} {g : Nat} {W w : World} (h : Ext (fun b => b = g ∧ P) W w) (hg : g < W.heap.size) : ∃ o e d, w = more (putB W g o) e d := by
  have hw : g < w.heap.size := Nat.lt_of_lt_of_le hg h.size
  obtain ⟨o, ho⟩ : ∃ o, w.heap[g]? = some o := ⟨_, Array.getElem?_eq_getElem hw⟩
  have hb : Below (putB W g o).heap.size (putB W g o) w := by
    refine ⟨h.os, h.tape, h.output, by rw [putB_size]; exact h.size, fun k hk => ?_⟩
    rw [putB_size] at hk
    by_cases hkg : k = g
    · subst hkg; rw [ho]; simp [putB, hg]
    · rw [h.block k hk (fun hs => hkg hs.1), putB_heap hkg]
  obtain ⟨e, d, hw⟩ := more_of hb
  exact ⟨o, e, d, hw⟩
theorem below_of_ext {P : Prop} {g : Nat} {W w : World} (h : Ext (fun b => b = g ∧ P) W w) (hn : ¬ P) : Below W.heap.size W w := h.below (fun _ _ hs => hn hs.2)
@[go_sem] theorem more_drew (W : World) (e : Array Obj) (d : Nat) : (more W e d).drew = more W e (d + 1) := rfl
@[go_sem] theorem more_drew_in (W : World) (e : Array Obj) (d : Nat) : more W.drew e d = more W e d := rfl
@[go_sem] theorem more_drewN_in (W : World) (n : Nat) (e : Array Obj) (d : Nat) : more (W.drewN n) e d = more W e d := rfl
theorem more_below (W : World) (e : Array Obj) (d : Nat) : Below W.heap.size W (more W e d) := ⟨rfl, rfl, rfl, by simp [more], fun _ h => more_heap h⟩
theorem below_more {B : Nat} {a W : World} (h : Below B a W) (hB : B ≤ W.heap.size) (e : Array Obj) (d : Nat) : Below B a (more W e d) := h.trans ((more_below W e d).mono hB)
theorem bl_mm {W : World} {e : Array Obj} {n m : Nat} : Below (more W e n).heap.size (more W e n) (more W e m) := ⟨rfl, rfl, rfl, Nat.le_refl _, fun _ _ => rfl⟩
theorem bl_al {a W : World} (h : Below a.heap.size a W) (o : Obj) : Below a.heap.size a (W.alloc o) := h.alloc h.size o
theorem bl_more {a W : World} (h : Below a.heap.size a W) (e : Array Obj) (d : Nat) : Below a.heap.size a (more W e d) := h.trans ((more_below W e d).mono h.size)
theorem bl_dr {a W : World} (h : Below a.heap.size a W) : Below a.heap.size a W.drew := h.drew
theorem bl_drN {a W : World} (h : Below a.heap.size a W) (n : Nat) : Below a.heap.size a (W.drewN n) := h.trans ⟨rfl, rfl, rfl, Nat.le_refl _, fun _ _ => rfl⟩
theorem below_dr {B : Nat} {a W : World} (h : Below B a W) : Below B a W.drew := h.drew
theorem below_al {B : Nat} {a W : World} (h : Below B a W) (o : Obj) (hB : B ≤ W.heap.size) : Below B a (W.alloc o) := h.alloc hB o
theorem more_swap {W W' : World} {e : Array Obj} {d d' b : Nat} (hs : W'.heap.size = W.heap.size) (hb : W.heap.size ≤ b) : (more W' e d').heap[b]? = (more W e d).heap[b]? := by
  simp only [more]; rw [Array.getElem?_append_right (by omega), Array.getElem?_append_right hb, hs]
theorem bl_then {a W w1 : World} (h : Below a.heap.size a W) (k : Below W.heap.size W w1) : Below a.heap.size a w1 := h.trans (k.mono h.size)
theorem cell_kept {w W : World} (h : Below w.heap.size w W) {a : Addr} {v : Value} (hc : w.cell? a = some v) : W.cell? a = some v := (h.cell (World.block_lt_of_cell? w a hc)).trans hc
theorem frz_kept {w W : World} (h : Below w.heap.size w W) {a : Addr} (hl : a.block < w.heap.size) (hc : w.frozen? a = false) : W.frozen? a = false := (h.frozen hl).trans hc
theorem ext_cell {S : Nat → Prop} {w W : World} (h : Ext S w W) {a : Addr} {v : Value} (hc : w.cell? a = some v) (hs : ¬ S a.block) : W.cell? a = some v := (World.cell?_of_block (w := w) (h.block _ (World.block_lt_of_cell? w a hc) hs)).trans hc
theorem ext_frz {S : Nat → Prop} {w W : World} (h : Ext S w W) {a : Addr} (hl : a.block < w.heap.size) (hc : w.frozen? a = false) (hs : ¬ S a.block) : W.frozen? a = false := (World.frozen?_of_block (w := w) (h.block _ hl hs)).trans hc
namespace Enc
theorem Row.one_blk {α : Type} {d : Enc α} {K : Nat → Prop} {w : World} {b : Nat} {cs : List Value} {t : TypeId} {fr : Nat × Nat} {x : α} (hb : w.heap[b]? = some (.cells cs.toArray t fr)) (hx : d.rd K w x cs) (hk : K b) : d.Row K w (.slice (some ⟨b, 0, none⟩) 1 1) [x] := by
  refine ⟨_, 1, rfl, Nat.le_refl _, by unfold maxLen; omega, fun _ => ⟨b, 0, rfl, hk, (Array.getElem?_eq_some_iff.1 hb).1, fun i hi => ?_⟩⟩
  obtain rfl : i = 0 := by simpa using hi
  refine ⟨cs, hx, fun j u hj => ?_⟩
  simp only [World.cell?, hb]
  simpa using hj
theorem At.below {α : Type} {d : Enc α} {K : Nat → Prop} {w W : World} {b off : Nat} {xs : List α} (h : d.At K w b off xs) (hb : Below w.heap.size w W) : d.At K W b off xs := by
  intro i hi
  obtain ⟨cs, h1, h2⟩ := h i hi
  exact ⟨cs, d.step (fun b _ hl => hb.block b hl) h1, fun j u hj => cell_kept hb (h2 j u hj)⟩
theorem Src.below {α : Type} {d : Enc α} {K : Nat → Prop} {w W : World} {v : Value} {xs : List α} (h : d.Src K w v xs) (hb : Below w.heap.size w W) : d.Src K W v xs := by
  obtain ⟨A, c, rfl, h1, h2, h3⟩ := h
  exact ⟨A, c, rfl, h1, h2, fun hx => by obtain ⟨b, off, e, ha⟩ := h3 hx; exact ⟨b, off, e, ha.below hb⟩⟩
theorem Row.swap {α : Type} {d : Enc α} {K : Nat → Prop} {W W' : World} {e : Array Obj} {n n' : Nat} {v : Value} {xs : List α} (h : d.Row K (more W e n) v xs) (hs : W'.heap.size = W.heap.size) (hk : ∀ b, K b → W.heap.size ≤ b) : d.Row K (more W' e n') v xs :=
  h.step (fun b hb _ => more_swap hs (hk b hb))
theorem Row.le {α : Type} {d : Enc α} {n m : Nat} {w : World} {v : Value} {xs : List α} (h : d.Row (fun b => n ≤ b) w v xs) (hm : m ≤ n) : d.Row (fun b => m ≤ b) w v xs := h.mono (fun _ hb _ => Nat.le_trans hm hb)
end Enc
end Go.Proofs.YtomhpbhkckjmdaaDoorRR
