/- A pool's data, and its small calls. -/
import Derived.Test.YtlfdnjomjheioaaDqS
import Derived.Test.YtlfdnjomjheioaaDqL
namespace Go.Proofs.Ytlfdnjomjheioaa
open Go.RowKit

/-- A worker: its jobs, and what it holds. -/
structure Wk where
  l : List Job
  h : Option Job
/-- Where a worker lies: its deque, the deque's row, what it holds. -/
structure Ad where
  d : Nat
  g : Nat
  h : Nat
def Ad.has (a : Ad) (b : Nat) : Prop := b = a.d ∨ b = a.g ∨ b = a.h
def JobAt (w : World) (F : Nat → Prop) (h : Nat) (j : Job) : Prop := h < w.heap.size ∧ ∃ v, w.heap[h]? = some (.cells (jobCells j v).toArray 33 (0, 0)) ∧ intE.Row F w v j.stamp
theorem Ext.cell_eq {w w' : World} {S : Nat → Prop} {b : Nat} (he : Ext S w w') (hl : b < w.heap.size) (hb : ¬ S b) (o : Nat) : w'.cell? ⟨b, o, none⟩ = w.cell? ⟨b, o, none⟩ := by simp only [World.cell?, he.block b hl hb]
theorem JobAt.ext {w w' : World} {F S : Nat → Prop} {h : Nat} {j : Job} (hj : JobAt w F h j) (he : Ext S w w') (hh : ¬ S h) (hF : ∀ b, F b → ¬ S b) : JobAt w' F h j := by
  obtain ⟨h0, v, h1, h2⟩ := hj
  have := he.size
  exact ⟨by omega, v, (he.block h h0 hh).trans h1, h2.ext he (fun b hb _ => hF b hb)⟩
structure Wat (w : World) (F : Nat → Prop) (p i : Nat) (a : Ad) (k : Wk) : Prop where
  dq : Dq w F a.d a.g k.l
  dp : w.cell? ⟨p, 1 + i * 2, none⟩ = some (.pointer (some ⟨a.d, 0, none⟩))
  hp : w.cell? ⟨p, 1 + i * 2 + 1, none⟩ = some (.pointer (k.h.map (fun _ => ⟨a.h, 0, none⟩)))
  hj : ∀ j, k.h = some j → JobAt w F a.h j
  hl : a.h < w.heap.size
  hs : ∀ j, k.h = some j → a.h ≠ a.d ∧ a.h ≠ a.g ∧ okJob j
theorem Wat.ext {w w' : World} {F S : Nat → Prop} {p i : Nat} {a : Ad} {k : Wk} (h : Wat w F p i a k) (he : Ext S w w') (hl : p < w.heap.size) (hp : ¬ S p) (ha : ∀ b, a.has b → ¬ S b) (hF : ∀ b, F b → ¬ S b) : Wat w' F p i a k :=
  ⟨h.dq.apart (he.mono (fun b _ hs => ⟨fun hf => hF b hf hs, fun e => ha b (.inl e) hs, fun e => ha b (.inr (.inl e)) hs⟩)),
    (he.cell_eq hl hp _).trans h.dp, (he.cell_eq hl hp _).trans h.hp, fun j hj => (h.hj j hj).ext he (ha _ (.inr (.inr rfl))) hF, Nat.lt_of_lt_of_le h.hl he.size, h.hs⟩
structure Pl (N : Nat) (w : World) (F : Nat → Prop) (p : Nat) (s : List Wk) (ad : Nat → Ad) : Prop where
  blk : ∃ cur : Array Value, w.heap[p]? = some (.cells cur 59 (0, 0)) ∧ cur.size = 129 ∧ ∀ u ∈ cur.toList, u.oneCell' = true
  n : w.cell? ⟨p, 0, none⟩ = some (.int .i64 s.length)
  n1 : 1 ≤ s.length
  n2 : s.length ≤ 64
  at_ : ∀ i (h : i < s.length), Wat w F p i (ad i) s[i]
  sep : ∀ i j b, i < s.length → j < s.length → i ≠ j → (ad i).has b → ¬ (ad j).has b
  np : ∀ i, i < s.length → ¬ (ad i).has p
  nF : ∀ i b, i < s.length → (ad i).has b → ¬ F b
  pF : ¬ F p
  ge : ∀ i b, i < s.length → (ad i).has b → N ≤ b
  pN : N ≤ p
  bN : N ≤ w.heap.size
theorem Pl.lt {N : Nat} {w : World} {F : Nat → Prop} {p : Nat} {s : List Wk} {ad : Nat → Ad} (h : Pl N w F p s ad) : p < w.heap.size := by
  obtain ⟨cur, h1, _⟩ := h.blk
  exact (Array.getElem?_eq_some_iff.1 h1).1
theorem Pl.below {N : Nat} {w w' : World} {F : Nat → Prop} {p : Nat} {s : List Wk} {ad : Nat → Ad} (h : Pl N w F p s ad) (hb : Below w.heap.size w w') : Pl N w' F p s ad := by
  have he : Ext (fun _ => False) w w' := Ext.of_below hb
  have hl := h.lt
  obtain ⟨cur, h1, h2⟩ := h.blk
  exact ⟨⟨cur, (hb.block p hl).trans h1, h2⟩, (he.cell_eq hl (fun h => h) _).trans h.n, h.n1, h.n2, fun i hi => (h.at_ i hi).ext he hl (fun h => h) (fun _ _ h => h) (fun _ _ h => h), h.sep, h.np, h.nF, h.pF, h.ge, h.pN, Nat.le_trans h.bN hb.size⟩

set_option maxHeartbeats 1000000 in
theorem size_any {N : Nat} {w : World} {F : Nat → Prop} {p : Nat} {s : List Wk} {ad : Nat → Ad} (h : Pl N w F p s ad) :
    Calls Try.prog 24 #[.pointer (some ⟨p, 0, none⟩)] w fun e w' => e = .returned (.int .i64 s.length) ∧ Below w.heap.size w w' := by
  have h1 := h.n
  have h2 := h.lt
  clear h
  go_enter Try.func24, Try.ntmps24
  go_wp2
  go_ret
  exact ⟨rfl, (by repeat (first | (with_reducible exact Below.refl _ _) | (with_reducible exact bl_mm) | (with_reducible refine bl_dr ?_) | (with_reducible refine bl_drN ?_ _) | (with_reducible refine bl_al ?_ _) | (with_reducible refine bl_more ?_ _ _)))⟩
set_option maxHeartbeats 1000000 in
theorem worker_any {N : Nat} {w : World} {F : Nat → Prop} {p : Nat} {s : List Wk} {ad : Nat → Ad} (h : Pl N w F p s ad) (i : Nat) (hi : i < s.length) :
    Calls Try.prog 26 #[.pointer (some ⟨p, 0, none⟩), .int .i64 i] w fun e w' => e = .returned (.tuple #[.pointer (some ⟨p, 1 + i * 2, none⟩), .int .i64 0]) ∧ Below w.heap.size w w' := by
  have h1 := h.n
  have h2 := h.lt
  have n1 := h.n1
  have n2 := h.n2
  have i1 : ((s.length : Int) == 0) = false := by simp only [beq_eq_false_iff_ne, ne_eq]; omega
  have i2 : decide ((i : Int) < 0) = false := by simp
  have i3 : ¬ s.length ≤ i := by omega
  have i4 : (i : Int) < 64 := by omega
  have i5 : (0 : Int) ≤ (i : Int) := by omega
  clear h n1 n2 hi
  go_enter Try.func26, Try.ntmps26
  go_wp2
  go_ret2
  exact ⟨rfl, (by repeat (first | (with_reducible exact Below.refl _ _) | (with_reducible exact bl_mm) | (with_reducible refine bl_dr ?_) | (with_reducible refine bl_drN ?_ _) | (with_reducible refine bl_al ?_ _) | (with_reducible refine bl_more ?_ _ _)))⟩
set_option maxHeartbeats 1000000 in
theorem worker_none {N : Nat} {w : World} {F : Nat → Prop} {p : Nat} {s : List Wk} {ad : Nat → Ad} (h : Pl N w F p s ad) (i : Int) (hi : i < 0 ∨ (s.length : Int) ≤ i) :
    Calls Try.prog 26 #[.pointer (some ⟨p, 0, none⟩), .int .i64 i] w fun e w' => e = .returned (.tuple #[.pointer none, .int .i64 2]) ∧ Below w.heap.size w w' := by
  have h1 := h.n
  have h2 := h.lt
  have n1 := h.n1
  have n2 := h.n2
  have i1 : ((s.length : Int) == 0) = false := by simp only [beq_eq_false_iff_ne, ne_eq]; omega
  by_cases h0 : i < 0
  · have i2 : decide (i < 0) = true := by simpa using h0
    clear h n1 n2 hi h0
    go_enter Try.func26, Try.ntmps26
    go_wp2
    go_ret2
    exact ⟨rfl, (by repeat (first | (with_reducible exact Below.refl _ _) | (with_reducible exact bl_mm) | (with_reducible refine bl_dr ?_) | (with_reducible refine bl_drN ?_ _) | (with_reducible refine bl_al ?_ _) | (with_reducible refine bl_more ?_ _ _)))⟩
  · have i2 : decide (i < 0) = false := by simpa using h0
    have i3 : decide ((s.length : Int) ≤ i) = true := by simp; omega
    clear h n1 n2 hi h0
    go_enter Try.func26, Try.ntmps26
    go_wp2
    go_ret2
    exact ⟨rfl, (by repeat (first | (with_reducible exact Below.refl _ _) | (with_reducible exact bl_mm) | (with_reducible refine bl_dr ?_) | (with_reducible refine bl_drN ?_ _) | (with_reducible refine bl_al ?_ _) | (with_reducible refine bl_more ?_ _ _)))⟩
set_option maxHeartbeats 1000000 in
theorem holding_yes {N : Nat} {w : World} {F : Nat → Prop} {p : Nat} {s : List Wk} {ad : Nat → Ad} (h : Pl N w F p s ad) (i : Nat) (hi : i < s.length) (j : Job) (hj : s[i].h = some j) :
    Calls Try.prog 29 #[.pointer (some ⟨p, 0, none⟩), .int .i64 i] w fun e w' => e = .returned (.tuple #[.pointer (some ⟨p, 1 + i * 2, none⟩), .int .i64 0]) ∧ Below w.heap.size w w' := by
  have h1 := (h.at_ i hi).hp
  rw [hj] at h1
  simp only [Option.map_some] at h1
  have h2 := h.lt
  have HP := hid h
  have HI := hid (And.intro hi trivial)
  clear h hi hj
  go_enter Try.func29, Try.ntmps29
  go_wp2_with (first | (go_at_call 26; refine (worker_any (HP.out.below (by repeat (first | (with_reducible exact Below.refl _ _) | (with_reducible exact bl_mm) | (with_reducible refine bl_dr ?_) | (with_reducible refine bl_drN ?_ _) | (with_reducible refine bl_al ?_ _) | (with_reducible refine bl_more ?_ _ _)))) i HI.out.1).mono ?_; rintro e w1 ⟨rfl, hb1⟩; obtain ⟨ex, dx, rfl⟩ := more_of hb1; clear hb1))
  go_ret2
  exact ⟨rfl, (by repeat (first | (with_reducible exact Below.refl _ _) | (with_reducible exact bl_mm) | (with_reducible refine bl_dr ?_) | (with_reducible refine bl_drN ?_ _) | (with_reducible refine bl_al ?_ _) | (with_reducible refine bl_more ?_ _ _)))⟩
set_option maxHeartbeats 1000000 in
theorem holding_no {N : Nat} {w : World} {F : Nat → Prop} {p : Nat} {s : List Wk} {ad : Nat → Ad} (h : Pl N w F p s ad) (i : Nat) (hi : i < s.length) (hj : s[i].h = none) :
    Calls Try.prog 29 #[.pointer (some ⟨p, 0, none⟩), .int .i64 i] w fun e w' => e = .returned (.tuple #[.pointer (some ⟨p, 1 + i * 2, none⟩), .int .i64 6]) ∧ Below w.heap.size w w' := by
  have h1 := (h.at_ i hi).hp
  rw [hj] at h1
  simp only [Option.map_none] at h1
  have h2 := h.lt
  have HP := hid h
  have HI := hid (And.intro hi trivial)
  clear h hi hj
  go_enter Try.func29, Try.ntmps29
  go_wp2_with (first | (go_at_call 26; refine (worker_any (HP.out.below (by repeat (first | (with_reducible exact Below.refl _ _) | (with_reducible exact bl_mm) | (with_reducible refine bl_dr ?_) | (with_reducible refine bl_drN ?_ _) | (with_reducible refine bl_al ?_ _) | (with_reducible refine bl_more ?_ _ _)))) i HI.out.1).mono ?_; rintro e w1 ⟨rfl, hb1⟩; obtain ⟨ex, dx, rfl⟩ := more_of hb1; clear hb1))
  go_ret2
  exact ⟨rfl, (by repeat (first | (with_reducible exact Below.refl _ _) | (with_reducible exact bl_mm) | (with_reducible refine bl_dr ?_) | (with_reducible refine bl_drN ?_ _) | (with_reducible refine bl_al ?_ _) | (with_reducible refine bl_more ?_ _ _)))⟩
set_option maxHeartbeats 1000000 in
theorem holding_none {N : Nat} {w : World} {F : Nat → Prop} {p : Nat} {s : List Wk} {ad : Nat → Ad} (h : Pl N w F p s ad) (i : Int) (hi : i < 0 ∨ (s.length : Int) ≤ i) :
    Calls Try.prog 29 #[.pointer (some ⟨p, 0, none⟩), .int .i64 i] w fun e w' => e = .returned (.tuple #[.pointer none, .int .i64 2]) ∧ Below w.heap.size w w' := by
  have HP := hid h
  have HI := hid hi
  clear h hi
  go_enter Try.func29, Try.ntmps29
  go_wp2_with (first | (go_at_call 26; refine (worker_none (HP.out.below (by repeat (first | (with_reducible exact Below.refl _ _) | (with_reducible exact bl_mm) | (with_reducible refine bl_dr ?_) | (with_reducible refine bl_drN ?_ _) | (with_reducible refine bl_al ?_ _) | (with_reducible refine bl_more ?_ _ _)))) i HI.out).mono ?_; rintro e w1 ⟨rfl, hb1⟩; obtain ⟨ex, dx, rfl⟩ := more_of hb1; clear hb1))
  go_ret2
  exact ⟨rfl, (by repeat (first | (with_reducible exact Below.refl _ _) | (with_reducible exact bl_mm) | (with_reducible refine bl_dr ?_) | (with_reducible refine bl_drN ?_ _) | (with_reducible refine bl_al ?_ _) | (with_reducible refine bl_more ?_ _ _)))⟩
end Go.Proofs.Ytlfdnjomjheioaa
