/- A disk's data. -/
import Derived.Test.YtnobbehoojgfcaaPut
import Derived.Test.YtnobbehoojgfcaaDraw
namespace Go.Proofs.Ytnobbehoojgfcaa
open Go.RowKit

abbrev intE : Enc Int := Enc.int .i64
def u8E : Enc UInt8 := Enc.scalar (fun b => .int .u8 (b.toNat : Int)) (fun _ => rfl)
theorem u8E_sz : u8E.sz = 1 := rfl
/-- A file: its bytes, and how many of them last. -/
structure DF where
  b : List UInt8
  synced : Nat
/-- A disk. -/
structure DS where
  fs : List DF
  room : Int
  fuse : Int
  down : Bool
def bytes (l : List DF) : Nat := (l.map (fun f => f.b.length)).sum
def DS.tot (s : DS) : Int := s.room + bytes s.fs
structure DS.Ok (s : DS) (C : Int) : Prop where
  room : 0 ≤ s.room
  tot : s.tot ≤ C
  n1 : 1 ≤ s.fs.length
  n2 : s.fs.length ≤ 65
  sync : ∀ f ∈ s.fs, f.synced ≤ f.b.length
  fuse1 : -1 ≤ s.fuse
  fuse2 : s.fuse ≤ 9223372036854775807
theorem le_bytes {l : List DF} {f : DF} (h : f ∈ l) : f.b.length ≤ bytes l := by
  induction l with
  | nil => cases h
  | cons x l ih =>
    have e : bytes (x :: l) = x.b.length + bytes l := by simp [bytes]
    rcases List.mem_cons.1 h with rfl | h
    · omega
    · have := ih h; omega
theorem DS.Ok.len {s : DS} {C : Int} (h : s.Ok C) {f : DF} (hf : f ∈ s.fs) : (f.b.length : Int) ≤ C := by
  have h1 := le_bytes hf
  have h2 := h.tot
  have h3 := h.room
  unfold DS.tot at h2
  omega
theorem DS.Ok.roomC {s : DS} {C : Int} (h : s.Ok C) : s.room ≤ C := by
  have h2 := h.tot
  unfold DS.tot at h2
  omega

/-- The file i of the disk at d tells f; its row lies in block g. -/
def FileAt (w : World) (d : Nat) (G : Nat → Prop) (g i : Nat) (f : DF) : Prop :=
  ∃ v, w.cell? ⟨d, i * 2, none⟩ = some v ∧ w.cell? ⟨d, i * 2 + 1, none⟩ = some (.int .i64 f.synced) ∧ u8E.Spine 5 (fun _ => False) g w v f.b ∧ (g = d ∨ (G g ∧ g < w.heap.size))
def Blk (w : World) (d : Nat) : Prop := ∃ cur, w.heap[d]? = some (.cells cur 55 (0, 0)) ∧ cur.size = 134 ∧ ∀ u ∈ cur.toList, u.oneCell' = true
structure Dk (w : World) (d : Nat) (G : Nat → Prop) (s : DS) : Prop where
  blk : Blk w d
  n : w.cell? ⟨d, 130, none⟩ = some (.int .i64 s.fs.length)
  room : w.cell? ⟨d, 131, none⟩ = some (.int .i64 s.room)
  fuse : w.cell? ⟨d, 132, none⟩ = some (.int .i64 s.fuse)
  down : w.cell? ⟨d, 133, none⟩ = some (.bool s.down)
  rows : ∃ gs : Nat → Nat, (∀ i (h : i < s.fs.length), FileAt w d G (gs i) i s.fs[i]) ∧ ∀ i j, i < s.fs.length → j < s.fs.length → i ≠ j → gs i = gs j → gs i = d
theorem Dk.lt {w : World} {d : Nat} {G : Nat → Prop} {s : DS} (h : Dk w d G s) : d < w.heap.size := by
  obtain ⟨cur, h1, _⟩ := h.blk
  exact (Array.getElem?_eq_some_iff.1 h1).1
theorem FileAt.ext {w w' : World} {d : Nat} {G S : Nat → Prop} {g i : Nat} {f : DF} (h : FileAt w d G g i f) (he : Ext S w w') (hd : ¬ S d) (hG : ∀ b, G b → ¬ S b) : FileAt w' d G g i f := by
  obtain ⟨v, h1, h2, h3, h4⟩ := h
  have hs := he.size
  refine ⟨v, ext_cell he h1 hd, ext_cell he h2 hd, ?_, h4.imp id (fun h => ⟨h.1, by omega⟩)⟩
  by_cases hc : capOf v = 0
  · exact h3.empty hc
  · obtain ⟨cur, hcur⟩ := h3.type hc
    refine h3.step (fun cur' hc' => (he.block g (Array.getElem?_eq_some_iff.1 hc').1 ?_).trans hc') (fun b hb _ => hb.elim)
    rcases h4 with rfl | h4
    · exact hd
    · exact hG g h4.1
theorem Dk.ext {w w' : World} {d : Nat} {G S : Nat → Prop} {s : DS} (h : Dk w d G s) (he : Ext S w w') (hd : ¬ S d) (hG : ∀ b, G b → ¬ S b) : Dk w' d G s := by
  obtain ⟨cur, h1, h2⟩ := h.blk
  obtain ⟨gs, h3, h4⟩ := h.rows
  exact ⟨⟨cur, (he.block d h.lt hd).trans h1, h2⟩, ext_cell he h.n hd, ext_cell he h.room hd, ext_cell he h.fuse hd, ext_cell he h.down hd, gs, fun i hi => (h3 i hi).ext he hd hG, h4⟩
theorem Dk.below {w w' : World} {d : Nat} {G : Nat → Prop} {s : DS} (h : Dk w d G s) (hb : Below w.heap.size w w') : Dk w' d G s := by
  obtain ⟨cur, h1, h2⟩ := h.blk
  obtain ⟨gs, h3, h4⟩ := h.rows
  refine ⟨⟨cur, (hb.block d h.lt).trans h1, h2⟩, cell_kept hb h.n, cell_kept hb h.room, cell_kept hb h.fuse, cell_kept hb h.down, gs, fun i hi => ?_, h4⟩
  obtain ⟨v, k1, k2, k3, k4⟩ := h3 i hi
  have hs := hb.size
  exact ⟨v, cell_kept hb k1, cell_kept hb k2, k3.below hb, k4.imp id (fun h => ⟨h.1, by omega⟩)⟩
theorem Dk.mono {w : World} {d : Nat} {G G' : Nat → Prop} {s : DS} (h : Dk w d G s) (hG : ∀ b, G b → b < w.heap.size → G' b) : Dk w d G' s := by
  obtain ⟨gs, h3, h4⟩ := h.rows
  refine ⟨h.blk, h.n, h.room, h.fuse, h.down, gs, fun i hi => ?_, h4⟩
  obtain ⟨v, k1, k2, k3, k4⟩ := h3 i hi
  exact ⟨v, k1, k2, k3, k4.imp id (fun h => ⟨hG _ h.1 h.2, h.2⟩)⟩
theorem cell_blk {w : World} {b : Nat} {cs : Array Value} {t : TypeId} {fr : Nat × Nat} (h : w.heap[b]? = some (.cells cs t fr)) (i : Nat) : w.cell? ⟨b, i, none⟩ = cs[i]? := by simp [World.cell?, h]
theorem frz_blk {w : World} {b : Nat} {cs : Array Value} {t : TypeId} (h : w.heap[b]? = some (.cells cs t (0, 0))) (i : Nat) : w.frozen? ⟨b, i, none⟩ = false := by simp [World.frozen?, h]
theorem alloc_blk {X : World} {o : Obj} {b : Nat} (h : b = X.heap.size) : (X.alloc o).heap[b]? = some o := by subst h; exact heap_alloc_new X o
theorem Dk.frz {w : World} {d : Nat} {G : Nat → Prop} {s : DS} (h : Dk w d G s) (i : Nat) : w.frozen? ⟨d, i, none⟩ = false := by
  obtain ⟨cur, h1, h2⟩ := h.blk
  exact frz_blk h1 i

/-- A store into the disk's own cells. -/
theorem mem_set {cs : Array Value} {i : Nat} {v : Value} (h : ∀ u ∈ cs.toList, u.oneCell' = true) (hv : v.oneCell' = true) : ∀ u ∈ (cs.setIfInBounds i v).toList, u.oneCell' = true := by
  intro u hu
  rw [Array.toList_setIfInBounds] at hu
  rcases List.mem_or_eq_of_mem_set hu with h1 | rfl
  · exact h u h1
  · exact hv
theorem blk_set {w : World} {d o : Nat} {v : Value} (h : Blk w d) (hv : v.oneCell' = true := by rfl) : Blk (w.setCell ⟨d, o, none⟩ v) d := by
  obtain ⟨cur, h1, h2, h3⟩ := h
  exact ⟨cur.setIfInBounds o v, by simp [World.setCell, Array.getElem?_modify, h1], by simpa using h2, mem_set h3 hv⟩

set_option maxHeartbeats 1000000 in
theorem made_any {w : World} {d : Nat} {G : Nat → Prop} {s : DS} (h : Dk w d G s) (hn : 1 ≤ s.fs.length) : Calls Try.prog 35 #[.pointer (some ⟨d, 0, none⟩)] w fun e w' => e = .returned (.bool true) ∧ Below w.heap.size w w' := by
  have h1 := h.n
  have hd := h.lt
  have i1 : 0 < s.fs.length := by omega
  clear hn h
  go_enter Try.func35, Try.ntmps35
  go_wp2
  go_ret
  exact ⟨rfl, (by repeat (first | (with_reducible exact Below.refl _ _) | (with_reducible exact bl_mm) | (with_reducible refine bl_dr ?_) | (with_reducible refine bl_drN ?_ _) | (with_reducible refine bl_al ?_ _) | (with_reducible refine bl_more ?_ _ _)))⟩
set_option maxHeartbeats 1000000 in
theorem has_yes {w : World} {d : Nat} {G : Nat → Prop} {s : DS} (h : Dk w d G s) (i : Nat) (hi : i < s.fs.length) : Calls Try.prog 33 #[.pointer (some ⟨d, 0, none⟩), .int .i64 i] w fun e w' => e = .returned (.bool true) ∧ Below w.heap.size w w' := by
  have h1 := h.n
  have hd := h.lt
  have HD := hid h
  have i1 : (i : Int) < (s.fs.length : Int) := by omega
  have i2 : (0 : Int) ≤ (i : Int) := by omega
  have hn : 1 ≤ s.fs.length := by omega
  have HN := hid hn
  clear h hi hn
  go_enter Try.func33, Try.ntmps33
  go_wp2_with (go_at_call 35; refine (made_any HD.out HN.out).mono ?_; rintro e w1 ⟨rfl, hb1⟩; obtain ⟨ex, dx, rfl⟩ := more_of hb1; clear hb1)
  go_ret
  exact ⟨rfl, (by repeat (first | (with_reducible exact Below.refl _ _) | (with_reducible exact bl_mm) | (with_reducible refine bl_dr ?_) | (with_reducible refine bl_drN ?_ _) | (with_reducible refine bl_al ?_ _) | (with_reducible refine bl_more ?_ _ _)))⟩
set_option maxHeartbeats 1000000 in
theorem has_no {w : World} {d : Nat} {G : Nat → Prop} {s : DS} (h : Dk w d G s) (i : Int) (hn : 1 ≤ s.fs.length) (hi : i < 0 ∨ s.fs.length ≤ i) : Calls Try.prog 33 #[.pointer (some ⟨d, 0, none⟩), .int .i64 i] w fun e w' => e = .returned (.bool false) ∧ Below w.heap.size w w' := by
  have h1 := h.n
  have hd := h.lt
  have HD := hid h
  have HN := hid hn
  clear h hn
  rcases hi with hi | hi
  · have i2 : ¬ (0 : Int) ≤ i := by omega
    go_enter Try.func33, Try.ntmps33
    go_wp2_with (go_at_call 35; refine (made_any HD.out HN.out).mono ?_; rintro e w1 ⟨rfl, hb1⟩; obtain ⟨ex, dx, rfl⟩ := more_of hb1; clear hb1)
    go_ret
    exact ⟨rfl, (by repeat (first | (with_reducible exact Below.refl _ _) | (with_reducible exact bl_mm) | (with_reducible refine bl_dr ?_) | (with_reducible refine bl_drN ?_ _) | (with_reducible refine bl_al ?_ _) | (with_reducible refine bl_more ?_ _ _)))⟩
  · have i2 : (0 : Int) ≤ i := by omega
    have i1 : decide (i < (s.fs.length : Int)) = false := by simp; omega
    clear hi
    go_enter Try.func33, Try.ntmps33
    go_wp2_with (go_at_call 35; refine (made_any HD.out HN.out).mono ?_; rintro e w1 ⟨rfl, hb1⟩; obtain ⟨ex, dx, rfl⟩ := more_of hb1; clear hb1)
    go_ret
    exact ⟨rfl, (by repeat (first | (with_reducible exact Below.refl _ _) | (with_reducible exact bl_mm) | (with_reducible refine bl_dr ?_) | (with_reducible refine bl_drN ?_ _) | (with_reducible refine bl_al ?_ _) | (with_reducible refine bl_more ?_ _ _)))⟩
set_option maxHeartbeats 1000000 in
theorem files_any {w : World} {d : Nat} {G : Nat → Prop} {s : DS} (h : Dk w d G s) (hn : 1 ≤ s.fs.length) : Calls Try.prog 25 #[.pointer (some ⟨d, 0, none⟩)] w fun e w' => e = .returned (.int .i64 s.fs.length) ∧ Below w.heap.size w w' := by
  have h0 := h.n
  have h1 := h.n
  have hd := h.lt
  have HD := hid h
  have HN := hid hn
  clear h hn
  go_enter Try.func25, Try.ntmps25
  go_wp2_with (go_at_call 35; refine (made_any HD.out HN.out).mono ?_; rintro e w1 ⟨rfl, hb1⟩; obtain ⟨ex, dx, rfl⟩ := more_of hb1; clear hb1)
  go_ret
  exact ⟨rfl, (by repeat (first | (with_reducible exact Below.refl _ _) | (with_reducible exact bl_mm) | (with_reducible refine bl_dr ?_) | (with_reducible refine bl_drN ?_ _) | (with_reducible refine bl_al ?_ _) | (with_reducible refine bl_more ?_ _ _)))⟩
set_option maxHeartbeats 1000000 in
theorem room_any {w : World} {d : Nat} {G : Nat → Prop} {s : DS} (h : Dk w d G s) (hn : 1 ≤ s.fs.length) : Calls Try.prog 19 #[.pointer (some ⟨d, 0, none⟩)] w fun e w' => e = .returned (.int .i64 s.room) ∧ Below w.heap.size w w' := by
  have h0 := h.n
  have h1 := h.room
  have hd := h.lt
  have HD := hid h
  have HN := hid hn
  clear h hn
  go_enter Try.func19, Try.ntmps19
  go_wp2_with (go_at_call 35; refine (made_any HD.out HN.out).mono ?_; rintro e w1 ⟨rfl, hb1⟩; obtain ⟨ex, dx, rfl⟩ := more_of hb1; clear hb1)
  go_ret
  exact ⟨rfl, (by repeat (first | (with_reducible exact Below.refl _ _) | (with_reducible exact bl_mm) | (with_reducible refine bl_dr ?_) | (with_reducible refine bl_drN ?_ _) | (with_reducible refine bl_al ?_ _) | (with_reducible refine bl_more ?_ _ _)))⟩
set_option maxHeartbeats 1000000 in
theorem down_any {w : World} {d : Nat} {G : Nat → Prop} {s : DS} (h : Dk w d G s) (hn : 1 ≤ s.fs.length) : Calls Try.prog 18 #[.pointer (some ⟨d, 0, none⟩)] w fun e w' => e = .returned (.bool s.down) ∧ Below w.heap.size w w' := by
  have h0 := h.n
  have h1 := h.down
  have hd := h.lt
  have HD := hid h
  have HN := hid hn
  clear h hn
  go_enter Try.func18, Try.ntmps18
  go_wp2_with (first | (go_at_call 35; refine (made_any HD.out HN.out).mono ?_; rintro e w1 ⟨rfl, hb1⟩; obtain ⟨ex, dx, rfl⟩ := more_of hb1; clear hb1))
  go_ret
  exact ⟨rfl, (by repeat (first | (with_reducible exact Below.refl _ _) | (with_reducible exact bl_mm) | (with_reducible refine bl_dr ?_) | (with_reducible refine bl_drN ?_ _) | (with_reducible refine bl_al ?_ _) | (with_reducible refine bl_more ?_ _ _)))⟩
end Go.Proofs.Ytnobbehoojgfcaa
