/- A disk's data. -/
import Derived.Test.YtgpcgndmdkgbdaaGb
import Derived.Test.YtgpcgndmdkgbdaaGa
/- A disk's data. -/
namespace Go.Proofs.Ytgpcgndmdkgbdaa
open Go.RowKit

def u8E : Enc UInt8 := Enc.scalar (fun b => .int .u8 (b.toNat : Int)) (fun _ => rfl)
theorem u8E_sz : u8E.sz = 1 := rfl
/-- A file: its bytes, and how many of them last. -/
structure DF where
  b : List UInt8
  synced : Nat
/-- A disk. -/
structure DS where
  fs : List DF
  room : Int
  fuse : Int
  down : Bool
def bytes (l : List DF) : Nat := (l.map (fun f => f.b.length)).sum
def DS.tot (s : DS) : Int := s.room + bytes s.fs
structure DS.Ok (s : DS) (C : Int) : Prop where
  room : 0 ≤ s.room
  tot : s.tot ≤ C
  n1 : 1 ≤ s.fs.length
  n2 : s.fs.length ≤ 65
  sync : ∀ f ∈ s.fs, f.synced ≤ f.b.length
  fuse1 : -1 ≤ s.fuse
  fuse2 : s.fuse ≤ 9223372036854775807
theorem le_bytes {l : List DF} {f : DF} (h : f ∈ l) : f.b.length ≤ bytes l := by
  induction l with
  | nil => cases h
  | cons x l ih =>
    have e : bytes (x :: l) = x.b.length + bytes l := by simp [bytes]
    rcases List.mem_cons.1 h with rfl | h
    · omega
    · have := ih h; omega
theorem DS.Ok.len {s : DS} {C : Int} (h : s.Ok C) {f : DF} (hf : f ∈ s.fs) : (f.b.length : Int) ≤ C := by
  have h1 := le_bytes hf
  have h2 := h.tot
  have h3 := h.room
  unfold DS.tot at h2
  omega
theorem DS.Ok.roomC {s : DS} {C : Int} (h : s.Ok C) : s.room ≤ C := by
  have h2 := h.tot
  unfold DS.tot at h2
  omega

/-- The file i of the disk at d tells f; its row lies in block g. -/
def FileAt (w : World) (d : Nat) (G : Nat → Prop) (g i : Nat) (f : DF) : Prop :=
  ∃ v, w.cell? ⟨d, i * 2, none⟩ = some v ∧ w.cell? ⟨d, i * 2 + 1, none⟩ = some (.int .i64 f.synced) ∧ u8E.Spine 5 (fun _ => False) g w v f.b ∧ (g = d ∨ (G g ∧ g < w.heap.size))
def Blk (w : World) (d : Nat) : Prop := ∃ cur, w.heap[d]? = some (.cells cur 78 (0, 0)) ∧ cur.size = 134 ∧ ∀ u ∈ cur.toList, u.oneCell' = true
structure Dk (w : World) (d : Nat) (G : Nat → Prop) (s : DS) : Prop where
  blk : Blk w d
  n : w.cell? ⟨d, 130, none⟩ = some (.int .i64 s.fs.length)
  room : w.cell? ⟨d, 131, none⟩ = some (.int .i64 s.room)
  fuse : w.cell? ⟨d, 132, none⟩ = some (.int .i64 s.fuse)
  down : w.cell? ⟨d, 133, none⟩ = some (.bool s.down)
  rows : ∃ gs : Nat → Nat, (∀ i (h : i < s.fs.length), FileAt w d G (gs i) i s.fs[i]) ∧ ∀ i j, i < s.fs.length → j < s.fs.length → i ≠ j → gs i = gs j → gs i = d
theorem Dk.lt {w : World} {d : Nat} {G : Nat → Prop} {s : DS} (h : Dk w d G s) : d < w.heap.size := by
  obtain ⟨cur, h1, _⟩ := h.blk
  exact (Array.getElem?_eq_some_iff.1 h1).1
theorem FileAt.ext {w w' : World} {d : Nat} {G S : Nat → Prop} {g i : Nat} {f : DF} (h : FileAt w d G g i f) (he : Ext S w w') (hd : ¬ S d) (hG : ∀ b, G b → ¬ S b) : FileAt w' d G g i f := by
  obtain ⟨v, h1, h2, h3, h4⟩ := h
  have hs := he.size
  refine ⟨v, ext_cell he h1 hd, ext_cell he h2 hd, ?_, h4.imp id (fun h => ⟨h.1, by omega⟩)⟩
  by_cases hc : capOf v = 0
  · exact h3.empty hc
  · obtain ⟨cur, hcur⟩ := h3.type hc
    refine h3.step (fun cur' hc' => (he.block g (Array.getElem?_eq_some_iff.1 hc').1 ?_).trans hc') (fun b hb _ => hb.elim)
    rcases h4 with rfl | h4
    · exact hd
    · exact hG g h4.1
theorem Dk.ext {w w' : World} {d : Nat} {G S : Nat → Prop} {s : DS} (h : Dk w d G s) (he : Ext S w w') (hd : ¬ S d) (hG : ∀ b, G b → ¬ S b) : Dk w' d G s := by
  obtain ⟨cur, h1, h2⟩ := h.blk
  obtain ⟨gs, h3, h4⟩ := h.rows
  exact ⟨⟨cur, (he.block d h.lt hd).trans h1, h2⟩, ext_cell he h.n hd, ext_cell he h.room hd, ext_cell he h.fuse hd, ext_cell he h.down hd, gs, fun i hi => (h3 i hi).ext he hd hG, h4⟩
theorem Dk.below {w w' : World} {d : Nat} {G : Nat → Prop} {s : DS} (h : Dk w d G s) (hb : Below w.heap.size w w') : Dk w' d G s := by
  obtain ⟨cur, h1, h2⟩ := h.blk
  obtain ⟨gs, h3, h4⟩ := h.rows
  refine ⟨⟨cur, (hb.block d h.lt).trans h1, h2⟩, cell_kept hb h.n, cell_kept hb h.room, cell_kept hb h.fuse, cell_kept hb h.down, gs, fun i hi => ?_, h4⟩
  obtain ⟨v, k1, k2, k3, k4⟩ := h3 i hi
  have hs := hb.size
  exact ⟨v, cell_kept hb k1, cell_kept hb k2, k3.below hb, k4.imp id (fun h => ⟨h.1, by omega⟩)⟩
theorem Dk.mono {w : World} {d : Nat} {G G' : Nat → Prop} {s : DS} (h : Dk w d G s) (hG : ∀ b, G b → b < w.heap.size → G' b) : Dk w d G' s := by
  obtain ⟨gs, h3, h4⟩ := h.rows
  refine ⟨h.blk, h.n, h.room, h.fuse, h.down, gs, fun i hi => ?_, h4⟩
  obtain ⟨v, k1, k2, k3, k4⟩ := h3 i hi
  exact ⟨v, k1, k2, k3, k4.imp id (fun h => ⟨hG _ h.1 h.2, h.2⟩)⟩
theorem cell_blk {w : World} {b : Nat} {cs : Array Value} {t : TypeId} {fr : Nat × Nat} (h : w.heap[b]? = some (.cells cs t fr)) (i : Nat) : w.cell? ⟨b, i, none⟩ = cs[i]? := by simp [World.cell?, h]
theorem frz_blk {w : World} {b : Nat} {cs : Array Value} {t : TypeId} (h : w.heap[b]? = some (.cells cs t (0, 0))) (i : Nat) : w.frozen? ⟨b, i, none⟩ = false := by simp [World.frozen?, h]
theorem Dk.frz {w : World} {d : Nat} {G : Nat → Prop} {s : DS} (h : Dk w d G s) (i : Nat) : w.frozen? ⟨d, i, none⟩ = false := by
  obtain ⟨cur, h1, h2⟩ := h.blk
  exact frz_blk h1 i

/-- A store into the disk's own cells. -/
theorem mem_set {cs : Array Value} {i : Nat} {v : Value} (h : ∀ u ∈ cs.toList, u.oneCell' = true) (hv : v.oneCell' = true) : ∀ u ∈ (cs.setIfInBounds i v).toList, u.oneCell' = true := by
  intro u hu
  rw [Array.toList_setIfInBounds] at hu
  rcases List.mem_or_eq_of_mem_set hu with h1 | rfl
  · exact h u h1
  · exact hv
theorem blk_set {w : World} {d o : Nat} {v : Value} (h : Blk w d) (hv : v.oneCell' = true := by rfl) : Blk (w.setCell ⟨d, o, none⟩ v) d := by
  obtain ⟨cur, h1, h2, h3⟩ := h
  exact ⟨cur.setIfInBounds o v, by simp [World.setCell, Array.getElem?_modify, h1], by simpa using h2, mem_set h3 hv⟩

set_option maxHeartbeats 1000000 in
theorem made_any {w : World} {d : Nat} {G : Nat → Prop} {s : DS} (h : Dk w d G s) (hn : 1 ≤ s.fs.length) : Calls Try.prog 35 #[.pointer (some ⟨d, 0, none⟩)] w fun e w' => e = .returned (.bool true) ∧ Below w.heap.size w w' := by
  have h1 := h.n
  have hd := h.lt
  have i1 : 0 < s.fs.length := by omega
  clear hn h
  go_enter Try.func35, Try.ntmps35
  go_wp2
  go_ret
  exact ⟨rfl, (by repeat (first | (with_reducible exact Below.refl _ _) | (with_reducible exact bl_mm) | (with_reducible refine bl_dr ?_) | (with_reducible refine bl_drN ?_ _) | (with_reducible refine bl_al ?_ _) | (with_reducible refine bl_more ?_ _ _)))⟩
set_option maxHeartbeats 1000000 in
theorem has_yes {w : World} {d : Nat} {G : Nat → Prop} {s : DS} (h : Dk w d G s) (i : Nat) (hi : i < s.fs.length) : Calls Try.prog 32 #[.pointer (some ⟨d, 0, none⟩), .int .i64 i] w fun e w' => e = .returned (.bool true) ∧ Below w.heap.size w w' := by
  have h1 := h.n
  have hd := h.lt
  have HD := hid h
  have i1 : (i : Int) < (s.fs.length : Int) := by omega
  have i2 : (0 : Int) ≤ (i : Int) := by omega
  have hn : 1 ≤ s.fs.length := by omega
  have HN := hid hn
  clear h hi hn
  go_enter Try.func32, Try.ntmps32
  go_wp2_with (go_at_call 35; refine (made_any HD.out HN.out).mono ?_; rintro e w1 ⟨rfl, hb1⟩; obtain ⟨ex, dx, rfl⟩ := more_of hb1; clear hb1)
  go_ret
  exact ⟨rfl, (by repeat (first | (with_reducible exact Below.refl _ _) | (with_reducible exact bl_mm) | (with_reducible refine bl_dr ?_) | (with_reducible refine bl_drN ?_ _) | (with_reducible refine bl_al ?_ _) | (with_reducible refine bl_more ?_ _ _)))⟩
set_option maxHeartbeats 1000000 in
theorem has_no {w : World} {d : Nat} {G : Nat → Prop} {s : DS} (h : Dk w d G s) (i : Int) (hn : 1 ≤ s.fs.length) (hi : i < 0 ∨ s.fs.length ≤ i) : Calls Try.prog 32 #[.pointer (some ⟨d, 0, none⟩), .int .i64 i] w fun e w' => e = .returned (.bool false) ∧ Below w.heap.size w w' := by
  have h1 := h.n
  have hd := h.lt
  have HD := hid h
  have HN := hid hn
  clear h hn
  rcases hi with hi | hi
  · have i2 : ¬ (0 : Int) ≤ i := by omega
    go_enter Try.func32, Try.ntmps32
    go_wp2_with (go_at_call 35; refine (made_any HD.out HN.out).mono ?_; rintro e w1 ⟨rfl, hb1⟩; obtain ⟨ex, dx, rfl⟩ := more_of hb1; clear hb1)
    go_ret
    exact ⟨rfl, (by repeat (first | (with_reducible exact Below.refl _ _) | (with_reducible exact bl_mm) | (with_reducible refine bl_dr ?_) | (with_reducible refine bl_drN ?_ _) | (with_reducible refine bl_al ?_ _) | (with_reducible refine bl_more ?_ _ _)))⟩
  · have i2 : (0 : Int) ≤ i := by omega
    have i1 : decide (i < (s.fs.length : Int)) = false := by simp; omega
    clear hi
    go_enter Try.func32, Try.ntmps32
    go_wp2_with (go_at_call 35; refine (made_any HD.out HN.out).mono ?_; rintro e w1 ⟨rfl, hb1⟩; obtain ⟨ex, dx, rfl⟩ := more_of hb1; clear hb1)
    go_ret
    exact ⟨rfl, (by repeat (first | (with_reducible exact Below.refl _ _) | (with_reducible exact bl_mm) | (with_reducible refine bl_dr ?_) | (with_reducible refine bl_drN ?_ _) | (with_reducible refine bl_al ?_ _) | (with_reducible refine bl_more ?_ _ _)))⟩
set_option maxHeartbeats 1000000 in
theorem files_any {w : World} {d : Nat} {G : Nat → Prop} {s : DS} (h : Dk w d G s) (hn : 1 ≤ s.fs.length) : Calls Try.prog 59 #[.pointer (some ⟨d, 0, none⟩)] w fun e w' => e = .returned (.int .i64 s.fs.length) ∧ Below w.heap.size w w' := by
  have h0 := h.n
  have h1 := h.n
  have hd := h.lt
  have HD := hid h
  have HN := hid hn
  clear h hn
  go_enter Try.func59, Try.ntmps59
  go_wp2_with (go_at_call 35; refine (made_any HD.out HN.out).mono ?_; rintro e w1 ⟨rfl, hb1⟩; obtain ⟨ex, dx, rfl⟩ := more_of hb1; clear hb1)
  go_ret
  exact ⟨rfl, (by repeat (first | (with_reducible exact Below.refl _ _) | (with_reducible exact bl_mm) | (with_reducible refine bl_dr ?_) | (with_reducible refine bl_drN ?_ _) | (with_reducible refine bl_al ?_ _) | (with_reducible refine bl_more ?_ _ _)))⟩
set_option maxHeartbeats 1000000 in
theorem room_any {w : World} {d : Nat} {G : Nat → Prop} {s : DS} (h : Dk w d G s) (hn : 1 ≤ s.fs.length) : Calls Try.prog 53 #[.pointer (some ⟨d, 0, none⟩)] w fun e w' => e = .returned (.int .i64 s.room) ∧ Below w.heap.size w w' := by
  have h0 := h.n
  have h1 := h.room
  have hd := h.lt
  have HD := hid h
  have HN := hid hn
  clear h hn
  go_enter Try.func53, Try.ntmps53
  go_wp2_with (go_at_call 35; refine (made_any HD.out HN.out).mono ?_; rintro e w1 ⟨rfl, hb1⟩; obtain ⟨ex, dx, rfl⟩ := more_of hb1; clear hb1)
  go_ret
  exact ⟨rfl, (by repeat (first | (with_reducible exact Below.refl _ _) | (with_reducible exact bl_mm) | (with_reducible refine bl_dr ?_) | (with_reducible refine bl_drN ?_ _) | (with_reducible refine bl_al ?_ _) | (with_reducible refine bl_more ?_ _ _)))⟩
set_option maxHeartbeats 1000000 in
theorem down_any {w : World} {d : Nat} {G : Nat → Prop} {s : DS} (h : Dk w d G s) (hn : 1 ≤ s.fs.length) : Calls Try.prog 54 #[.pointer (some ⟨d, 0, none⟩)] w fun e w' => e = .returned (.bool s.down) ∧ Below w.heap.size w w' := by
  have h0 := h.n
  have h1 := h.down
  have hd := h.lt
  have HD := hid h
  have HN := hid hn
  clear h hn
  go_enter Try.func54, Try.ntmps54
  go_wp2_with (first | (go_at_call 35; refine (made_any HD.out HN.out).mono ?_; rintro e w1 ⟨rfl, hb1⟩; obtain ⟨ex, dx, rfl⟩ := more_of hb1; clear hb1))
  go_ret
  exact ⟨rfl, (by repeat (first | (with_reducible exact Below.refl _ _) | (with_reducible exact bl_mm) | (with_reducible refine bl_dr ?_) | (with_reducible refine bl_drN ?_ _) | (with_reducible refine bl_al ?_ _) | (with_reducible refine bl_more ?_ _ _)))⟩
end Go.Proofs.Ytgpcgndmdkgbdaa

/- Files written. -/
namespace Go.Proofs.Ytgpcgndmdkgbdaa
open Go.RowKit

theorem spine_not_d {w : World} {d : Nat} {v : Value} {b : List UInt8} {K : Nat → Prop} (h : Blk w d) (hs : u8E.Spine 5 K d w v b) : capOf v = 0 := by
  apply Classical.byContradiction
  intro hc
  obtain ⟨cur, h1, _⟩ := h
  obtain ⟨cur', h2⟩ := hs.type hc
  rw [h1] at h2
  cases h2
theorem Ext.drew {S : Nat → Prop} {a b : World} (h : Ext S a b) : Ext S a b.drew := ⟨h.os, h.tape, h.output, h.size, h.block⟩
theorem Ext.set {S : Nat → Prop} {a b : World} (h : Ext S a b) (k o : Nat) (v : Value) (hS : S k) : Ext S a (b.setCell ⟨k, o, none⟩ v) := h.trans (Ext.setCell (S := S) b ⟨k, o, none⟩ v hS) (fun _ _ h => h)
theorem ex_al {S : Nat → Prop} {a b : World} (h : Ext S a b) (o : Obj) : Ext S a (b.alloc o) := h.trans (Ext.alloc S b o) (fun _ _ h => h)
theorem ex_dr {S : Nat → Prop} {a b : World} (h : Ext S a b) : Ext S a b.drew := h.drew
theorem ex_drN {S : Nat → Prop} {a b : World} (h : Ext S a b) (n : Nat) : Ext S a (b.drewN n) := h.trans (Ext.drewN S b n) (fun _ _ h => h)
theorem ex_more {S : Nat → Prop} {a b : World} (h : Ext S a b) (e : Array Obj) (n : Nat) : Ext S a (more b e n) := h.trans (Ext.of_below (S := S) (more_below b e n)) (fun _ _ h => h)
theorem cell_off {w : World} {d o p : Nat} {v : Value} (h : o ≠ p) : (w.setCell ⟨d, o, none⟩ v).cell? ⟨d, p, none⟩ = w.cell? ⟨d, p, none⟩ := World.cell?_setCell_other (h := fun e => h (by cases e; rfl)) ..
/-- One file taken out; put back. -/
theorem Dk.take {w : World} {d : Nat} {G : Nat → Prop} {s : DS} (h : Dk w d G s) (i : Nat) (hi : i < s.fs.length) :
    ∃ g, FileAt w d G g i s.fs[i] ∧ ∀ (w' : World) (G' : Nat → Prop) (g' : Nat) (f' : DF) (room' fuse' : Int) (down' : Bool), (∀ b, G b → b < w.heap.size → G' b) → Ext (fun b => b = d ∨ b = g) w w' →
      (∀ o, o < 130 → o ≠ i * 2 → o ≠ i * 2 + 1 → w'.cell? ⟨d, o, none⟩ = w.cell? ⟨d, o, none⟩) → Blk w' d →
      w'.cell? ⟨d, 130, none⟩ = some (.int .i64 s.fs.length) → w'.cell? ⟨d, 131, none⟩ = some (.int .i64 room') → w'.cell? ⟨d, 132, none⟩ = some (.int .i64 fuse') → w'.cell? ⟨d, 133, none⟩ = some (.bool down') →
      FileAt w' d G' g' i f' → (g' = g ∨ g' = d ∨ w.heap.size ≤ g') → s.fs.length ≤ 65 → Dk w' d G' { fs := s.fs.set i f', room := room', fuse := fuse', down := down' } := by
  obtain ⟨gs, h3, h4⟩ := h.rows
  refine ⟨gs i, h3 i hi, fun w' G' g' f' room' fuse' down' hG he ho hb c0 c1 c2 c3 hf hg hn => ⟨hb, by simpa using c0, c1, c2, c3, fun k => if k = i then g' else gs k, fun k hk => ?_, fun a b ha hb' hab hg2 => ?_⟩⟩
  · have hk' : k < s.fs.length := by simpa using hk
    by_cases hki : k = i
    · subst hki
      simp only [if_true, List.getElem_set_self]
      exact hf
    · simp only [if_neg hki]
      rw [List.getElem_set_ne (fun e => hki e.symm)]
      obtain ⟨v, k1, k2, k3, k4⟩ := h3 k hk'
      have hs := he.size
      refine ⟨v, (ho _ (by omega) (by omega) (by omega)).trans k1, (ho _ (by omega) (by omega) (by omega)).trans k2, ?_, k4.imp id (fun h => ⟨hG _ h.1 h.2, by omega⟩)⟩
      by_cases hc : capOf v = 0
      · exact k3.empty hc
      · have hd : gs k ≠ d := fun e => hc (spine_not_d h.blk (e ▸ k3))
        exact k3.step (fun cur hcur => (he.block _ (Array.getElem?_eq_some_iff.1 hcur).1 (fun e => by
          rcases e with e | e
          · exact hd e
          · exact hd (h4 k i hk' hi hki e))).trans hcur) (fun b hb _ => hb.elim)
  · have ha' : a < s.fs.length := by simpa using ha
    have hb2 : b < s.fs.length := by simpa using hb'
    have lt : ∀ k, k < s.fs.length → gs k = d ∨ gs k < w.heap.size := fun k hk => by
      obtain ⟨v, _, _, _, k4⟩ := h3 k hk
      exact k4.imp id (fun h => h.2)
    have hd := h.lt
    by_cases hai : a = i
    · have hbi : b ≠ i := by omega
      subst hai
      simp only [if_true, if_neg hbi] at hg2 ⊢
      rcases hg with hg | hg | hg
      · rw [hg]; exact h4 a b ha' hb2 hab (by rw [← hg]; exact hg2)
      · exact hg
      · rcases lt b hb2 with h5 | h5 <;> omega
    · simp only [if_neg hai] at hg2 ⊢
      by_cases hbi : b = i
      · subst hbi
        simp only [if_true] at hg2
        rcases hg with hg | hg | hg
        · exact h4 a b ha' hb2 hab (by rw [← hg]; exact hg2)
        · rw [hg2]; exact hg
        · rcases lt a ha' with h5 | h5 <;> omega
      · simp only [if_neg hbi] at hg2
        exact h4 a b ha' hb2 hab hg2

theorem offs {i n : Nat} (hi : i < n) (hn : n ≤ 65) : ((i * 2 = 130) = False) ∧ ((130 = i * 2) = False) ∧ ((i * 2 + 1 = 130) = False) ∧ ((130 = i * 2 + 1) = False) ∧ ((i * 2 = 131) = False) ∧ ((131 = i * 2) = False) ∧ ((i * 2 + 1 = 131) = False) ∧ ((131 = i * 2 + 1) = False) ∧ ((i * 2 = 132) = False) ∧ ((132 = i * 2) = False) ∧ ((i * 2 + 1 = 132) = False) ∧ ((132 = i * 2 + 1) = False) ∧ ((i * 2 = 133) = False) ∧ ((133 = i * 2) = False) ∧ ((i * 2 + 1 = 133) = False) ∧ ((133 = i * 2 + 1) = False) := by
  refine ⟨?_, ?_, ?_, ?_, ?_, ?_, ?_, ?_, ?_, ?_, ?_, ?_, ?_, ?_, ?_, ?_⟩ <;> (simp only [eq_iff_iff, iff_false]; omega)
def DS.keep (s : DS) (i n : Nat) : DS := { s with room := s.room + ((s.fs.getD i ⟨[], 0⟩).b.length - n : Int), fs := s.fs.set i ⟨(s.fs.getD i ⟨[], 0⟩).b.take n, n⟩ }
set_option maxHeartbeats 1000000 in
theorem keep_any {w : World} {d : Nat} {G : Nat → Prop} {s : DS} {C : Int} (h : Dk w d G s) (hs : s.Ok C) (hC : C ≤ 1000000000000) (i : Nat) (hi : i < s.fs.length) (n : Nat) (hn : n ≤ s.fs[i].b.length) :
    Calls Try.prog 39 #[.pointer (some ⟨d, 0, none⟩), .pointer (some ⟨d, i * 2, none⟩), .int .i64 n] w fun e w' => e = .returned (.tuple #[]) ∧ Dk w' d G (s.keep i n) ∧ Ext (fun b => b = d) w w' := by
  obtain ⟨g, ⟨v, h1, h2, h3, h4⟩, hput⟩ := h.take i hi
  obtain ⟨A, c, rfl, h5, h6⟩ := h3.form
  have hroom := h.room
  have hfr := h.frz
  have hd := h.lt
  have f1 := hfr 131
  have f2 := hfr (i * 2)
  have f3 := hfr (i * 2 + 1)
  have hr1 := hs.roomC
  have hr0 := hs.room
  have hl := hs.len (List.getElem_mem hi)
  have m : (maxLen : Int) ≤ 9223372036854775807 := by unfold maxLen; omega
  have i1 : (0 : Int) ≤ (n : Int) := by omega
  have i2 : (n : Int) ≤ (c : Int) := by omega
  have w1 : IntKind.i64.wrap ((s.fs[i].b.length : Int) - (n : Int)) = (s.fs[i].b.length : Int) - (n : Int) := IntWalk.i64_in _ (by omega)
  have w2 : IntKind.i64.wrap (s.room + ((s.fs[i].b.length : Int) - (n : Int))) = s.room + ((s.fs[i].b.length : Int) - (n : Int)) := IntWalk.i64_in _ (by omega)
  obtain ⟨x0, x1, x2, x3, x4, x5, x6, x7, x8, x9, x10, x11, x12, x13, x14, x15⟩ := offs hi hs.n2
  have hn0 := h.n
  have hn1 := h.fuse
  have hn2 := h.down
  have hblk := h.blk
  have HB := hid hblk
  have HN2 := hid hs.n2
  have HG := hid h4
  clear hblk
  have HP := hid hput
  have HD := hid h
  have H3 := hid h3
  clear h hs hput hfr h3 h5 h6 m hr1 hr0 hl
  go_enter Try.func39, Try.ntmps39
  go_wp2_with (first | ((with_reducible refine wp_region_plan (id := 0) (.eff [(false, 0), (false, 1), (false, 2), (false, 3), (false, 4), (false, 5), (false, 6), (false, 7), (false, 8), (false, 9), (false, 10), (false, 11), (false, 12), (false, 13)] 14 [] (.fin [])) ?_ ?_ ?_ ?_ ?_ ?_); kernel_rfl; kernel_rfl; kernel_rfl; kernel_rfl; (intro c a d v w h; cases d <;> exact h)) | (with_reducible refine wpPlan_eff ?_) | (with_reducible refine wpPlan_fin ?_) | (with_reducible refine wpPlan_two ?_) | (with_reducible refine wpOpPair ?_ ?_) | ((with_reducible apply wpPre_keep); rfl; intro K' hK'; go_simp; refine hK' _ _ ?_; intro f hf; clear hK' K') | ((with_reducible apply wpPre_drop); rfl; intro K' hK'; go_simp; refine hK' _ _ ?_; intro f; clear hK' K') | (with_reducible refine wpPre_nil ?_) | ((with_reducible apply wpOp_list); rfl) | (with_reducible refine heldPair ?_ ?_) | ((with_reducible refine heldH_no ?_ ?_); rfl) | (with_reducible refine heldH_yes ?_ ?_) | (with_reducible exact heldH_nil) | (unfold YAt; go_simp; done))
  go_end0
  have hE : Ext (fun b => b = d) w ((((w.setCell ⟨d, 131, none⟩ (.int .i64 (s.room + ((s.fs[i].b.length : Int) - (n : Int))))).setCell ⟨d, i * 2, none⟩ (.slice A n n)).setCell ⟨d, i * 2 + 1, none⟩ (.int .i64 (n : Int))).drew) := (((Ext.refl (fun b => b = d) w).set d _ _ rfl).set d _ _ rfl |>.set d _ _ rfl).drew
  have hK : s.keep i n = { fs := s.fs.set i ⟨s.fs[i].b.take n, n⟩, room := s.room + ((s.fs[i].b.length : Int) - (n : Int)), fuse := s.fuse, down := s.down } := by
    unfold DS.keep; simp [hi]
  refine ⟨rfl, ?_, hE⟩
  rw [hK]
  refine HP.out _ _ g _ _ _ _ (fun _ h _ => h) (hE.mono (fun _ _ h => .inl h)) (fun o ho h1 h2 => ?_) ?_ ?_ ?_ ?_ ?_ ?_ (.inl rfl) HN2.out
  · exact (cell_off (fun e => h2 e.symm)).trans ((cell_off (fun e => h1 e.symm)).trans (cell_off (by omega)))
  · exact blk_set (blk_set (blk_set HB.out))
  · go_simp
  · go_simp
  · go_simp
  · go_simp
  · refine ⟨.slice A n n, by go_simp, by go_simp, ?_, HG.out.imp id (fun h => ⟨h.1, by go_simp⟩)⟩
    have ht := H3.out.take n n hn (Nat.le_refl _) (by have := i2; omega)
    by_cases hc : n = 0
    · subst hc; exact ht.empty rfl
    · exact ht.step (fun cur hcur => (hE.block g (Array.getElem?_eq_some_iff.1 hcur).1 (fun e => by
        have := spine_not_d HB.out (e ▸ ht)
        exact hc this)).trans hcur) (fun b hb _ => hb.elim)

theorem Dk.set {w : World} {d : Nat} {G : Nat → Prop} {s : DS} (h : Dk w d G s) (hn : s.fs.length ≤ 65) (o : Nat) (v : Value) (hv : v.oneCell' = true) (ho : 130 < o) (room' fuse' : Int) (down' : Bool)
    (h1 : (w.setCell ⟨d, o, none⟩ v).cell? ⟨d, 131, none⟩ = some (.int .i64 room')) (h2 : (w.setCell ⟨d, o, none⟩ v).cell? ⟨d, 132, none⟩ = some (.int .i64 fuse')) (h3 : (w.setCell ⟨d, o, none⟩ v).cell? ⟨d, 133, none⟩ = some (.bool down')) :
    Dk (w.setCell ⟨d, o, none⟩ v) d G { fs := s.fs, room := room', fuse := fuse', down := down' } := by
  obtain ⟨gs, h4, h5⟩ := h.rows
  refine ⟨blk_set h.blk hv, (cell_off (by omega)).trans h.n, h1, h2, h3, gs, fun i hi => ?_, h5⟩
  have hi' : i < s.fs.length := hi
  obtain ⟨x, k1, k2, k3, k4⟩ := h4 i hi
  refine ⟨x, (cell_off (by omega)).trans k1, (cell_off (by omega)).trans k2, ?_, k4.imp id (fun h => ⟨h.1, by simpa using h.2⟩)⟩
  by_cases hc : capOf x = 0
  · exact k3.empty hc
  · refine k3.step (fun cur hcur => ?_) (fun b hb _ => hb.elim)
    have hne : gs i ≠ d := fun e => hc (spine_not_d h.blk (e ▸ k3))
    rw [Below.heap_setCell _ _ _ _ hne]; exact hcur
theorem Dk.setFuse {w : World} {d : Nat} {G : Nat → Prop} {s : DS} (h : Dk w d G s) (hn : s.fs.length ≤ 65) (f : Int) : Dk (w.setCell ⟨d, 132, none⟩ (.int .i64 f)) d G { s with fuse := f } :=
  h.set hn _ _ rfl (by omega) _ _ _ ((cell_off (by omega)).trans h.room) (World.cell?_setCell_same (h := h.fuse) ..) ((cell_off (by omega)).trans h.down)
theorem Dk.setDown {w : World} {d : Nat} {G : Nat → Prop} {s : DS} (h : Dk w d G s) (hn : s.fs.length ≤ 65) (f : Bool) : Dk (w.setCell ⟨d, 133, none⟩ (.bool f)) d G { s with down := f } :=
  h.set hn _ _ rfl (by omega) _ _ _ ((cell_off (by omega)).trans h.room) ((cell_off (by omega)).trans h.fuse) (World.cell?_setCell_same (h := h.down) ..)
theorem Dk.setRoom {w : World} {d : Nat} {G : Nat → Prop} {s : DS} (h : Dk w d G s) (hn : s.fs.length ≤ 65) (f : Int) : Dk (w.setCell ⟨d, 131, none⟩ (.int .i64 f)) d G { s with room := f } :=
  h.set hn _ _ rfl (by omega) _ _ _ (World.cell?_setCell_same (h := h.room) ..) ((cell_off (by omega)).trans h.fuse) ((cell_off (by omega)).trans h.down)
end Go.Proofs.Ytgpcgndmdkgbdaa

/- What a disk's calls do: what is refused. -/
namespace Go.Proofs.Ytgpcgndmdkgbdaa
open Go.RowKit

set_option maxHeartbeats 1000000 in
theorem append_down {w : World} {d : Nat} {G : Nat → Prop} {s : DS} {i : Int} {B : Option Addr} {m cb : Nat} (h : Dk w d G s) (hn : 1 ≤ s.fs.length) (hdn : s.down = true) :
    Calls Try.prog 37 #[.pointer (some ⟨d, 0, none⟩), .int .i64 i, .slice B m cb] w fun e w' => e = .returned (.int .i64 9) ∧ Below w.heap.size w w' := by
  have h1 := h.down
  have hd := h.lt
  rw [hdn] at h1
  have HD := hid h
  have HN := hid hn
  clear h hn hdn
  go_enter Try.func37, Try.ntmps37
  go_wp2_with (first | (go_at_call 57; go_in) | (go_at_call 35; refine (made_any (HD.out.below (by repeat (first | (with_reducible exact Below.refl _ _) | (with_reducible exact bl_mm) | (with_reducible refine bl_dr ?_) | (with_reducible refine bl_drN ?_ _) | (with_reducible refine bl_al ?_ _) | (with_reducible refine bl_more ?_ _ _)))) HN.out).mono ?_; rintro e w1 ⟨rfl, hb1⟩; obtain ⟨ex, dx, rfl⟩ := more_of hb1; clear hb1))
  go_ret
  exact ⟨rfl, (by repeat (first | (with_reducible exact Below.refl _ _) | (with_reducible exact bl_mm) | (with_reducible refine bl_dr ?_) | (with_reducible refine bl_drN ?_ _) | (with_reducible refine bl_al ?_ _) | (with_reducible refine bl_more ?_ _ _)))⟩
set_option maxHeartbeats 1000000 in
theorem sync_down {w : World} {d : Nat} {G : Nat → Prop} {s : DS} {i : Int} (h : Dk w d G s) (hn : 1 ≤ s.fs.length) (hdn : s.down = true) :
    Calls Try.prog 28 #[.pointer (some ⟨d, 0, none⟩), .int .i64 i] w fun e w' => e = .returned (.int .i64 9) ∧ Below w.heap.size w w' := by
  have h1 := h.down
  have hd := h.lt
  rw [hdn] at h1
  have HD := hid h
  have HN := hid hn
  clear h hn hdn
  go_enter Try.func28, Try.ntmps28
  go_wp2_with (first | (go_at_call 57; go_in) | (go_at_call 35; refine (made_any (HD.out.below (by repeat (first | (with_reducible exact Below.refl _ _) | (with_reducible exact bl_mm) | (with_reducible refine bl_dr ?_) | (with_reducible refine bl_drN ?_ _) | (with_reducible refine bl_al ?_ _) | (with_reducible refine bl_more ?_ _ _)))) HN.out).mono ?_; rintro e w1 ⟨rfl, hb1⟩; obtain ⟨ex, dx, rfl⟩ := more_of hb1; clear hb1))
  go_ret
  exact ⟨rfl, (by repeat (first | (with_reducible exact Below.refl _ _) | (with_reducible exact bl_mm) | (with_reducible refine bl_dr ?_) | (with_reducible refine bl_drN ?_ _) | (with_reducible refine bl_al ?_ _) | (with_reducible refine bl_more ?_ _ _)))⟩
set_option maxHeartbeats 1000000 in
theorem cut_down {w : World} {d : Nat} {G : Nat → Prop} {s : DS} {i n : Int} (h : Dk w d G s) (hn : 1 ≤ s.fs.length) (hdn : s.down = true) :
    Calls Try.prog 36 #[.pointer (some ⟨d, 0, none⟩), .int .i64 i, .int .i64 n] w fun e w' => e = .returned (.int .i64 9) ∧ Below w.heap.size w w' := by
  have h1 := h.down
  have hd := h.lt
  rw [hdn] at h1
  have HD := hid h
  have HN := hid hn
  clear h hn hdn
  go_enter Try.func36, Try.ntmps36
  go_wp2_with (first | (go_at_call 57; go_in) | (go_at_call 35; refine (made_any (HD.out.below (by repeat (first | (with_reducible exact Below.refl _ _) | (with_reducible exact bl_mm) | (with_reducible refine bl_dr ?_) | (with_reducible refine bl_drN ?_ _) | (with_reducible refine bl_al ?_ _) | (with_reducible refine bl_more ?_ _ _)))) HN.out).mono ?_; rintro e w1 ⟨rfl, hb1⟩; obtain ⟨ex, dx, rfl⟩ := more_of hb1; clear hb1))
  go_ret
  exact ⟨rfl, (by repeat (first | (with_reducible exact Below.refl _ _) | (with_reducible exact bl_mm) | (with_reducible refine bl_dr ?_) | (with_reducible refine bl_drN ?_ _) | (with_reducible refine bl_al ?_ _) | (with_reducible refine bl_more ?_ _ _)))⟩
set_option maxHeartbeats 1000000 in
theorem append_none {w : World} {d : Nat} {G : Nat → Prop} {s : DS} {i : Int} {B : Option Addr} {m cb : Nat} (h : Dk w d G s) (hn : 1 ≤ s.fs.length) (hdn : s.down = false) (hi : i < 0 ∨ s.fs.length ≤ i) :
    Calls Try.prog 37 #[.pointer (some ⟨d, 0, none⟩), .int .i64 i, .slice B m cb] w fun e w' => e = .returned (.int .i64 2) ∧ Below w.heap.size w w' := by
  have h1 := h.down
  have hd := h.lt
  rw [hdn] at h1
  have HD := hid h
  have HN := hid hn
  have HI := hid hi
  clear h hn hdn hi
  go_enter Try.func37, Try.ntmps37
  go_wp2_with (first | (go_at_call 57; go_in) | (go_at_call 35; refine (made_any (HD.out.below (by repeat (first | (with_reducible exact Below.refl _ _) | (with_reducible exact bl_mm) | (with_reducible refine bl_dr ?_) | (with_reducible refine bl_drN ?_ _) | (with_reducible refine bl_al ?_ _) | (with_reducible refine bl_more ?_ _ _)))) HN.out).mono ?_; rintro e w1 ⟨rfl, hb1⟩; obtain ⟨ex, dx, rfl⟩ := more_of hb1; clear hb1) | (go_at_call 32; refine (has_no (HD.out.below (by repeat (first | (with_reducible exact Below.refl _ _) | (with_reducible exact bl_mm) | (with_reducible refine bl_dr ?_) | (with_reducible refine bl_drN ?_ _) | (with_reducible refine bl_al ?_ _) | (with_reducible refine bl_more ?_ _ _)))) _ HN.out HI.out).mono ?_; rintro e w1 ⟨rfl, hb1⟩; obtain ⟨ex, dx, rfl⟩ := more_of hb1; clear hb1))
  go_ret
  exact ⟨rfl, (by repeat (first | (with_reducible exact Below.refl _ _) | (with_reducible exact bl_mm) | (with_reducible refine bl_dr ?_) | (with_reducible refine bl_drN ?_ _) | (with_reducible refine bl_al ?_ _) | (with_reducible refine bl_more ?_ _ _)))⟩
set_option maxHeartbeats 1000000 in
theorem sync_none {w : World} {d : Nat} {G : Nat → Prop} {s : DS} {i : Int} (h : Dk w d G s) (hn : 1 ≤ s.fs.length) (hdn : s.down = false) (hi : i < 0 ∨ s.fs.length ≤ i) :
    Calls Try.prog 28 #[.pointer (some ⟨d, 0, none⟩), .int .i64 i] w fun e w' => e = .returned (.int .i64 2) ∧ Below w.heap.size w w' := by
  have h1 := h.down
  have hd := h.lt
  rw [hdn] at h1
  have HD := hid h
  have HN := hid hn
  have HI := hid hi
  clear h hn hdn hi
  go_enter Try.func28, Try.ntmps28
  go_wp2_with (first | (go_at_call 57; go_in) | (go_at_call 35; refine (made_any (HD.out.below (by repeat (first | (with_reducible exact Below.refl _ _) | (with_reducible exact bl_mm) | (with_reducible refine bl_dr ?_) | (with_reducible refine bl_drN ?_ _) | (with_reducible refine bl_al ?_ _) | (with_reducible refine bl_more ?_ _ _)))) HN.out).mono ?_; rintro e w1 ⟨rfl, hb1⟩; obtain ⟨ex, dx, rfl⟩ := more_of hb1; clear hb1) | (go_at_call 32; refine (has_no (HD.out.below (by repeat (first | (with_reducible exact Below.refl _ _) | (with_reducible exact bl_mm) | (with_reducible refine bl_dr ?_) | (with_reducible refine bl_drN ?_ _) | (with_reducible refine bl_al ?_ _) | (with_reducible refine bl_more ?_ _ _)))) _ HN.out HI.out).mono ?_; rintro e w1 ⟨rfl, hb1⟩; obtain ⟨ex, dx, rfl⟩ := more_of hb1; clear hb1))
  go_ret
  exact ⟨rfl, (by repeat (first | (with_reducible exact Below.refl _ _) | (with_reducible exact bl_mm) | (with_reducible refine bl_dr ?_) | (with_reducible refine bl_drN ?_ _) | (with_reducible refine bl_al ?_ _) | (with_reducible refine bl_more ?_ _ _)))⟩
set_option maxHeartbeats 1000000 in
theorem cut_none {w : World} {d : Nat} {G : Nat → Prop} {s : DS} {i n : Int} (h : Dk w d G s) (hn : 1 ≤ s.fs.length) (hdn : s.down = false) (hi : i < 0 ∨ s.fs.length ≤ i) :
    Calls Try.prog 36 #[.pointer (some ⟨d, 0, none⟩), .int .i64 i, .int .i64 n] w fun e w' => e = .returned (.int .i64 2) ∧ Below w.heap.size w w' := by
  have h1 := h.down
  have hd := h.lt
  rw [hdn] at h1
  have HD := hid h
  have HN := hid hn
  have HI := hid hi
  clear h hn hdn hi
  go_enter Try.func36, Try.ntmps36
  go_wp2_with (first | (go_at_call 57; go_in) | (go_at_call 35; refine (made_any (HD.out.below (by repeat (first | (with_reducible exact Below.refl _ _) | (with_reducible exact bl_mm) | (with_reducible refine bl_dr ?_) | (with_reducible refine bl_drN ?_ _) | (with_reducible refine bl_al ?_ _) | (with_reducible refine bl_more ?_ _ _)))) HN.out).mono ?_; rintro e w1 ⟨rfl, hb1⟩; obtain ⟨ex, dx, rfl⟩ := more_of hb1; clear hb1) | (go_at_call 32; refine (has_no (HD.out.below (by repeat (first | (with_reducible exact Below.refl _ _) | (with_reducible exact bl_mm) | (with_reducible refine bl_dr ?_) | (with_reducible refine bl_drN ?_ _) | (with_reducible refine bl_al ?_ _) | (with_reducible refine bl_more ?_ _ _)))) _ HN.out HI.out).mono ?_; rintro e w1 ⟨rfl, hb1⟩; obtain ⟨ex, dx, rfl⟩ := more_of hb1; clear hb1))
  go_ret
  exact ⟨rfl, (by repeat (first | (with_reducible exact Below.refl _ _) | (with_reducible exact bl_mm) | (with_reducible refine bl_dr ?_) | (with_reducible refine bl_drN ?_ _) | (with_reducible refine bl_al ?_ _) | (with_reducible refine bl_more ?_ _ _)))⟩

set_option maxHeartbeats 1000000 in
theorem append_full {w : World} {d : Nat} {G : Nat → Prop} {s : DS} {i : Nat} {B : Option Addr} {m cb : Nat} (h : Dk w d G s) (hdn : s.down = false) (hi : i < s.fs.length) (hn65 : s.fs.length ≤ 65) (hfull : s.room < (m : Int)) :
    Calls Try.prog 37 #[.pointer (some ⟨d, 0, none⟩), .int .i64 i, .slice B m cb] w fun e w' => e = .returned (.int .i64 8) ∧ Below w.heap.size w w' := by
  have h1 := h.down
  have h2 := h.room
  obtain ⟨g, ⟨v, c1, c2, h3, h4⟩, _⟩ := h.take i hi
  obtain ⟨A, c, rfl, h5, h6⟩ := h3.form
  have hd := h.lt
  rw [hdn] at h1
  have hn : 1 ≤ s.fs.length := by omega
  have i1 : (0 : Int) ≤ (i : Int) := by omega
  have i2 : (i : Int) < 65 := by omega
  have HD := hid h
  have HN := hid hn
  have HI := hid hi
  clear h hn hdn hn65 h3 h4 h5 h6
  go_enter Try.func37, Try.ntmps37
  go_wp2_with (first | ((with_reducible refine wp_region_plan (id := 1) (.fin [(false, 0), (false, 1), (false, 2), (false, 3), (false, 4), (false, 5), (false, 6)]) ?_ ?_ ?_ ?_ ?_ ?_); kernel_rfl; kernel_rfl; kernel_rfl; kernel_rfl; (intro c a d v w h; cases d <;> exact h)) | (with_reducible refine wpPlan_eff ?_) | (with_reducible refine wpPlan_fin ?_) | (with_reducible refine wpPlan_two ?_) | (with_reducible refine wpOpPair ?_ ?_) | ((with_reducible apply wpPre_keep); rfl; intro K' hK'; go_simp; refine hK' _ _ ?_; intro f hf; clear hK' K') | ((with_reducible apply wpPre_drop); rfl; intro K' hK'; go_simp; refine hK' _ _ ?_; intro f; clear hK' K') | (with_reducible refine wpPre_nil ?_) | ((with_reducible apply wpOp_list); rfl) | (with_reducible refine heldPair ?_ ?_) | ((with_reducible refine heldH_no ?_ ?_); rfl) | (with_reducible refine heldH_yes ?_ ?_) | (with_reducible exact heldH_nil) | (unfold YAt; go_simp; done) | (go_at_call 57; go_in) | (go_at_call 35; refine (made_any (HD.out.below (by repeat (first | (with_reducible exact Below.refl _ _) | (with_reducible exact bl_mm) | (with_reducible refine bl_dr ?_) | (with_reducible refine bl_drN ?_ _) | (with_reducible refine bl_al ?_ _) | (with_reducible refine bl_more ?_ _ _)))) HN.out).mono ?_; rintro e w1 ⟨rfl, hb1⟩; obtain ⟨ex, dx, rfl⟩ := more_of hb1; clear hb1) | (go_at_call 32; refine (has_yes (HD.out.below (by repeat (first | (with_reducible exact Below.refl _ _) | (with_reducible exact bl_mm) | (with_reducible refine bl_dr ?_) | (with_reducible refine bl_drN ?_ _) | (with_reducible refine bl_al ?_ _) | (with_reducible refine bl_more ?_ _ _)))) i HI.out).mono ?_; rintro e w1 ⟨rfl, hb1⟩; obtain ⟨ex, dx, rfl⟩ := more_of hb1; clear hb1) | (go_at_call 67; go_in))
  go_ret
  exact ⟨rfl, (by repeat (first | (with_reducible exact Below.refl _ _) | (with_reducible exact bl_mm) | (with_reducible refine bl_dr ?_) | (with_reducible refine bl_drN ?_ _) | (with_reducible refine bl_al ?_ _) | (with_reducible refine bl_more ?_ _ _)))⟩
set_option maxHeartbeats 1000000 in
theorem cut_low {w : World} {d : Nat} {G : Nat → Prop} {s : DS} {i : Nat} {n : Int} (h : Dk w d G s) (hdn : s.down = false) (hi : i < s.fs.length) (hn65 : s.fs.length ≤ 65) (hlow : n < 0) :
    Calls Try.prog 36 #[.pointer (some ⟨d, 0, none⟩), .int .i64 i, .int .i64 n] w fun e w' => e = .returned (.int .i64 2) ∧ Below w.heap.size w w' := by
  have h1 := h.down
  have h2 := h.room
  obtain ⟨g, ⟨v, c1, c2, h3, h4⟩, _⟩ := h.take i hi
  obtain ⟨A, c, rfl, h5, h6⟩ := h3.form
  have hd := h.lt
  rw [hdn] at h1
  have hn : 1 ≤ s.fs.length := by omega
  have i1 : (0 : Int) ≤ (i : Int) := by omega
  have i2 : (i : Int) < 65 := by omega
  have HD := hid h
  have HN := hid hn
  have HI := hid hi
  clear h hn hdn hn65 h3 h4 h5 h6
  go_enter Try.func36, Try.ntmps36
  go_wp2_with (first | ((with_reducible refine wp_region_plan (id := 1) (.fin [(false, 0), (false, 1), (false, 2), (false, 3), (false, 4), (false, 5), (false, 6), (false, 7), (false, 8), (false, 9), (false, 10)]) ?_ ?_ ?_ ?_ ?_ ?_); kernel_rfl; kernel_rfl; kernel_rfl; kernel_rfl; (intro c a d v w h; cases d <;> exact h)) | (with_reducible refine wpPlan_eff ?_) | (with_reducible refine wpPlan_fin ?_) | (with_reducible refine wpPlan_two ?_) | (with_reducible refine wpOpPair ?_ ?_) | ((with_reducible apply wpPre_keep); rfl; intro K' hK'; go_simp; refine hK' _ _ ?_; intro f hf; clear hK' K') | ((with_reducible apply wpPre_drop); rfl; intro K' hK'; go_simp; refine hK' _ _ ?_; intro f; clear hK' K') | (with_reducible refine wpPre_nil ?_) | ((with_reducible apply wpOp_list); rfl) | (with_reducible refine heldPair ?_ ?_) | ((with_reducible refine heldH_no ?_ ?_); rfl) | (with_reducible refine heldH_yes ?_ ?_) | (with_reducible exact heldH_nil) | (unfold YAt; go_simp; done) | (go_at_call 57; go_in) | (go_at_call 35; refine (made_any (HD.out.below (by repeat (first | (with_reducible exact Below.refl _ _) | (with_reducible exact bl_mm) | (with_reducible refine bl_dr ?_) | (with_reducible refine bl_drN ?_ _) | (with_reducible refine bl_al ?_ _) | (with_reducible refine bl_more ?_ _ _)))) HN.out).mono ?_; rintro e w1 ⟨rfl, hb1⟩; obtain ⟨ex, dx, rfl⟩ := more_of hb1; clear hb1) | (go_at_call 32; refine (has_yes (HD.out.below (by repeat (first | (with_reducible exact Below.refl _ _) | (with_reducible exact bl_mm) | (with_reducible refine bl_dr ?_) | (with_reducible refine bl_drN ?_ _) | (with_reducible refine bl_al ?_ _) | (with_reducible refine bl_more ?_ _ _)))) i HI.out).mono ?_; rintro e w1 ⟨rfl, hb1⟩; obtain ⟨ex, dx, rfl⟩ := more_of hb1; clear hb1) | (go_at_call 65; go_in))
  go_ret
  exact ⟨rfl, (by repeat (first | (with_reducible exact Below.refl _ _) | (with_reducible exact bl_mm) | (with_reducible refine bl_dr ?_) | (with_reducible refine bl_drN ?_ _) | (with_reducible refine bl_al ?_ _) | (with_reducible refine bl_more ?_ _ _)))⟩
set_option maxHeartbeats 1000000 in
theorem cut_high {w : World} {d : Nat} {G : Nat → Prop} {s : DS} {i : Nat} {n : Int} (h : Dk w d G s) (hdn : s.down = false) (hi : i < s.fs.length) (hn65 : s.fs.length ≤ 65) (hlow : ¬ n < 0) (hhigh : (s.fs[i].b.length : Int) < n) :
    Calls Try.prog 36 #[.pointer (some ⟨d, 0, none⟩), .int .i64 i, .int .i64 n] w fun e w' => e = .returned (.int .i64 2) ∧ Below w.heap.size w w' := by
  have h1 := h.down
  have h2 := h.room
  obtain ⟨g, ⟨v, c1, c2, h3, h4⟩, _⟩ := h.take i hi
  obtain ⟨A, c, rfl, h5, h6⟩ := h3.form
  have hd := h.lt
  rw [hdn] at h1
  have hn : 1 ≤ s.fs.length := by omega
  have i1 : (0 : Int) ≤ (i : Int) := by omega
  have i2 : (i : Int) < 65 := by omega
  have HD := hid h
  have HN := hid hn
  have HI := hid hi
  clear h hn hdn hn65 h3 h4 h5 h6
  go_enter Try.func36, Try.ntmps36
  go_wp2_with (first | ((with_reducible refine wp_region_plan (id := 1) (.fin [(false, 0), (false, 1), (false, 2), (false, 3), (false, 4), (false, 5), (false, 6), (false, 7), (false, 8), (false, 9), (false, 10)]) ?_ ?_ ?_ ?_ ?_ ?_); kernel_rfl; kernel_rfl; kernel_rfl; kernel_rfl; (intro c a d v w h; cases d <;> exact h)) | (with_reducible refine wpPlan_eff ?_) | (with_reducible refine wpPlan_fin ?_) | (with_reducible refine wpPlan_two ?_) | (with_reducible refine wpOpPair ?_ ?_) | ((with_reducible apply wpPre_keep); rfl; intro K' hK'; go_simp; refine hK' _ _ ?_; intro f hf; clear hK' K') | ((with_reducible apply wpPre_drop); rfl; intro K' hK'; go_simp; refine hK' _ _ ?_; intro f; clear hK' K') | (with_reducible refine wpPre_nil ?_) | ((with_reducible apply wpOp_list); rfl) | (with_reducible refine heldPair ?_ ?_) | ((with_reducible refine heldH_no ?_ ?_); rfl) | (with_reducible refine heldH_yes ?_ ?_) | (with_reducible exact heldH_nil) | (unfold YAt; go_simp; done) | (go_at_call 57; go_in) | (go_at_call 35; refine (made_any (HD.out.below (by repeat (first | (with_reducible exact Below.refl _ _) | (with_reducible exact bl_mm) | (with_reducible refine bl_dr ?_) | (with_reducible refine bl_drN ?_ _) | (with_reducible refine bl_al ?_ _) | (with_reducible refine bl_more ?_ _ _)))) HN.out).mono ?_; rintro e w1 ⟨rfl, hb1⟩; obtain ⟨ex, dx, rfl⟩ := more_of hb1; clear hb1) | (go_at_call 32; refine (has_yes (HD.out.below (by repeat (first | (with_reducible exact Below.refl _ _) | (with_reducible exact bl_mm) | (with_reducible refine bl_dr ?_) | (with_reducible refine bl_drN ?_ _) | (with_reducible refine bl_al ?_ _) | (with_reducible refine bl_more ?_ _ _)))) i HI.out).mono ?_; rintro e w1 ⟨rfl, hb1⟩; obtain ⟨ex, dx, rfl⟩ := more_of hb1; clear hb1) | (go_at_call 65; go_in))
  go_ret
  exact ⟨rfl, (by repeat (first | (with_reducible exact Below.refl _ _) | (with_reducible exact bl_mm) | (with_reducible refine bl_dr ?_) | (with_reducible refine bl_drN ?_ _) | (with_reducible refine bl_al ?_ _) | (with_reducible refine bl_more ?_ _ _)))⟩
end Go.Proofs.Ytgpcgndmdkgbdaa

/- What a disk's calls do: the fuse; files. -/
namespace Go.Proofs.Ytgpcgndmdkgbdaa
open Go.RowKit

set_option maxHeartbeats 1000000 in
theorem append_off {w : World} {d : Nat} {G : Nat → Prop} {s : DS} {i : Nat} {B : Option Addr} {m cb : Nat} (h : Dk w d G s) (hdn : s.down = false) (hi : i < s.fs.length) (hn65 : s.fs.length ≤ 65) (hf : s.fuse = 0) (hfits : ¬ s.room < (m : Int)) :
    Calls Try.prog 37 #[.pointer (some ⟨d, 0, none⟩), .int .i64 i, .slice B m cb] w fun e w' => e = .returned (.int .i64 9) ∧ Dk w' d G { s with down := true } ∧ Ext (fun b => b = d) w w' := by
  have h1 := h.down
  have h2 := h.room
  have k3 := h.fuse
  have f1 := h.frz 133
  obtain ⟨g, ⟨v, c1, c2, h3, h4⟩, _⟩ := h.take i hi
  obtain ⟨A, c, rfl, h5, h6⟩ := h3.form
  have hd := h.lt
  rw [hdn] at h1
  rw [hf] at k3
  have hn : 1 ≤ s.fs.length := by omega
  have i1 : (0 : Int) ≤ (i : Int) := by omega
  have i2 : (i : Int) < 65 := by omega
  have HD := hid h
  have HN := hid hn
  have HI := hid hi
  have HN65 := hid hn65
  clear h hn hdn hn65 h3 h4 h5 h6 hf
  go_enter Try.func37, Try.ntmps37
  go_wp2_with (first | ((with_reducible refine wp_region_plan (id := 1) (.fin [(false, 0), (false, 1), (false, 2), (false, 3), (false, 4), (false, 5), (false, 6)]) ?_ ?_ ?_ ?_ ?_ ?_); kernel_rfl; kernel_rfl; kernel_rfl; kernel_rfl; (intro c a d v w h; cases d <;> exact h)) | (with_reducible refine wpPlan_eff ?_) | (with_reducible refine wpPlan_fin ?_) | (with_reducible refine wpPlan_two ?_) | (with_reducible refine wpOpPair ?_ ?_) | ((with_reducible apply wpPre_keep); rfl; intro K' hK'; go_simp; refine hK' _ _ ?_; intro f hf; clear hK' K') | ((with_reducible apply wpPre_drop); rfl; intro K' hK'; go_simp; refine hK' _ _ ?_; intro f; clear hK' K') | (with_reducible refine wpPre_nil ?_) | ((with_reducible apply wpOp_list); rfl) | (with_reducible refine heldPair ?_ ?_) | ((with_reducible refine heldH_no ?_ ?_); rfl) | (with_reducible refine heldH_yes ?_ ?_) | (with_reducible exact heldH_nil) | (unfold YAt; go_simp; done) | (go_at_call 57; go_in) | (go_at_call 35; refine (made_any (HD.out.below (by repeat (first | (with_reducible exact Below.refl _ _) | (with_reducible exact bl_mm) | (with_reducible refine bl_dr ?_) | (with_reducible refine bl_drN ?_ _) | (with_reducible refine bl_al ?_ _) | (with_reducible refine bl_more ?_ _ _)))) HN.out).mono ?_; rintro e w1 ⟨rfl, hb1⟩; obtain ⟨ex, dx, rfl⟩ := more_of hb1; clear hb1) | (go_at_call 32; refine (has_yes (HD.out.below (by repeat (first | (with_reducible exact Below.refl _ _) | (with_reducible exact bl_mm) | (with_reducible refine bl_dr ?_) | (with_reducible refine bl_drN ?_ _) | (with_reducible refine bl_al ?_ _) | (with_reducible refine bl_more ?_ _ _)))) i HI.out).mono ?_; rintro e w1 ⟨rfl, hb1⟩; obtain ⟨ex, dx, rfl⟩ := more_of hb1; clear hb1) | (go_at_call 67; go_in))
  go_ret
  exact ⟨rfl, (HD.out.setDown HN65.out true).below (by repeat (first | (with_reducible exact Below.refl _ _) | (with_reducible exact bl_mm) | (with_reducible refine bl_dr ?_) | (with_reducible refine bl_drN ?_ _) | (with_reducible refine bl_al ?_ _) | (with_reducible refine bl_more ?_ _ _))), (by repeat (first | (with_reducible exact Ext.refl _ _) | (with_reducible refine ex_dr ?_) | (with_reducible refine ex_drN ?_ _) | (with_reducible refine ex_al ?_ _) | (with_reducible refine ex_more ?_ _ _) | (with_reducible refine Ext.set ?_ _ _ _ (by first | exact rfl | exact .inl rfl | exact .inr rfl))))⟩
set_option maxHeartbeats 1000000 in
theorem sync_off {w : World} {d : Nat} {G : Nat → Prop} {s : DS} {i : Nat}  (h : Dk w d G s) (hdn : s.down = false) (hi : i < s.fs.length) (hn65 : s.fs.length ≤ 65) (hf : s.fuse = 0)  :
    Calls Try.prog 28 #[.pointer (some ⟨d, 0, none⟩), .int .i64 i] w fun e w' => e = .returned (.int .i64 9) ∧ Dk w' d G { s with down := true } ∧ Ext (fun b => b = d) w w' := by
  have h1 := h.down
  have h2 := h.room
  have k3 := h.fuse
  have f1 := h.frz 133
  obtain ⟨g, ⟨v, c1, c2, h3, h4⟩, _⟩ := h.take i hi
  obtain ⟨A, c, rfl, h5, h6⟩ := h3.form
  have hd := h.lt
  rw [hdn] at h1
  rw [hf] at k3
  have hn : 1 ≤ s.fs.length := by omega
  have i1 : (0 : Int) ≤ (i : Int) := by omega
  have i2 : (i : Int) < 65 := by omega
  have HD := hid h
  have HN := hid hn
  have HI := hid hi
  have HN65 := hid hn65
  clear h hn hdn hn65 h3 h4 h5 h6 hf
  go_enter Try.func28, Try.ntmps28
  go_wp2_with (first | (go_at_call 57; go_in) | (go_at_call 35; refine (made_any (HD.out.below (by repeat (first | (with_reducible exact Below.refl _ _) | (with_reducible exact bl_mm) | (with_reducible refine bl_dr ?_) | (with_reducible refine bl_drN ?_ _) | (with_reducible refine bl_al ?_ _) | (with_reducible refine bl_more ?_ _ _)))) HN.out).mono ?_; rintro e w1 ⟨rfl, hb1⟩; obtain ⟨ex, dx, rfl⟩ := more_of hb1; clear hb1) | (go_at_call 32; refine (has_yes (HD.out.below (by repeat (first | (with_reducible exact Below.refl _ _) | (with_reducible exact bl_mm) | (with_reducible refine bl_dr ?_) | (with_reducible refine bl_drN ?_ _) | (with_reducible refine bl_al ?_ _) | (with_reducible refine bl_more ?_ _ _)))) i HI.out).mono ?_; rintro e w1 ⟨rfl, hb1⟩; obtain ⟨ex, dx, rfl⟩ := more_of hb1; clear hb1) | (go_at_call 56; go_in))
  go_ret
  exact ⟨rfl, (HD.out.setDown HN65.out true).below (by repeat (first | (with_reducible exact Below.refl _ _) | (with_reducible exact bl_mm) | (with_reducible refine bl_dr ?_) | (with_reducible refine bl_drN ?_ _) | (with_reducible refine bl_al ?_ _) | (with_reducible refine bl_more ?_ _ _))), (by repeat (first | (with_reducible exact Ext.refl _ _) | (with_reducible refine ex_dr ?_) | (with_reducible refine ex_drN ?_ _) | (with_reducible refine ex_al ?_ _) | (with_reducible refine ex_more ?_ _ _) | (with_reducible refine Ext.set ?_ _ _ _ (by first | exact rfl | exact .inl rfl | exact .inr rfl))))⟩
set_option maxHeartbeats 1000000 in
theorem cut_off {w : World} {d : Nat} {G : Nat → Prop} {s : DS} {i : Nat} {n : Nat} (h : Dk w d G s) (hdn : s.down = false) (hi : i < s.fs.length) (hn65 : s.fs.length ≤ 65) (hf : s.fuse = 0) (hlow : ¬ (n : Int) < 0) (hhigh : ¬ (s.fs[i].b.length : Int) < (n : Int)) :
    Calls Try.prog 36 #[.pointer (some ⟨d, 0, none⟩), .int .i64 i, .int .i64 n] w fun e w' => e = .returned (.int .i64 9) ∧ Dk w' d G { s with down := true } ∧ Ext (fun b => b = d) w w' := by
  have h1 := h.down
  have h2 := h.room
  have k3 := h.fuse
  have f1 := h.frz 133
  obtain ⟨g, ⟨v, c1, c2, h3, h4⟩, _⟩ := h.take i hi
  obtain ⟨A, c, rfl, h5, h6⟩ := h3.form
  have hd := h.lt
  rw [hdn] at h1
  rw [hf] at k3
  have hn : 1 ≤ s.fs.length := by omega
  have i1 : (0 : Int) ≤ (i : Int) := by omega
  have i2 : (i : Int) < 65 := by omega
  have HD := hid h
  have HN := hid hn
  have HI := hid hi
  have HN65 := hid hn65
  clear h hn hdn hn65 h3 h4 h5 h6 hf
  go_enter Try.func36, Try.ntmps36
  go_wp2_with (first | ((with_reducible refine wp_region_plan (id := 1) (.fin [(false, 0), (false, 1), (false, 2), (false, 3), (false, 4), (false, 5), (false, 6), (false, 7), (false, 8), (false, 9), (false, 10)]) ?_ ?_ ?_ ?_ ?_ ?_); kernel_rfl; kernel_rfl; kernel_rfl; kernel_rfl; (intro c a d v w h; cases d <;> exact h)) | (with_reducible refine wpPlan_eff ?_) | (with_reducible refine wpPlan_fin ?_) | (with_reducible refine wpPlan_two ?_) | (with_reducible refine wpOpPair ?_ ?_) | ((with_reducible apply wpPre_keep); rfl; intro K' hK'; go_simp; refine hK' _ _ ?_; intro f hf; clear hK' K') | ((with_reducible apply wpPre_drop); rfl; intro K' hK'; go_simp; refine hK' _ _ ?_; intro f; clear hK' K') | (with_reducible refine wpPre_nil ?_) | ((with_reducible apply wpOp_list); rfl) | (with_reducible refine heldPair ?_ ?_) | ((with_reducible refine heldH_no ?_ ?_); rfl) | (with_reducible refine heldH_yes ?_ ?_) | (with_reducible exact heldH_nil) | (unfold YAt; go_simp; done) | (go_at_call 57; go_in) | (go_at_call 35; refine (made_any (HD.out.below (by repeat (first | (with_reducible exact Below.refl _ _) | (with_reducible exact bl_mm) | (with_reducible refine bl_dr ?_) | (with_reducible refine bl_drN ?_ _) | (with_reducible refine bl_al ?_ _) | (with_reducible refine bl_more ?_ _ _)))) HN.out).mono ?_; rintro e w1 ⟨rfl, hb1⟩; obtain ⟨ex, dx, rfl⟩ := more_of hb1; clear hb1) | (go_at_call 32; refine (has_yes (HD.out.below (by repeat (first | (with_reducible exact Below.refl _ _) | (with_reducible exact bl_mm) | (with_reducible refine bl_dr ?_) | (with_reducible refine bl_drN ?_ _) | (with_reducible refine bl_al ?_ _) | (with_reducible refine bl_more ?_ _ _)))) i HI.out).mono ?_; rintro e w1 ⟨rfl, hb1⟩; obtain ⟨ex, dx, rfl⟩ := more_of hb1; clear hb1) | (go_at_call 65; go_in))
  go_ret
  exact ⟨rfl, (HD.out.setDown HN65.out true).below (by repeat (first | (with_reducible exact Below.refl _ _) | (with_reducible exact bl_mm) | (with_reducible refine bl_dr ?_) | (with_reducible refine bl_drN ?_ _) | (with_reducible refine bl_al ?_ _) | (with_reducible refine bl_more ?_ _ _))), (by repeat (first | (with_reducible exact Ext.refl _ _) | (with_reducible refine ex_dr ?_) | (with_reducible refine ex_drN ?_ _) | (with_reducible refine ex_al ?_ _) | (with_reducible refine ex_more ?_ _ _) | (with_reducible refine Ext.set ?_ _ _ _ (by first | exact rfl | exact .inl rfl | exact .inr rfl))))⟩
end Go.Proofs.Ytgpcgndmdkgbdaa

/- What a disk's calls do: what is done. -/
namespace Go.Proofs.Ytgpcgndmdkgbdaa
open Go.RowKit

def DS.burn (s : DS) : DS := if 0 < s.fuse then { s with fuse := s.fuse - 1 } else s
def DS.sync (s : DS) (i : Nat) : DS := { s with fs := s.fs.set i ⟨(s.fs.getD i ⟨[], 0⟩).b, (s.fs.getD i ⟨[], 0⟩).b.length⟩ }
def DS.app (s : DS) (i : Nat) (l : List UInt8) : DS := { s with fs := s.fs.set i ⟨(s.fs.getD i ⟨[], 0⟩).b ++ l, (s.fs.getD i ⟨[], 0⟩).synced⟩, room := s.room - l.length }
theorem Dk.setSync {w : World} {d : Nat} {G : Nat → Prop} {s : DS} (h : Dk w d G s) (hn : s.fs.length ≤ 65) (i : Nat) (hi : i < s.fs.length) (k : Nat) :
    Dk (w.setCell ⟨d, i * 2 + 1, none⟩ (.int .i64 (k : Int))) d G { s with fs := s.fs.set i ⟨s.fs[i].b, k⟩ } := by
  obtain ⟨g, ⟨v, h1, h2, h3, h4⟩, hput⟩ := h.take i hi
  have hE : Ext (fun b => b = d) w (w.setCell ⟨d, i * 2 + 1, none⟩ (.int .i64 (k : Int))) := (by repeat (first | (with_reducible exact Ext.refl _ _) | (with_reducible refine ex_dr ?_) | (with_reducible refine ex_drN ?_ _) | (with_reducible refine ex_al ?_ _) | (with_reducible refine ex_more ?_ _ _) | (with_reducible refine Ext.set ?_ _ _ _ (by first | exact rfl | exact .inl rfl | exact .inr rfl))))
  refine hput _ _ g _ _ _ _ (fun _ h _ => h) (hE.mono (fun _ _ h => .inl h)) (fun o ho h1 h2 => cell_off (fun e => h2 e.symm)) (blk_set h.blk) ((cell_off (by omega)).trans h.n) ((cell_off (by omega)).trans h.room) ((cell_off (by omega)).trans h.fuse) ((cell_off (by omega)).trans h.down) ?_ (.inl rfl) hn
  refine ⟨v, (cell_off (by omega)).trans h1, World.cell?_setCell_same (h := h2) .., ?_, h4.imp id (fun h => ⟨h.1, by simpa using h.2⟩)⟩
  by_cases hc : capOf v = 0
  · exact h3.empty hc
  · refine h3.step (fun cur hcur => ?_) (fun b hb _ => hb.elim)
    have hne : g ≠ d := fun e => hc (spine_not_d h.blk (e ▸ h3))
    rw [Below.heap_setCell _ _ _ _ hne]; exact hcur
theorem sync_eq {s : DS} {i : Nat} (hi : i < s.fs.length) : s.sync i = { s with fs := s.fs.set i ⟨s.fs[i].b, s.fs[i].b.length⟩ } := by unfold DS.sync; simp [hi]

theorem burn_yes {s : DS} (h : 0 < s.fuse) : s.burn = { s with fuse := s.fuse - 1 } := if_pos h
theorem burn_no {s : DS} (h : s.fuse < 0) : s.burn = s := if_neg (by omega)

set_option maxHeartbeats 1000000 in
theorem sync_burn {w : World} {d : Nat} {G : Nat → Prop} {s : DS} {i : Nat} {C : Int}  (h : Dk w d G s) (hs : s.Ok C) (hC : C ≤ 1000000000000) (hdn : s.down = false) (hi : i < s.fs.length) (hf : 0 < s.fuse)  :
    Calls Try.prog 28 #[.pointer (some ⟨d, 0, none⟩), .int .i64 i] w fun e w' => e = .returned (.int .i64 0) ∧ Dk w' d G (s.burn.sync i) ∧ Ext (fun b => b = d) w w' := by
  have h1 := h.down
  have h2 := h.room
  have k3 := h.fuse
  have f1 := h.frz 132
  have f2 := h.frz (i * 2 + 1)
  obtain ⟨g, ⟨v, c1, c2, h3, h4⟩, _⟩ := h.take i hi
  obtain ⟨A, c, rfl, h5, h6⟩ := h3.form
  have hd := h.lt
  rw [hdn] at h1
  have hn : 1 ≤ s.fs.length := by omega
  have hm : True := trivial
  have i1 : (0 : Int) ≤ (i : Int) := by omega
  have i2 : (i : Int) < 65 := by have := hs.n2; omega
  have j1 : (s.fuse == 0) = false := by simp; omega
  have j3 : 0 < s.fuse := hf
  have j2 : IntKind.i64.wrap (s.fuse - 1) = s.fuse - 1 := IntWalk.i64_in _ (by have := hs.fuse1; have := hs.fuse2; omega)
  obtain ⟨x0, x1, x2, x3, x4, x5, x6, x7, x8, x9, x10, x11, x12, x13, x14, x15⟩ := offs hi hs.n2
  have HD := hid h
  have HN := hid hn
  have HI := hid hi
  have HN65 := hid hs.n2
  have HO := hid hs
  have HC := hid hC
  have HM := hid hm
  have HF := hid hf
  clear h hn hdn h3 h4 h5 h6 hf hs hC hm
  have HO2 : Hid (0 < s.fuse → DS.Ok { s with fuse := s.fuse - 1 } C) := hid (fun hp => ⟨HO.out.room, HO.out.tot, HO.out.n1, HO.out.n2, HO.out.sync, by show -1 ≤ s.fuse - 1; omega, by have := HO.out.fuse2; show s.fuse - 1 ≤ _; omega⟩)
  go_enter Try.func28, Try.ntmps28
  go_wp2_with (first | (go_at_call 57; go_in) | (go_at_call 35; refine (made_any (HD.out.below (by repeat (first | (with_reducible exact Below.refl _ _) | (with_reducible exact bl_mm) | (with_reducible refine bl_dr ?_) | (with_reducible refine bl_drN ?_ _) | (with_reducible refine bl_al ?_ _) | (with_reducible refine bl_more ?_ _ _)))) HN.out).mono ?_; rintro e w1 ⟨rfl, hb1⟩; obtain ⟨ex, dx, rfl⟩ := more_of hb1; clear hb1) | (go_at_call 32; refine (has_yes (HD.out.below (by repeat (first | (with_reducible exact Below.refl _ _) | (with_reducible exact bl_mm) | (with_reducible refine bl_dr ?_) | (with_reducible refine bl_drN ?_ _) | (with_reducible refine bl_al ?_ _) | (with_reducible refine bl_more ?_ _ _)))) i HI.out).mono ?_; rintro e w1 ⟨rfl, hb1⟩; obtain ⟨ex, dx, rfl⟩ := more_of hb1; clear hb1) | (go_at_call 56; go_in) | (go_at_call 58; go_in))
  go_ret
  exact ⟨rfl, by rw [burn_yes HF.out, sync_eq (s := { s with fuse := s.fuse - 1 }) HI.out]; exact ((HD.out.setFuse HN65.out (s.fuse - 1)).setSync HN65.out i HI.out _).below (by repeat (first | (with_reducible exact Below.refl _ _) | (with_reducible exact bl_mm) | (with_reducible refine bl_dr ?_) | (with_reducible refine bl_drN ?_ _) | (with_reducible refine bl_al ?_ _) | (with_reducible refine bl_more ?_ _ _))), (by repeat (first | (with_reducible exact Ext.refl _ _) | (with_reducible refine ex_dr ?_) | (with_reducible refine ex_drN ?_ _) | (with_reducible refine ex_al ?_ _) | (with_reducible refine ex_more ?_ _ _) | (with_reducible refine Ext.set ?_ _ _ _ (by first | exact rfl | exact .inl rfl | exact .inr rfl))))⟩
set_option maxHeartbeats 1000000 in
theorem sync_bare {w : World} {d : Nat} {G : Nat → Prop} {s : DS} {i : Nat} {C : Int}  (h : Dk w d G s) (hs : s.Ok C) (hC : C ≤ 1000000000000) (hdn : s.down = false) (hi : i < s.fs.length) (hf : s.fuse < 0)  :
    Calls Try.prog 28 #[.pointer (some ⟨d, 0, none⟩), .int .i64 i] w fun e w' => e = .returned (.int .i64 0) ∧ Dk w' d G (s.burn.sync i) ∧ Ext (fun b => b = d) w w' := by
  have h1 := h.down
  have h2 := h.room
  have k3 := h.fuse
  have f1 := h.frz 132
  have f2 := h.frz (i * 2 + 1)
  obtain ⟨g, ⟨v, c1, c2, h3, h4⟩, _⟩ := h.take i hi
  obtain ⟨A, c, rfl, h5, h6⟩ := h3.form
  have hd := h.lt
  rw [hdn] at h1
  have hn : 1 ≤ s.fs.length := by omega
  have hm : True := trivial
  have i1 : (0 : Int) ≤ (i : Int) := by omega
  have i2 : (i : Int) < 65 := by have := hs.n2; omega
  have j1 : (s.fuse == 0) = false := by simp; omega
  have j3 : s.fuse < 0 := hf
  have j2 : IntKind.i64.wrap (s.fuse - 1) = s.fuse - 1 := IntWalk.i64_in _ (by have := hs.fuse1; have := hs.fuse2; omega)
  obtain ⟨x0, x1, x2, x3, x4, x5, x6, x7, x8, x9, x10, x11, x12, x13, x14, x15⟩ := offs hi hs.n2
  have HD := hid h
  have HN := hid hn
  have HI := hid hi
  have HN65 := hid hs.n2
  have HO := hid hs
  have HC := hid hC
  have HM := hid hm
  have HF := hid hf
  clear h hn hdn h3 h4 h5 h6 hf hs hC hm
  have HO2 : Hid (0 < s.fuse → DS.Ok { s with fuse := s.fuse - 1 } C) := hid (fun hp => ⟨HO.out.room, HO.out.tot, HO.out.n1, HO.out.n2, HO.out.sync, by show -1 ≤ s.fuse - 1; omega, by have := HO.out.fuse2; show s.fuse - 1 ≤ _; omega⟩)
  go_enter Try.func28, Try.ntmps28
  go_wp2_with (first | (go_at_call 57; go_in) | (go_at_call 35; refine (made_any (HD.out.below (by repeat (first | (with_reducible exact Below.refl _ _) | (with_reducible exact bl_mm) | (with_reducible refine bl_dr ?_) | (with_reducible refine bl_drN ?_ _) | (with_reducible refine bl_al ?_ _) | (with_reducible refine bl_more ?_ _ _)))) HN.out).mono ?_; rintro e w1 ⟨rfl, hb1⟩; obtain ⟨ex, dx, rfl⟩ := more_of hb1; clear hb1) | (go_at_call 32; refine (has_yes (HD.out.below (by repeat (first | (with_reducible exact Below.refl _ _) | (with_reducible exact bl_mm) | (with_reducible refine bl_dr ?_) | (with_reducible refine bl_drN ?_ _) | (with_reducible refine bl_al ?_ _) | (with_reducible refine bl_more ?_ _ _)))) i HI.out).mono ?_; rintro e w1 ⟨rfl, hb1⟩; obtain ⟨ex, dx, rfl⟩ := more_of hb1; clear hb1) | (go_at_call 56; go_in) | (go_at_call 58; go_in))
  go_ret
  exact ⟨rfl, by rw [burn_no HF.out, sync_eq HI.out]; exact (HD.out.setSync HN65.out i HI.out _).below (by repeat (first | (with_reducible exact Below.refl _ _) | (with_reducible exact bl_mm) | (with_reducible refine bl_dr ?_) | (with_reducible refine bl_drN ?_ _) | (with_reducible refine bl_al ?_ _) | (with_reducible refine bl_more ?_ _ _))), (by repeat (first | (with_reducible exact Ext.refl _ _) | (with_reducible refine ex_dr ?_) | (with_reducible refine ex_drN ?_ _) | (with_reducible refine ex_al ?_ _) | (with_reducible refine ex_more ?_ _ _) | (with_reducible refine Ext.set ?_ _ _ _ (by first | exact rfl | exact .inl rfl | exact .inr rfl))))⟩
set_option maxHeartbeats 1000000 in
theorem cut_burn {w : World} {d : Nat} {G : Nat → Prop} {s : DS} {i : Nat} {C : Int} {n : Nat} (h : Dk w d G s) (hs : s.Ok C) (hC : C ≤ 1000000000000) (hdn : s.down = false) (hi : i < s.fs.length) (hf : 0 < s.fuse) (hhigh : ¬ (s.fs[i].b.length : Int) < (n : Int)) :
    Calls Try.prog 36 #[.pointer (some ⟨d, 0, none⟩), .int .i64 i, .int .i64 n] w fun e w' => e = .returned (.int .i64 0) ∧ Dk w' d G (s.burn.keep i n) ∧ Ext (fun b => b = d) w w' := by
  have h1 := h.down
  have h2 := h.room
  have k3 := h.fuse
  have f1 := h.frz 132
  have f2 := h.frz (i * 2 + 1)
  obtain ⟨g, ⟨v, c1, c2, h3, h4⟩, _⟩ := h.take i hi
  obtain ⟨A, c, rfl, h5, h6⟩ := h3.form
  have hd := h.lt
  rw [hdn] at h1
  have hn : 1 ≤ s.fs.length := by omega
  have hm : n ≤ s.fs[i].b.length := by omega
  have i1 : (0 : Int) ≤ (i : Int) := by omega
  have i2 : (i : Int) < 65 := by have := hs.n2; omega
  have j1 : (s.fuse == 0) = false := by simp; omega
  have j3 : 0 < s.fuse := hf
  have j2 : IntKind.i64.wrap (s.fuse - 1) = s.fuse - 1 := IntWalk.i64_in _ (by have := hs.fuse1; have := hs.fuse2; omega)
  obtain ⟨x0, x1, x2, x3, x4, x5, x6, x7, x8, x9, x10, x11, x12, x13, x14, x15⟩ := offs hi hs.n2
  have HD := hid h
  have HN := hid hn
  have HI := hid hi
  have HN65 := hid hs.n2
  have HO := hid hs
  have HC := hid hC
  have HM := hid hm
  have HF := hid hf
  clear h hn hdn h3 h4 h5 h6 hf hs hC hm
  have HO2 : Hid (0 < s.fuse → DS.Ok { s with fuse := s.fuse - 1 } C) := hid (fun hp => ⟨HO.out.room, HO.out.tot, HO.out.n1, HO.out.n2, HO.out.sync, by show -1 ≤ s.fuse - 1; omega, by have := HO.out.fuse2; show s.fuse - 1 ≤ _; omega⟩)
  go_enter Try.func36, Try.ntmps36
  go_wp2_with (first | ((with_reducible refine wp_region_plan (id := 1) (.fin [(false, 0), (false, 1), (false, 2), (false, 3), (false, 4), (false, 5), (false, 6), (false, 7), (false, 8), (false, 9), (false, 10)]) ?_ ?_ ?_ ?_ ?_ ?_); kernel_rfl; kernel_rfl; kernel_rfl; kernel_rfl; (intro c a d v w h; cases d <;> exact h)) | (with_reducible refine wpPlan_eff ?_) | (with_reducible refine wpPlan_fin ?_) | (with_reducible refine wpPlan_two ?_) | (with_reducible refine wpOpPair ?_ ?_) | ((with_reducible apply wpPre_keep); rfl; intro K' hK'; go_simp; refine hK' _ _ ?_; intro f hf; clear hK' K') | ((with_reducible apply wpPre_drop); rfl; intro K' hK'; go_simp; refine hK' _ _ ?_; intro f; clear hK' K') | (with_reducible refine wpPre_nil ?_) | ((with_reducible apply wpOp_list); rfl) | (with_reducible refine heldPair ?_ ?_) | ((with_reducible refine heldH_no ?_ ?_); rfl) | (with_reducible refine heldH_yes ?_ ?_) | (with_reducible exact heldH_nil) | (unfold YAt; go_simp; done) | (go_at_call 57; go_in) | (go_at_call 35; refine (made_any (HD.out.below (by repeat (first | (with_reducible exact Below.refl _ _) | (with_reducible exact bl_mm) | (with_reducible refine bl_dr ?_) | (with_reducible refine bl_drN ?_ _) | (with_reducible refine bl_al ?_ _) | (with_reducible refine bl_more ?_ _ _)))) HN.out).mono ?_; rintro e w1 ⟨rfl, hb1⟩; obtain ⟨ex, dx, rfl⟩ := more_of hb1; clear hb1) | (go_at_call 32; refine (has_yes (HD.out.below (by repeat (first | (with_reducible exact Below.refl _ _) | (with_reducible exact bl_mm) | (with_reducible refine bl_dr ?_) | (with_reducible refine bl_drN ?_ _) | (with_reducible refine bl_al ?_ _) | (with_reducible refine bl_more ?_ _ _)))) i HI.out).mono ?_; rintro e w1 ⟨rfl, hb1⟩; obtain ⟨ex, dx, rfl⟩ := more_of hb1; clear hb1) | (go_at_call 65; go_in) | (go_at_call 66; go_in) | (go_at_call 39; refine (keep_any (C := C) ((HD.out.setFuse HN65.out (s.fuse - 1)).below (by repeat (first | (with_reducible exact Below.refl _ _) | (with_reducible exact bl_mm) | (with_reducible refine bl_dr ?_) | (with_reducible refine bl_drN ?_ _) | (with_reducible refine bl_al ?_ _) | (with_reducible refine bl_more ?_ _ _)))) (HO2.out HF.out) HC.out i HI.out n HM.out).mono ?_; rintro e w3 ⟨rfl, hq, he⟩; have HQ := hid hq; have HE := hid he; clear hq he))
  go_ret
  exact ⟨rfl, by rw [burn_yes HF.out]; exact HQ.out, Ext.trans (by repeat (first | (with_reducible exact Ext.refl _ _) | (with_reducible refine ex_dr ?_) | (with_reducible refine ex_drN ?_ _) | (with_reducible refine ex_al ?_ _) | (with_reducible refine ex_more ?_ _ _) | (with_reducible refine Ext.set ?_ _ _ _ (by first | exact rfl | exact .inl rfl | exact .inr rfl)))) HE.out (fun _ _ h => h)⟩
set_option maxHeartbeats 1000000 in
theorem cut_bare {w : World} {d : Nat} {G : Nat → Prop} {s : DS} {i : Nat} {C : Int} {n : Nat} (h : Dk w d G s) (hs : s.Ok C) (hC : C ≤ 1000000000000) (hdn : s.down = false) (hi : i < s.fs.length) (hf : s.fuse < 0) (hhigh : ¬ (s.fs[i].b.length : Int) < (n : Int)) :
    Calls Try.prog 36 #[.pointer (some ⟨d, 0, none⟩), .int .i64 i, .int .i64 n] w fun e w' => e = .returned (.int .i64 0) ∧ Dk w' d G (s.burn.keep i n) ∧ Ext (fun b => b = d) w w' := by
  have h1 := h.down
  have h2 := h.room
  have k3 := h.fuse
  have f1 := h.frz 132
  have f2 := h.frz (i * 2 + 1)
  obtain ⟨g, ⟨v, c1, c2, h3, h4⟩, _⟩ := h.take i hi
  obtain ⟨A, c, rfl, h5, h6⟩ := h3.form
  have hd := h.lt
  rw [hdn] at h1
  have hn : 1 ≤ s.fs.length := by omega
  have hm : n ≤ s.fs[i].b.length := by omega
  have i1 : (0 : Int) ≤ (i : Int) := by omega
  have i2 : (i : Int) < 65 := by have := hs.n2; omega
  have j1 : (s.fuse == 0) = false := by simp; omega
  have j3 : s.fuse < 0 := hf
  have j2 : IntKind.i64.wrap (s.fuse - 1) = s.fuse - 1 := IntWalk.i64_in _ (by have := hs.fuse1; have := hs.fuse2; omega)
  obtain ⟨x0, x1, x2, x3, x4, x5, x6, x7, x8, x9, x10, x11, x12, x13, x14, x15⟩ := offs hi hs.n2
  have HD := hid h
  have HN := hid hn
  have HI := hid hi
  have HN65 := hid hs.n2
  have HO := hid hs
  have HC := hid hC
  have HM := hid hm
  have HF := hid hf
  clear h hn hdn h3 h4 h5 h6 hf hs hC hm
  have HO2 : Hid (0 < s.fuse → DS.Ok { s with fuse := s.fuse - 1 } C) := hid (fun hp => ⟨HO.out.room, HO.out.tot, HO.out.n1, HO.out.n2, HO.out.sync, by show -1 ≤ s.fuse - 1; omega, by have := HO.out.fuse2; show s.fuse - 1 ≤ _; omega⟩)
  go_enter Try.func36, Try.ntmps36
  go_wp2_with (first | ((with_reducible refine wp_region_plan (id := 1) (.fin [(false, 0), (false, 1), (false, 2), (false, 3), (false, 4), (false, 5), (false, 6), (false, 7), (false, 8), (false, 9), (false, 10)]) ?_ ?_ ?_ ?_ ?_ ?_); kernel_rfl; kernel_rfl; kernel_rfl; kernel_rfl; (intro c a d v w h; cases d <;> exact h)) | (with_reducible refine wpPlan_eff ?_) | (with_reducible refine wpPlan_fin ?_) | (with_reducible refine wpPlan_two ?_) | (with_reducible refine wpOpPair ?_ ?_) | ((with_reducible apply wpPre_keep); rfl; intro K' hK'; go_simp; refine hK' _ _ ?_; intro f hf; clear hK' K') | ((with_reducible apply wpPre_drop); rfl; intro K' hK'; go_simp; refine hK' _ _ ?_; intro f; clear hK' K') | (with_reducible refine wpPre_nil ?_) | ((with_reducible apply wpOp_list); rfl) | (with_reducible refine heldPair ?_ ?_) | ((with_reducible refine heldH_no ?_ ?_); rfl) | (with_reducible refine heldH_yes ?_ ?_) | (with_reducible exact heldH_nil) | (unfold YAt; go_simp; done) | (go_at_call 57; go_in) | (go_at_call 35; refine (made_any (HD.out.below (by repeat (first | (with_reducible exact Below.refl _ _) | (with_reducible exact bl_mm) | (with_reducible refine bl_dr ?_) | (with_reducible refine bl_drN ?_ _) | (with_reducible refine bl_al ?_ _) | (with_reducible refine bl_more ?_ _ _)))) HN.out).mono ?_; rintro e w1 ⟨rfl, hb1⟩; obtain ⟨ex, dx, rfl⟩ := more_of hb1; clear hb1) | (go_at_call 32; refine (has_yes (HD.out.below (by repeat (first | (with_reducible exact Below.refl _ _) | (with_reducible exact bl_mm) | (with_reducible refine bl_dr ?_) | (with_reducible refine bl_drN ?_ _) | (with_reducible refine bl_al ?_ _) | (with_reducible refine bl_more ?_ _ _)))) i HI.out).mono ?_; rintro e w1 ⟨rfl, hb1⟩; obtain ⟨ex, dx, rfl⟩ := more_of hb1; clear hb1) | (go_at_call 65; go_in) | (go_at_call 66; go_in) | (go_at_call 39; refine (keep_any (C := C) (HD.out.below (by repeat (first | (with_reducible exact Below.refl _ _) | (with_reducible exact bl_mm) | (with_reducible refine bl_dr ?_) | (with_reducible refine bl_drN ?_ _) | (with_reducible refine bl_al ?_ _) | (with_reducible refine bl_more ?_ _ _)))) HO.out HC.out i HI.out n HM.out).mono ?_; rintro e w3 ⟨rfl, hq, he⟩; have HQ := hid hq; have HE := hid he; clear hq he))
  go_ret
  exact ⟨rfl, by rw [burn_no HF.out]; exact HQ.out, Ext.trans (by repeat (first | (with_reducible exact Ext.refl _ _) | (with_reducible refine ex_dr ?_) | (with_reducible refine ex_drN ?_ _) | (with_reducible refine ex_al ?_ _) | (with_reducible refine ex_more ?_ _ _) | (with_reducible refine Ext.set ?_ _ _ _ (by first | exact rfl | exact .inl rfl | exact .inr rfl)))) HE.out (fun _ _ h => h)⟩
end Go.Proofs.Ytgpcgndmdkgbdaa

/- What a disk's calls do: appending. -/
namespace Go.Proofs.Ytgpcgndmdkgbdaa
open Go.RowKit

theorem app33 {K : Nat → Prop} {g : Nat} {w : World} {v x : Value} {xs ys : List UInt8} (h : u8E.Spine 5 K g w v xs) (hy : u8E.Src K w x ys) (hKg : ∀ b, K b → b < w.heap.size → b ≠ g) (hlen : xs.length + ys.length ≤ 4294967296) :
    ∃ v' w' g', (Builtin.append_ #[30, 30] 30 #[v, x]).run Try.prog w = .ok v' w' ∧ u8E.Spine 5 (fun b => K b ∧ b < w.heap.size) g' w' v' (xs ++ ys) ∧ Ext (fun b => b = g ∧ capOf v ≠ 0) w w' ∧ Grew g w w' v v' g' := by
  obtain ⟨i0, hi, hz0, hz1, hz2⟩ := info_parts info5
  exact h.append 30 30 30 i0 _ Try.underlying30 ⟨_, Try.underlying30⟩ hi hz0 hz1 rfl (by decide) hy hKg hlen (by rw [hz2]; decide)
theorem wpList_app33 {w : World} {ops : Array Oper} {rest : List Oper} {o : Oper} {a : Act} {Q : Exit → Act → World → Prop} {K : Nat → Prop} {g : Nat} {xs ys : List UInt8} {v x : Value}
    (hg : o.guard = none) (s x' : Operand) (hop : o.op = Op.call { callee := Callee.builtin Builtin.append, args := #[s, x'], argTypes := #[30, 30] }) (hty : o.type = 30)
    (hv : a.eval s = v) (hx : a.eval x' = x) (hs : u8E.Spine 5 K g w v xs) (hy : u8E.Src K w x ys) (hKg : ∀ b, K b → b < w.heap.size → b ≠ g) (hlen : xs.length + ys.length ≤ 4294967296)
    (h : ∀ v' w' g', u8E.Spine 5 (fun b => K b ∧ b < w.heap.size) g' w' v' (xs ++ ys) → Ext (fun b => b = g ∧ capOf v ≠ 0) w w' → Grew g w w' v v' g' → wpList Try.prog ops Q rest (a.put o.dst v') w') :
    wpList Try.prog ops Q (o :: rest) a w := by
  subst hv; subst hx
  obtain ⟨v', w', g', hrun, h1, h2, h3⟩ := app33 hs hy hKg hlen
  exact wpList_append_run hg s x' 30 30 hop (by rw [hty]; exact hrun) (h v' w' g' h1 h2 h3)
theorem src_any {K K' : Nat → Prop} {w : World} {v : Value} {l : List UInt8} (h : u8E.Src K w v l) : u8E.Src K' w v l := h
theorem app_eq {s : DS} {i : Nat} (hi : i < s.fs.length) (l : List UInt8) : s.app i l = { s with fs := s.fs.set i ⟨s.fs[i].b ++ l, s.fs[i].synced⟩, room := s.room - l.length } := by unfold DS.app; simp [hi]

set_option maxHeartbeats 1000000 in
theorem doApp {w : World} {d : Nat} {G : Nat → Prop} {s : DS} {i bB bD : Nat} {C : Int} {B : Option Addr} {cb : Nat} {l : List UInt8} {K : Nat → Prop} (h : Dk w d G s) (hs : s.Ok C) (hC : C ≤ 1000000000) (hi : i < s.fs.length) (hl : u8E.Row K w (.slice B l.length cb) l) (hfit : (l.length : Int) ≤ s.room)
    (hB : w.heap[bB]? = some (.cells #[.slice B l.length cb] 30 (0, 0))) (hD : w.heap[bD]? = some (.cells #[.pointer (some ⟨d, 0, none⟩)] 24 (0, 0))) :
    Calls Try.prog 68 #[.pointer (some ⟨d, i * 2, none⟩), .pointer (some ⟨bB, 0, none⟩), .pointer (some ⟨bD, 0, none⟩)] w fun e w' => e = .returned (.tuple #[]) ∧ Dk w' d (fun b => G b ∨ w.heap.size ≤ b) (s.app i l) ∧ Ext (fun b => b = d ∨ G b) w w' := by
  have h2 := h.room
  have f1 := h.frz 131
  have f2 := h.frz (i * 2)
  obtain ⟨g, ⟨v, c1, c3, h3, h4⟩, hput⟩ := h.take i hi
  obtain ⟨A, c, rfl, h5, h6⟩ := h3.form
  have hd := h.lt
  obtain ⟨dcur, hdb, _⟩ := h.blk
  have b1 : w.cell? ⟨bB, 0, none⟩ = some (.slice B l.length cb) := cell_blk hB 0
  have b2 : w.cell? ⟨bD, 0, none⟩ = some (.pointer (some ⟨d, 0, none⟩)) := cell_blk hD 0
  have hbd : (bB = d) = False := by simp only [eq_iff_iff, iff_false]; rintro rfl; rw [hdb] at hB; cases hB
  have hbd' : (d = bB) = False := by simp only [eq_iff_iff, iff_false]; rintro rfl; rw [hdb] at hB; cases hB
  have hdd : (bD = d) = False := by simp only [eq_iff_iff, iff_false]; rintro rfl; rw [hdb] at hD; cases hD
  have hdd' : (d = bD) = False := by simp only [eq_iff_iff, iff_false]; rintro rfl; rw [hdb] at hD; cases hD
  have HDG : Hid (¬ (d = g ∧ capOf (.slice A s.fs[i].b.length c) ≠ 0)) := hid (fun e => e.2 (spine_not_d h.blk (e.1 ▸ h3)))
  have HBG : Hid (¬ (bB = g ∧ capOf (.slice A s.fs[i].b.length c) ≠ 0)) := hid (fun e => by obtain ⟨cur, hcur⟩ := h3.type e.2; rw [← e.1, hB] at hcur; cases hcur)
  have HCG : Hid (¬ (bD = g ∧ capOf (.slice A s.fs[i].b.length c) ≠ 0)) := hid (fun e => by obtain ⟨cur, hcur⟩ := h3.type e.2; rw [← e.1, hD] at hcur; cases hcur)
  have hlen := hs.len (List.getElem_mem hi)
  have hrc := hs.roomC
  have HLEN := hid (show s.fs[i].b.length + l.length ≤ 4294967296 by omega)
  have w1 : IntKind.i64.wrap (s.room - (l.length : Int)) = s.room - (l.length : Int) := IntWalk.i64_in _ (by omega)
  obtain ⟨x0, x1, x2, x3, x4, x5, x6, x7, x8, x9, x10, x11, x12, x13, x14, x15⟩ := offs hi hs.n2
  have HP := hid hput
  have H3 := hid h3
  have HD := hid h
  have HN2 := hid hs.n2
  have HL := hid hl
  have HG := hid h4
  have hn0 := h.n
  have hn1 := h.fuse
  have hn2 := h.down
  clear h hs h3 h4 hput h5 h6 hl hB hD hdb hlen hrc hfit hC
  go_enter Try.func68, Try.ntmps68
  go_wp2_with (first | ((with_reducible refine wp_region_plan (id := 0) (.eff [(true, 0), (false, 1), (false, 2), (false, 3), (false, 4), (false, 5)] 6 [0] (.eff [(false, 7), (false, 8)] 9 [] (.fin []))) ?_ ?_ ?_ ?_ ?_ ?_); kernel_rfl; kernel_rfl; kernel_rfl; kernel_rfl; (intro c a d v w h; cases d <;> exact h)) | ((with_reducible refine wp_region_plan (id := 1) (.eff [(false, 0), (false, 1), (false, 2), (false, 3), (false, 4), (false, 5), (false, 6), (false, 7), (false, 8)] 9 [] (.fin [])) ?_ ?_ ?_ ?_ ?_ ?_); kernel_rfl; kernel_rfl; kernel_rfl; kernel_rfl; (intro c a d v w h; cases d <;> exact h)) | (with_reducible refine wpPlan_eff ?_) | (with_reducible refine wpPlan_fin ?_) | (with_reducible refine wpPlan_two ?_) | (with_reducible refine wpOpPair ?_ ?_) | ((with_reducible apply wpPre_keep); rfl; intro K' hK'; go_simp; refine hK' _ _ ?_; intro f hf; clear hK' K') | ((with_reducible apply wpPre_drop); rfl; intro K' hK'; go_simp; refine hK' _ _ ?_; intro f; clear hK' K') | (with_reducible refine wpPre_nil ?_) | ((with_reducible apply wpOp_list); rfl) | (with_reducible refine heldPair ?_ ?_) | ((with_reducible refine heldH_no ?_ ?_); rfl) | (with_reducible refine heldH_yes ?_ ?_) | (with_reducible exact heldH_nil) | (unfold YAt; go_simp; done) | (at_builtin; refine wpList_app33 (K := fun _ => False) (g := g) (xs := s.fs[i].b) (ys := l) (by rfl) (.tmp 8) (.tmp 9) (by rfl) (by rfl) (by rfl) (by rfl) (H3.out.below (by repeat (first | (with_reducible exact Below.refl _ _) | (with_reducible exact bl_mm) | (with_reducible refine bl_dr ?_) | (with_reducible refine bl_drN ?_ _) | (with_reducible refine bl_al ?_ _) | (with_reducible refine bl_more ?_ _ _)))) (src_any (HL.out.src.below (by repeat (first | (with_reducible exact Below.refl _ _) | (with_reducible exact bl_mm) | (with_reducible refine bl_dr ?_) | (with_reducible refine bl_drN ?_ _) | (with_reducible refine bl_al ?_ _) | (with_reducible refine bl_more ?_ _ _))))) (fun b hb _ => hb.elim) HLEN.out ?_; intro v2 w2 g2 hs2 he2 hg2; obtain ⟨A2, c2, rfl, _, _⟩ := hs2.form; have d1 := ext_cell he2 h2 HDG.out; have d2 := ext_cell he2 c1 HDG.out; have d3 := ext_frz he2 hd f1 HDG.out; have d4 := ext_frz he2 hd f2 HDG.out; have d5 := ext_cell he2 b1 HBG.out; have d6 := ext_cell he2 b2 HCG.out; have hd2 : d < w2.heap.size := Nat.lt_of_lt_of_le hd he2.size; have HS2 := hid hs2; have HE2 := hid he2; have HG2 := hid hg2; clear hs2 he2 hg2))
  go_end0
  have hn65 := HN2.out
  have he2 : Ext (fun b => b = g ∧ capOf (.slice A s.fs[i].b.length c) ≠ 0) w w2 := ⟨HE2.out.os, HE2.out.tape, HE2.out.output, HE2.out.size, HE2.out.block⟩
  have hlen2 : (s.fs[i].b ++ l).length = s.fs[i].b.length + l.length := by simp
  have hE1 : Ext (fun b => b = d ∨ b = g) w2 (((w2.setCell ⟨d, i * 2, none⟩ (.slice A2 (s.fs[i].b.length + l.length) c2)).setCell ⟨d, 131, none⟩ (.int .i64 (s.room - (l.length : Int)))).drew) := (by repeat (first | (with_reducible exact Ext.refl _ _) | (with_reducible refine ex_dr ?_) | (with_reducible refine ex_drN ?_ _) | (with_reducible refine ex_al ?_ _) | (with_reducible refine ex_more ?_ _ _) | (with_reducible refine Ext.set ?_ _ _ _ (by first | exact rfl | exact .inl rfl | exact .inr rfl))))
  have hE : Ext (fun b => b = d ∨ b = g) w (((w2.setCell ⟨d, i * 2, none⟩ (.slice A2 (s.fs[i].b.length + l.length) c2)).setCell ⟨d, 131, none⟩ (.int .i64 (s.room - (l.length : Int)))).drew) := (he2.mono (T := fun b => b = d ∨ b = g) (fun x _ h => .inr h.1)).trans hE1 (fun _ _ h => h)
  have hblk2 : Blk w2 d := by
    obtain ⟨cur, h1, h2⟩ := HD.out.blk
    exact ⟨cur, (he2.block d hd HDG.out).trans h1, h2⟩
  have hw2 := he2.size
  refine ⟨rfl, ?_, (he2.mono (T := fun b => b = d ∨ G b) (fun x hx h => ?_)).trans ((by repeat (first | (with_reducible exact Ext.refl _ _) | (with_reducible refine ex_dr ?_) | (with_reducible refine ex_drN ?_ _) | (with_reducible refine ex_al ?_ _) | (with_reducible refine ex_more ?_ _ _) | (with_reducible refine Ext.set ?_ _ _ _ (by first | exact rfl | exact .inl rfl | exact .inr rfl)))) : Ext (fun b => b = d) w2 _) (fun _ _ h => .inl h)⟩
  · rw [app_eq hi]
    refine HP.out _ _ g2 _ _ _ _ (fun _ h _ => .inl h) hE (fun o ho k1 k2 => ?_) (blk_set (blk_set hblk2)) ?_ ?_ ?_ ?_ ?_ ?_ HN2.out
    · exact ((cell_off (by omega)).trans (cell_off (fun e => k1 e.symm))).trans (World.cell?_of_block (w := w) (he2.block d hd HDG.out))
    · exact ((cell_off (by omega)).trans (cell_off (by omega))).trans (ext_cell he2 hn0 HDG.out)
    · exact World.cell?_setCell_same (h := (cell_off (by omega)).trans d1) ..
    · exact ((cell_off (by omega)).trans (cell_off (by omega))).trans (ext_cell he2 hn1 HDG.out)
    · exact ((cell_off (by omega)).trans (cell_off (by omega))).trans (ext_cell he2 hn2 HDG.out)
    · refine ⟨.slice A2 (s.fs[i].b.length + l.length) c2, (cell_off (by omega)).trans (World.cell?_setCell_same (h := d2) ..), ((cell_off (by omega)).trans (cell_off (by omega))).trans (ext_cell he2 c3 HDG.out), ?_, ?_⟩
      · have hs := HS2.out
        rw [hlen2] at hs
        by_cases hc : c2 = 0
        · exact hs.empty hc
        · exact hs.step (fun cur hcur => (((by repeat (first | (with_reducible exact Ext.refl _ _) | (with_reducible refine ex_dr ?_) | (with_reducible refine ex_drN ?_ _) | (with_reducible refine ex_al ?_ _) | (with_reducible refine ex_more ?_ _ _) | (with_reducible refine Ext.set ?_ _ _ _ (by first | exact rfl | exact .inl rfl | exact .inr rfl)))) : Ext (fun b => b = d) w2 _).block g2 (Array.getElem?_eq_some_iff.1 hcur).1 (fun e => by have e' : g2 = d := e; have hs' := hs; rw [e'] at hs'; exact hc (spine_not_d hblk2 hs'))).trans hcur) (fun b hb _ => hb.1.elim)
      · rcases HG2.out with ⟨h, h', _⟩ | ⟨h, h'⟩
        · rw [h]
          exact HG.out.imp id (fun h => ⟨.inl h.1, by simp; omega⟩)
        · exact .inr ⟨.inr (by rw [h]; exact Nat.le_refl _), by rw [h]; simp at h' ⊢; omega⟩
    · rcases HG2.out with ⟨h, _⟩ | ⟨h, _⟩
      · exact .inl h
      · exact .inr (.inr (by rw [h]; exact Nat.le_refl _))
  · rcases HG.out with h4 | h4
    · exact .inl (h.1.trans h4)
    · exact .inr (by rw [h.1]; exact h4.1)

theorem DS.Ok.burn {s : DS} {C : Int} (h : s.Ok C) (_hf : s.fuse ≠ 0) : s.burn.Ok C := by
  unfold DS.burn
  by_cases h0 : 0 < s.fuse
  · rw [if_pos h0]
    exact ⟨h.room, h.tot, h.n1, h.n2, h.sync, by show -1 ≤ s.fuse - 1; omega, by have := h.fuse2; show s.fuse - 1 ≤ _; omega⟩
  · rw [if_neg h0]; exact h
theorem alloc_blk2 {X : World} {o o' : Obj} {b : Nat} (h : b = X.heap.size) : ((X.alloc o).alloc o').heap[b]? = some o := by
  subst h
  rw [Below.heap_alloc _ _ _ (by simp)]
  exact heap_alloc_new X o
set_option maxHeartbeats 1000000 in
theorem append_burn {w : World} {d : Nat} {G K : Nat → Prop} {s : DS} {i : Nat} {C : Int} {B : Option Addr} {cb : Nat} {l : List UInt8} (h : Dk w d G s) (hs : s.Ok C) (hC : C ≤ 1000000000) (hdn : s.down = false) (hi : i < s.fs.length) (hf : 0 < s.fuse) (hl : u8E.Row K w (.slice B l.length cb) l) (hKd : ∀ b, K b → b ≠ d) (hfit : ¬ s.room < (l.length : Int)) :
    Calls Try.prog 37 #[.pointer (some ⟨d, 0, none⟩), .int .i64 i, .slice B l.length cb] w fun e w' => e = .returned (.int .i64 0) ∧ Dk w' d (fun b => G b ∨ w.heap.size ≤ b) (s.burn.app i l) ∧ Ext (fun b => b = d ∨ G b) w w' := by
  have h1 := h.down
  have h2 := h.room
  have k3 := h.fuse
  have f1 := h.frz 132
  obtain ⟨g, ⟨v, c1, c2, h3, h4⟩, _⟩ := h.take i hi
  obtain ⟨A, c, rfl, h5, h6⟩ := h3.form
  have hd := h.lt
  rw [hdn] at h1
  have hn : 1 ≤ s.fs.length := by omega
  have i1 : (0 : Int) ≤ (i : Int) := by omega
  have i2 : (i : Int) < 65 := by have := hs.n2; omega
  have j1 : (s.fuse == 0) = false := by simp; omega
  have j3 : 0 < s.fuse := hf
  have j2 : IntKind.i64.wrap (s.fuse - 1) = s.fuse - 1 := IntWalk.i64_in _ (by have := hs.fuse1; have := hs.fuse2; omega)
  have HFIT := hid (show (l.length : Int) ≤ s.room by omega)
  obtain ⟨x0, x1, x2, x3, x4, x5, x6, x7, x8, x9, x10, x11, x12, x13, x14, x15⟩ := offs hi hs.n2
  have HD := hid h
  have HN := hid hn
  have HI := hid hi
  have HN65 := hid hs.n2
  have HO := hid hs
  have HC := hid hC
  have HF := hid hf
  have HL := hid hl
  have HK := hid hKd
  clear h hn hdn h3 h4 h5 h6 hf hs hC hl hKd
  have HO2 : Hid (0 < s.fuse → DS.Ok { s with fuse := s.fuse - 1 } C) := hid (fun hp => ⟨HO.out.room, HO.out.tot, HO.out.n1, HO.out.n2, HO.out.sync, by have := HO.out.fuse1; show -1 ≤ s.fuse - 1; omega, by have := HO.out.fuse2; show s.fuse - 1 ≤ _; omega⟩)
  go_enter Try.func37, Try.ntmps37
  go_wp2_with (first | ((with_reducible refine wp_region_plan (id := 1) (.fin [(false, 0), (false, 1), (false, 2), (false, 3), (false, 4), (false, 5), (false, 6)]) ?_ ?_ ?_ ?_ ?_ ?_); kernel_rfl; kernel_rfl; kernel_rfl; kernel_rfl; (intro c a d v w h; cases d <;> exact h)) | (with_reducible refine wpPlan_eff ?_) | (with_reducible refine wpPlan_fin ?_) | (with_reducible refine wpPlan_two ?_) | (with_reducible refine wpOpPair ?_ ?_) | ((with_reducible apply wpPre_keep); rfl; intro K' hK'; go_simp; refine hK' _ _ ?_; intro f hf; clear hK' K') | ((with_reducible apply wpPre_drop); rfl; intro K' hK'; go_simp; refine hK' _ _ ?_; intro f; clear hK' K') | (with_reducible refine wpPre_nil ?_) | ((with_reducible apply wpOp_list); rfl) | (with_reducible refine heldPair ?_ ?_) | ((with_reducible refine heldH_no ?_ ?_); rfl) | (with_reducible refine heldH_yes ?_ ?_) | (with_reducible exact heldH_nil) | (unfold YAt; go_simp; done) | (go_at_call 57; go_in) | (go_at_call 35; refine (made_any (HD.out.below (by repeat (first | (with_reducible exact Below.refl _ _) | (with_reducible exact bl_mm) | (with_reducible refine bl_dr ?_) | (with_reducible refine bl_drN ?_ _) | (with_reducible refine bl_al ?_ _) | (with_reducible refine bl_more ?_ _ _)))) HN.out).mono ?_; rintro e w1 ⟨rfl, hb1⟩; obtain ⟨ex, dx, rfl⟩ := more_of hb1; clear hb1) | (go_at_call 32; refine (has_yes (HD.out.below (by repeat (first | (with_reducible exact Below.refl _ _) | (with_reducible exact bl_mm) | (with_reducible refine bl_dr ?_) | (with_reducible refine bl_drN ?_ _) | (with_reducible refine bl_al ?_ _) | (with_reducible refine bl_more ?_ _ _)))) i HI.out).mono ?_; rintro e w1 ⟨rfl, hb1⟩; obtain ⟨ex, dx, rfl⟩ := more_of hb1; clear hb1) | (go_at_call 67; go_in) | (go_at_call 68; refine (doApp (C := C) (bB := w.heap.size + 1) (bD := w.heap.size) ((HD.out.setFuse HN65.out (s.fuse - 1)).below (by repeat (first | (with_reducible exact Below.refl _ _) | (with_reducible exact bl_mm) | (with_reducible refine bl_dr ?_) | (with_reducible refine bl_drN ?_ _) | (with_reducible refine bl_al ?_ _) | (with_reducible refine bl_more ?_ _ _)))) (HO2.out HF.out) HC.out HI.out ((HL.out.step (w1 := w.setCell ⟨d, 132, none⟩ (.int .i64 (s.fuse - 1))) (fun b hb _ => Below.heap_setCell _ _ _ _ (HK.out b hb))).below (by repeat (first | (with_reducible exact Below.refl _ _) | (with_reducible exact bl_mm) | (with_reducible refine bl_dr ?_) | (with_reducible refine bl_drN ?_ _) | (with_reducible refine bl_al ?_ _) | (with_reducible refine bl_more ?_ _ _)))) HFIT.out ((more_heap (by simp only [more_size, World.size_alloc, World.size_setCell]; omega)).trans ((more_heap (by simp only [World.size_alloc, World.size_setCell]; omega)).trans (alloc_blk (by simp only [World.size_alloc, World.size_setCell])))) ((more_heap (by simp only [more_size, World.size_alloc, World.size_setCell]; omega)).trans ((more_heap (by simp only [World.size_alloc, World.size_setCell]; omega)).trans (alloc_blk2 (by simp only [World.size_setCell]))))).mono ?_; rintro e w3 ⟨rfl, hq, he⟩; have HQ := hid hq; have HE := hid he; clear hq he))
  go_ret
  refine ⟨rfl, ?_, Ext.trans (by repeat (first | (with_reducible exact Ext.refl _ _) | (with_reducible refine ex_dr ?_) | (with_reducible refine ex_drN ?_ _) | (with_reducible refine ex_al ?_ _) | (with_reducible refine ex_more ?_ _ _) | (with_reducible refine Ext.set ?_ _ _ _ (by first | exact rfl | exact .inl rfl | exact .inr rfl)))) HE.out (fun _ _ h => h)⟩
  rw [burn_yes HF.out]
  exact HQ.out.mono (fun b hb _ => hb.imp id (fun h => by simp only [more_size, World.size_alloc, World.size_setCell] at h; omega))
set_option maxHeartbeats 1000000 in
theorem append_bare {w : World} {d : Nat} {G K : Nat → Prop} {s : DS} {i : Nat} {C : Int} {B : Option Addr} {cb : Nat} {l : List UInt8} (h : Dk w d G s) (hs : s.Ok C) (hC : C ≤ 1000000000) (hdn : s.down = false) (hi : i < s.fs.length) (hf : s.fuse < 0) (hl : u8E.Row K w (.slice B l.length cb) l) (hKd : ∀ b, K b → b ≠ d) (hfit : ¬ s.room < (l.length : Int)) :
    Calls Try.prog 37 #[.pointer (some ⟨d, 0, none⟩), .int .i64 i, .slice B l.length cb] w fun e w' => e = .returned (.int .i64 0) ∧ Dk w' d (fun b => G b ∨ w.heap.size ≤ b) (s.burn.app i l) ∧ Ext (fun b => b = d ∨ G b) w w' := by
  have h1 := h.down
  have h2 := h.room
  have k3 := h.fuse
  have f1 := h.frz 132
  obtain ⟨g, ⟨v, c1, c2, h3, h4⟩, _⟩ := h.take i hi
  obtain ⟨A, c, rfl, h5, h6⟩ := h3.form
  have hd := h.lt
  rw [hdn] at h1
  have hn : 1 ≤ s.fs.length := by omega
  have i1 : (0 : Int) ≤ (i : Int) := by omega
  have i2 : (i : Int) < 65 := by have := hs.n2; omega
  have j1 : (s.fuse == 0) = false := by simp; omega
  have j3 : s.fuse < 0 := hf
  have j2 : IntKind.i64.wrap (s.fuse - 1) = s.fuse - 1 := IntWalk.i64_in _ (by have := hs.fuse1; have := hs.fuse2; omega)
  have HFIT := hid (show (l.length : Int) ≤ s.room by omega)
  obtain ⟨x0, x1, x2, x3, x4, x5, x6, x7, x8, x9, x10, x11, x12, x13, x14, x15⟩ := offs hi hs.n2
  have HD := hid h
  have HN := hid hn
  have HI := hid hi
  have HN65 := hid hs.n2
  have HO := hid hs
  have HC := hid hC
  have HF := hid hf
  have HL := hid hl
  have HK := hid hKd
  clear h hn hdn h3 h4 h5 h6 hf hs hC hl hKd
  have HO2 : Hid (0 < s.fuse → DS.Ok { s with fuse := s.fuse - 1 } C) := hid (fun hp => ⟨HO.out.room, HO.out.tot, HO.out.n1, HO.out.n2, HO.out.sync, by have := HO.out.fuse1; show -1 ≤ s.fuse - 1; omega, by have := HO.out.fuse2; show s.fuse - 1 ≤ _; omega⟩)
  go_enter Try.func37, Try.ntmps37
  go_wp2_with (first | ((with_reducible refine wp_region_plan (id := 1) (.fin [(false, 0), (false, 1), (false, 2), (false, 3), (false, 4), (false, 5), (false, 6)]) ?_ ?_ ?_ ?_ ?_ ?_); kernel_rfl; kernel_rfl; kernel_rfl; kernel_rfl; (intro c a d v w h; cases d <;> exact h)) | (with_reducible refine wpPlan_eff ?_) | (with_reducible refine wpPlan_fin ?_) | (with_reducible refine wpPlan_two ?_) | (with_reducible refine wpOpPair ?_ ?_) | ((with_reducible apply wpPre_keep); rfl; intro K' hK'; go_simp; refine hK' _ _ ?_; intro f hf; clear hK' K') | ((with_reducible apply wpPre_drop); rfl; intro K' hK'; go_simp; refine hK' _ _ ?_; intro f; clear hK' K') | (with_reducible refine wpPre_nil ?_) | ((with_reducible apply wpOp_list); rfl) | (with_reducible refine heldPair ?_ ?_) | ((with_reducible refine heldH_no ?_ ?_); rfl) | (with_reducible refine heldH_yes ?_ ?_) | (with_reducible exact heldH_nil) | (unfold YAt; go_simp; done) | (go_at_call 57; go_in) | (go_at_call 35; refine (made_any (HD.out.below (by repeat (first | (with_reducible exact Below.refl _ _) | (with_reducible exact bl_mm) | (with_reducible refine bl_dr ?_) | (with_reducible refine bl_drN ?_ _) | (with_reducible refine bl_al ?_ _) | (with_reducible refine bl_more ?_ _ _)))) HN.out).mono ?_; rintro e w1 ⟨rfl, hb1⟩; obtain ⟨ex, dx, rfl⟩ := more_of hb1; clear hb1) | (go_at_call 32; refine (has_yes (HD.out.below (by repeat (first | (with_reducible exact Below.refl _ _) | (with_reducible exact bl_mm) | (with_reducible refine bl_dr ?_) | (with_reducible refine bl_drN ?_ _) | (with_reducible refine bl_al ?_ _) | (with_reducible refine bl_more ?_ _ _)))) i HI.out).mono ?_; rintro e w1 ⟨rfl, hb1⟩; obtain ⟨ex, dx, rfl⟩ := more_of hb1; clear hb1) | (go_at_call 67; go_in) | (go_at_call 68; refine (doApp (C := C) (bB := w.heap.size + 1) (bD := w.heap.size) (HD.out.below (by repeat (first | (with_reducible exact Below.refl _ _) | (with_reducible exact bl_mm) | (with_reducible refine bl_dr ?_) | (with_reducible refine bl_drN ?_ _) | (with_reducible refine bl_al ?_ _) | (with_reducible refine bl_more ?_ _ _)))) HO.out HC.out HI.out (HL.out.below (by repeat (first | (with_reducible exact Below.refl _ _) | (with_reducible exact bl_mm) | (with_reducible refine bl_dr ?_) | (with_reducible refine bl_drN ?_ _) | (with_reducible refine bl_al ?_ _) | (with_reducible refine bl_more ?_ _ _)))) HFIT.out ((more_heap (by simp only [more_size, World.size_alloc]; omega)).trans ((more_heap (by simp only [World.size_alloc]; omega)).trans (alloc_blk (by simp only [World.size_alloc])))) ((more_heap (by simp only [more_size, World.size_alloc]; omega)).trans ((more_heap (by simp only [World.size_alloc]; omega)).trans (alloc_blk2 (by simp only []))))).mono ?_; rintro e w3 ⟨rfl, hq, he⟩; have HQ := hid hq; have HE := hid he; clear hq he))
  go_ret
  refine ⟨rfl, ?_, Ext.trans (by repeat (first | (with_reducible exact Ext.refl _ _) | (with_reducible refine ex_dr ?_) | (with_reducible refine ex_drN ?_ _) | (with_reducible refine ex_al ?_ _) | (with_reducible refine ex_more ?_ _ _) | (with_reducible refine Ext.set ?_ _ _ _ (by first | exact rfl | exact .inl rfl | exact .inr rfl)))) HE.out (fun _ _ h => h)⟩
  rw [burn_no HF.out]
  exact HQ.out.mono (fun b hb _ => hb.imp id (fun h => by simp only [more_size, World.size_alloc] at h; omega))
end Go.Proofs.Ytgpcgndmdkgbdaa

/- What a disk's calls do: the rest. -/
namespace Go.Proofs.Ytgpcgndmdkgbdaa
open Go.RowKit

def fs0 (n : Nat) : List DF := List.replicate n ⟨[], 0⟩
theorem bytes0 (n : Nat) : bytes (fs0 n) = 0 := by
  unfold bytes fs0
  induction n with
  | zero => rfl
  | succ n ih => simp [List.replicate_succ]
set_option maxRecDepth 8000 in
set_option maxHeartbeats 1000000 in
theorem new_bad {w : World} {n r : Int} (h : n < 1 ∨ 65 < n ∨ r < 0 ∨ 1048576 < r) : Calls Try.prog 23 #[.int .i64 n, .int .i64 r] w fun e w' => e = .returned (.tuple #[.pointer none, .int .i64 2]) ∧ Below w.heap.size w w' := by
  by_cases h1 : n < 1
  · clear h
    go_enter Try.func23, Try.ntmps23
    go_wp2
    go_ret2
    exact ⟨rfl, (by repeat (first | (with_reducible exact Below.refl _ _) | (with_reducible exact bl_mm) | (with_reducible refine bl_dr ?_) | (with_reducible refine bl_drN ?_ _) | (with_reducible refine bl_al ?_ _) | (with_reducible refine bl_more ?_ _ _)))⟩
  · by_cases h2 : 65 < n
    · clear h
      go_enter Try.func23, Try.ntmps23
      go_wp2
      go_ret2
      exact ⟨rfl, (by repeat (first | (with_reducible exact Below.refl _ _) | (with_reducible exact bl_mm) | (with_reducible refine bl_dr ?_) | (with_reducible refine bl_drN ?_ _) | (with_reducible refine bl_al ?_ _) | (with_reducible refine bl_more ?_ _ _)))⟩
    · by_cases h3 : r < 0
      · clear h
        go_enter Try.func23, Try.ntmps23
        go_wp2
        go_ret2
        exact ⟨rfl, (by repeat (first | (with_reducible exact Below.refl _ _) | (with_reducible exact bl_mm) | (with_reducible refine bl_dr ?_) | (with_reducible refine bl_drN ?_ _) | (with_reducible refine bl_al ?_ _) | (with_reducible refine bl_more ?_ _ _)))⟩
      · have h4 : 1048576 < r := by omega
        clear h
        go_enter Try.func23, Try.ntmps23
        go_wp2
        go_ret2
        exact ⟨rfl, (by repeat (first | (with_reducible exact Below.refl _ _) | (with_reducible exact bl_mm) | (with_reducible refine bl_dr ?_) | (with_reducible refine bl_drN ?_ _) | (with_reducible refine bl_al ?_ _) | (with_reducible refine bl_more ?_ _ _)))⟩
def zs55 : Array Value := ((List.replicate 65 [Value.slice none 0 0, Value.int .i64 0]).flatten ++ [Value.int .i64 0, Value.int .i64 0, Value.int .i64 0, Value.bool false]).toArray
theorem zero55 (w : World) : (zeroValue 78).run Try.prog w = .ok (.agg zs55) w := by kernel_rfl
theorem zs_size : zs55.size = 134 := by kernel_rfl
theorem two_at {α : Type} (a b : α) (t : List α) : ∀ (n i : Nat), i < n → ((List.replicate n [a, b]).flatten ++ t)[i * 2]? = some a ∧ ((List.replicate n [a, b]).flatten ++ t)[i * 2 + 1]? = some b
  | 0, i, h => by omega
  | n + 1, 0, _ => by simp [List.replicate_succ]
  | n + 1, i + 1, h => by
    have := two_at a b t n i (by omega)
    rw [show (i + 1) * 2 = i * 2 + 2 by omega]
    simpa [List.replicate_succ] using this
theorem zs_at {i : Nat} (h : i < 65) : zs55[i * 2]? = some (.slice none 0 0) ∧ zs55[i * 2 + 1]? = some (.int .i64 0) := by
  have := two_at (Value.slice none 0 0) (Value.int .i64 0) [Value.int .i64 0, Value.int .i64 0, Value.int .i64 0, Value.bool false] 65 i h
  simpa [zs55] using this
theorem zs_end : zs55[130]? = some (.int .i64 0) ∧ zs55[131]? = some (.int .i64 0) ∧ zs55[132]? = some (.int .i64 0) ∧ zs55[133]? = some (.bool false) := ⟨by kernel_rfl, by kernel_rfl, by kernel_rfl, by kernel_rfl⟩
theorem zs_one : ∀ u ∈ zs55.toList, u.oneCell' = true := List.all_eq_true.1 (by kernel_rfl)
theorem dk_of {w : World} {d n : Nat} {G : Nat → Prop} {cs : Array Value} {r f : Int} {dn : Bool} (h : w.heap[d]? = some (.cells cs 78 (0, 0))) (hs : cs.size = 134) (hone : ∀ u ∈ cs.toList, u.oneCell' = true) (h0 : cs[130]? = some (.int .i64 n)) (h1 : cs[131]? = some (.int .i64 r)) (h2 : cs[132]? = some (.int .i64 f)) (h3 : cs[133]? = some (.bool dn))
    (h4 : ∀ i, i < n → cs[i * 2]? = some (.slice none 0 0) ∧ cs[i * 2 + 1]? = some (.int .i64 0)) : Dk w d G { fs := fs0 n, room := r, fuse := f, down := dn } := by
  have hl : (fs0 n).length = n := by simp [fs0]
  refine ⟨⟨cs, h, hs, hone⟩, by rw [cell_blk h, h0, hl], by rw [cell_blk h, h1], by rw [cell_blk h, h2], by rw [cell_blk h, h3], fun _ => d, fun i hi => ?_, fun _ _ _ _ _ _ => rfl⟩
  have hi' : i < n := by rw [← hl]; exact hi
  obtain ⟨k1, k2⟩ := h4 i hi'
  have hf : (fs0 n)[i]'(by rw [hl]; exact hi') = ⟨[], 0⟩ := by simp [fs0]
  show FileAt w d G d i ((fs0 n)[i]'(by rw [hl]; exact hi'))
  rw [hf]
  exact ⟨_, by rw [cell_blk h, k1], by rw [cell_blk h, k2]; rfl, Enc.Spine.nil _ _ _ _ _, .inl rfl⟩
set_option maxRecDepth 8000 in
set_option maxHeartbeats 1000000 in
theorem new_any {w : World} {G : Nat → Prop} {n : Nat} {r : Int} (h1 : 1 ≤ n) (h2 : n ≤ 65) (h3 : 0 ≤ r) (h4 : r ≤ 1048576) : Calls Try.prog 23 #[.int .i64 n, .int .i64 r] w fun e w' => ∃ d, e = .returned (.tuple #[.pointer (some ⟨d, 0, none⟩), .int .i64 0]) ∧ d = w.heap.size ∧ Dk w' d G { fs := fs0 n, room := r, fuse := -1, down := false } ∧ Below w.heap.size w w' := by
  have i1 : ¬ (n : Int) < 1 := by omega
  have i2 : ¬ (65 : Int) < (n : Int) := by omega
  have i3 : ¬ r < 0 := by omega
  have i4 : ¬ 1048576 < r := by omega
  have hz := zero55
  have hs := zs_size
  go_enter Try.func23, Try.ntmps23
  go_wp2
  go_ret2
  refine ⟨_, rfl, rfl, dk_of (alloc_blk rfl) ?_ (mem_set (mem_set (mem_set zs_one rfl) rfl) rfl) ?_ ?_ ?_ ?_ ?_, (by repeat (first | (with_reducible exact Below.refl _ _) | (with_reducible exact bl_mm) | (with_reducible refine bl_dr ?_) | (with_reducible refine bl_drN ?_ _) | (with_reducible refine bl_al ?_ _) | (with_reducible refine bl_more ?_ _ _)))⟩
  · simp [hs]
  · simp [hs]
  · simp [hs]
  · simp [hs]
  · simp [zs_end]
  · intro i hi
    have h5 := zs_at (i := i) (by omega)
    obtain ⟨x0, x1, x2, x3, x4, x5, x6, x7, x8, x9, x10, x11, x12, x13, x14, x15⟩ := offs hi h2
    constructor
    · simp [*]
    · simp [*]


theorem spine_src {K : Nat → Prop} {w : World} {g : Nat} {v : Value} {xs : List UInt8} (h : u8E.Spine 5 K g w v xs) : u8E.Src (fun _ => False) w v xs := by
  obtain ⟨A, c, rfl, h1, h2, h3⟩ := h
  refine ⟨A, c, rfl, h1, h2, fun hx => ?_⟩
  have h0 : 0 < xs.length := List.length_pos_iff.2 hx
  obtain ⟨off, cur, cs, rfl, hb, _, hf, hc⟩ := h3 (by omega)
  exact ⟨g, off, rfl, hf.at_ (fun j u hj => Enc.cell_of_cur hb (hc j u hj))⟩
set_option maxHeartbeats 1000000 in
theorem clone_bytes {K : Nat → Prop} {w : World} {v : Value} {xs : List UInt8} (h : u8E.Src K w v xs) (hlen : xs.length ≤ 4294967296) :
    Calls Try.prog 33 #[v] w fun e w' => ∃ v' g', e = .returned v' ∧ u8E.Spine 5 (fun _ => False) g' w' v' xs ∧ w.heap.size ≤ g' ∧ Below w.heap.size w w' := by
  obtain ⟨A, c, rfl, h1, h2, h3⟩ := h
  have kn := fun (wx : World) (a : Option Addr) (n c : Nat) => Lib.run_eql_slice_nil (P := Try.prog) wx 30 5 a n c 0 0 Try.underlying30
  cases A with
  | none =>
    obtain rfl : xs = [] := by
      apply Classical.byContradiction
      intro hx
      obtain ⟨_, _, h, _⟩ := h3 hx
      cases h
    go_enter Try.func33, Try.ntmps33
    go_wp2
    go_ret
    exact ⟨_, w.heap.size, rfl, Enc.Spine.nil _ _ _ _ _, Nat.le_refl _, Below.refl _ _⟩
  | some a =>
    have hs : u8E.Src K w (.slice (some a) xs.length c) xs := ⟨_, c, rfl, h1, h2, h3⟩
    have hy : u8E.Src (fun _ => False) (w.alloc (.cells #[] 5)) (.slice (some a) xs.length c) xs := src_any (hs.below ((Below.refl _ _).alloc (Nat.le_refl _) _))
    obtain ⟨v', w', g', hrun, hsp, hext, hg'⟩ := app33 (Enc.Spine.bare u8E 5 (fun _ => False) w.heap.size (w.alloc (.cells #[] 5)) (some ⟨w.heap.size, 0, none⟩)) hy (fun b hb _ => hb.elim) (by simpa using hlen)
    clear hs hy h3
    go_enter Try.func33, Try.ntmps33
    go_wp2_with (at_builtin; refine wpList_append_run rfl (.tmp 5) (.tmp 6) 30 30 rfl hrun ?_)
    go_ret
    refine ⟨_, g', rfl, hsp, ?_, ?_⟩
    · rcases hg' with ⟨h, _⟩ | ⟨h, _⟩
      · omega
      · simp only [World.size_alloc] at h; omega
    · exact ((Below.refl _ _).alloc (Nat.le_refl _) _).trans (hext.toBelow (by simp) (fun x hx h => by have := h.1; omega))
set_option maxHeartbeats 1000000 in
theorem read_any {w : World} {d : Nat} {G : Nat → Prop} {s : DS} {C : Int} (h : Dk w d G s) (hs : s.Ok C) (hC : C ≤ 1000000000) (i : Nat) (hi : i < s.fs.length) :
    Calls Try.prog 12 #[.pointer (some ⟨d, 0, none⟩), .int .i64 i] w fun e w' => ∃ v', e = .returned v' ∧ u8E.Row (fun b => w.heap.size ≤ b) w' v' s.fs[i].b ∧ Below w.heap.size w w' := by
  obtain ⟨g, ⟨v, c1, c2, h3, h4⟩, _⟩ := h.take i hi
  obtain ⟨A, c, rfl, h5, h6⟩ := h3.form
  have hd := h.lt
  have i1 : (0 : Int) ≤ (i : Int) := by omega
  have i2 : (i : Int) < 65 := by have := hs.n2; omega
  have hl := hs.len (List.getElem_mem hi)
  have HL := hid (show s.fs[i].b.length ≤ 4294967296 by omega)
  have HD := hid h
  have HI := hid hi
  have H3 := hid h3
  clear h hs hC h3 h4 h5 h6 hl
  go_enter Try.func12, Try.ntmps12
  go_wp2_with (first | (go_at_call 32; refine (has_yes (HD.out.below (by repeat (first | (with_reducible exact Below.refl _ _) | (with_reducible exact bl_mm) | (with_reducible refine bl_dr ?_) | (with_reducible refine bl_drN ?_ _) | (with_reducible refine bl_al ?_ _) | (with_reducible refine bl_more ?_ _ _)))) i HI.out).mono ?_; rintro e w1 ⟨rfl, hb1⟩; obtain ⟨ex, dx, rfl⟩ := more_of hb1; clear hb1) | (go_at_call 33; refine (clone_bytes ((spine_src H3.out).below (by repeat (first | (with_reducible exact Below.refl _ _) | (with_reducible exact bl_mm) | (with_reducible refine bl_dr ?_) | (with_reducible refine bl_drN ?_ _) | (with_reducible refine bl_al ?_ _) | (with_reducible refine bl_more ?_ _ _)))) HL.out).mono ?_; rintro e w1 ⟨v1, g1, rfl, hs1, hg1, hb1⟩; obtain ⟨A1, c1', rfl, _, _⟩ := hs1.form; obtain ⟨ex, dx, rfl⟩ := more_of hb1; clear hb1; have HS1 := hid hs1; have HG1 := hid hg1; clear hs1 hg1))
  go_ret
  refine ⟨_, rfl, ?_, (by repeat (first | (with_reducible exact Below.refl _ _) | (with_reducible exact bl_mm) | (with_reducible refine bl_dr ?_) | (with_reducible refine bl_drN ?_ _) | (with_reducible refine bl_al ?_ _) | (with_reducible refine bl_more ?_ _ _)))⟩
  have hg := HG1.out
  simp only [more_size] at hg
  by_cases hc : c1' = 0
  · obtain ⟨A', c', he, k1, k2, _⟩ := HS1.out
    obtain ⟨_, _, rfl⟩ := Value.slice.inj he
    exact ⟨A1, c1', rfl, by omega, by omega, fun hx => absurd (List.eq_nil_of_length_eq_zero (by omega)) hx⟩
  · exact HS1.out.row (fun b hb _ => hb.elim) (by omega)
set_option maxHeartbeats 1000000 in
theorem read_none {w : World} {d : Nat} {G : Nat → Prop} {s : DS} (h : Dk w d G s) (hn : 1 ≤ s.fs.length) (i : Int) (hi : i < 0 ∨ s.fs.length ≤ i) :
    Calls Try.prog 12 #[.pointer (some ⟨d, 0, none⟩), .int .i64 i] w fun e w' => e = .returned (.slice none 0 0) ∧ Below w.heap.size w w' := by
  have hd := h.lt
  have HD := hid h
  have HN := hid hn
  have HI := hid hi
  clear h hn hi
  go_enter Try.func12, Try.ntmps12
  go_wp2_with (first | (go_at_call 32; refine (has_no (HD.out.below (by repeat (first | (with_reducible exact Below.refl _ _) | (with_reducible exact bl_mm) | (with_reducible refine bl_dr ?_) | (with_reducible refine bl_drN ?_ _) | (with_reducible refine bl_al ?_ _) | (with_reducible refine bl_more ?_ _ _)))) _ HN.out HI.out).mono ?_; rintro e w1 ⟨rfl, hb1⟩; obtain ⟨ex, dx, rfl⟩ := more_of hb1; clear hb1))
  go_ret
  exact ⟨rfl, (by repeat (first | (with_reducible exact Below.refl _ _) | (with_reducible exact bl_mm) | (with_reducible refine bl_dr ?_) | (with_reducible refine bl_drN ?_ _) | (with_reducible refine bl_al ?_ _) | (with_reducible refine bl_more ?_ _ _)))⟩
set_option maxHeartbeats 1000000 in
theorem synced_any {w : World} {d : Nat} {G : Nat → Prop} {s : DS} (h : Dk w d G s) (hn : s.fs.length ≤ 65) (i : Nat) (hi : i < s.fs.length) :
    Calls Try.prog 20 #[.pointer (some ⟨d, 0, none⟩), .int .i64 i] w fun e w' => e = .returned (.int .i64 s.fs[i].synced) ∧ Below w.heap.size w w' := by
  obtain ⟨g, ⟨v, c1, c2, h3, h4⟩, _⟩ := h.take i hi
  have hd := h.lt
  have i1 : (0 : Int) ≤ (i : Int) := by omega
  have i2 : (i : Int) < 65 := by omega
  have HD := hid h
  have HI := hid hi
  clear h h3 h4 hn
  go_enter Try.func20, Try.ntmps20
  go_wp2_with (first | (go_at_call 32; refine (has_yes (HD.out.below (by repeat (first | (with_reducible exact Below.refl _ _) | (with_reducible exact bl_mm) | (with_reducible refine bl_dr ?_) | (with_reducible refine bl_drN ?_ _) | (with_reducible refine bl_al ?_ _) | (with_reducible refine bl_more ?_ _ _)))) i HI.out).mono ?_; rintro e w1 ⟨rfl, hb1⟩; obtain ⟨ex, dx, rfl⟩ := more_of hb1; clear hb1))
  go_ret
  exact ⟨rfl, (by repeat (first | (with_reducible exact Below.refl _ _) | (with_reducible exact bl_mm) | (with_reducible refine bl_dr ?_) | (with_reducible refine bl_drN ?_ _) | (with_reducible refine bl_al ?_ _) | (with_reducible refine bl_more ?_ _ _)))⟩
set_option maxHeartbeats 1000000 in
theorem synced_none {w : World} {d : Nat} {G : Nat → Prop} {s : DS} (h : Dk w d G s) (hn : 1 ≤ s.fs.length) (i : Int) (hi : i < 0 ∨ s.fs.length ≤ i) :
    Calls Try.prog 20 #[.pointer (some ⟨d, 0, none⟩), .int .i64 i] w fun e w' => e = .returned (.int .i64 0) ∧ Below w.heap.size w w' := by
  have hd := h.lt
  have HD := hid h
  have HN := hid hn
  have HI := hid hi
  clear h hn hi
  go_enter Try.func20, Try.ntmps20
  go_wp2_with (first | (go_at_call 32; refine (has_no (HD.out.below (by repeat (first | (with_reducible exact Below.refl _ _) | (with_reducible exact bl_mm) | (with_reducible refine bl_dr ?_) | (with_reducible refine bl_drN ?_ _) | (with_reducible refine bl_al ?_ _) | (with_reducible refine bl_more ?_ _ _)))) _ HN.out HI.out).mono ?_; rintro e w1 ⟨rfl, hb1⟩; obtain ⟨ex, dx, rfl⟩ := more_of hb1; clear hb1))
  go_ret
  exact ⟨rfl, (by repeat (first | (with_reducible exact Below.refl _ _) | (with_reducible exact bl_mm) | (with_reducible refine bl_dr ?_) | (with_reducible refine bl_drN ?_ _) | (with_reducible refine bl_al ?_ _) | (with_reducible refine bl_more ?_ _ _)))⟩
set_option maxHeartbeats 1000000 in
theorem arm_down {w : World} {d : Nat} {G : Nat → Prop} {s : DS} (h : Dk w d G s) (hn : 1 ≤ s.fs.length) (n : Int) (hdn : s.down = true) :
    Calls Try.prog 14 #[.pointer (some ⟨d, 0, none⟩), .int .i64 n] w fun e w' => e = .returned (.int .i64 9) ∧ Below w.heap.size w w' := by
  have hd := h.lt
  have h1 := h.down
  rw [hdn] at h1
  have HD := hid h
  have HN := hid hn
  clear h hn hdn
  go_enter Try.func14, Try.ntmps14
  go_wp2_with (first | (go_at_call 35; refine (made_any (HD.out.below (by repeat (first | (with_reducible exact Below.refl _ _) | (with_reducible exact bl_mm) | (with_reducible refine bl_dr ?_) | (with_reducible refine bl_drN ?_ _) | (with_reducible refine bl_al ?_ _) | (with_reducible refine bl_more ?_ _ _)))) HN.out).mono ?_; rintro e w1 ⟨rfl, hb1⟩; obtain ⟨ex, dx, rfl⟩ := more_of hb1; clear hb1))
  go_ret
  exact ⟨rfl, (by repeat (first | (with_reducible exact Below.refl _ _) | (with_reducible exact bl_mm) | (with_reducible refine bl_dr ?_) | (with_reducible refine bl_drN ?_ _) | (with_reducible refine bl_al ?_ _) | (with_reducible refine bl_more ?_ _ _)))⟩
set_option maxHeartbeats 1000000 in
theorem arm_any {w : World} {d : Nat} {G : Nat → Prop} {s : DS} (h : Dk w d G s) (hn : 1 ≤ s.fs.length) (hn65 : s.fs.length ≤ 65) (n : Int) (hdn : s.down = false) :
    Calls Try.prog 14 #[.pointer (some ⟨d, 0, none⟩), .int .i64 n] w fun e w' => e = .returned (.int .i64 0) ∧ Dk w' d G { s with fuse := max n (-1) } ∧ Ext (fun b => b = d) w w' := by
  have hd := h.lt
  have h1 := h.down
  have h2 := h.fuse
  have f1 := h.frz 132
  rw [hdn] at h1
  have HD := hid h
  have HN := hid hn
  have HN65 := hid hn65
  clear h hn hdn hn65
  go_enter Try.func14, Try.ntmps14
  go_wp2_with (first | (go_at_call 35; refine (made_any (HD.out.below (by repeat (first | (with_reducible exact Below.refl _ _) | (with_reducible exact bl_mm) | (with_reducible refine bl_dr ?_) | (with_reducible refine bl_drN ?_ _) | (with_reducible refine bl_al ?_ _) | (with_reducible refine bl_more ?_ _ _)))) HN.out).mono ?_; rintro e w1 ⟨rfl, hb1⟩; obtain ⟨ex, dx, rfl⟩ := more_of hb1; clear hb1))
  all_goals (
    go_ret
    refine ⟨rfl, ?_, (by repeat (first | (with_reducible exact Ext.refl _ _) | (with_reducible refine ex_dr ?_) | (with_reducible refine ex_drN ?_ _) | (with_reducible refine ex_al ?_ _) | (with_reducible refine ex_more ?_ _ _) | (with_reducible refine Ext.set ?_ _ _ _ (by first | exact rfl | exact .inl rfl | exact .inr rfl))))⟩
    first
    | (rw [show max n (-1) = -1 by omega]; exact (HD.out.setFuse HN65.out (-1)).below (by repeat (first | (with_reducible exact Below.refl _ _) | (with_reducible exact bl_mm) | (with_reducible refine bl_dr ?_) | (with_reducible refine bl_drN ?_ _) | (with_reducible refine bl_al ?_ _) | (with_reducible refine bl_more ?_ _ _))))
    | (rw [show max n (-1) = n by omega]; exact (HD.out.setFuse HN65.out n).below (by repeat (first | (with_reducible exact Below.refl _ _) | (with_reducible exact bl_mm) | (with_reducible refine bl_dr ?_) | (with_reducible refine bl_drN ?_ _) | (with_reducible refine bl_al ?_ _) | (with_reducible refine bl_more ?_ _ _)))))

end Go.Proofs.Ytgpcgndmdkgbdaa

/- The power that goes. -/
namespace Go.Proofs.Ytgpcgndmdkgbdaa
open Go.RowKit

/-- How many bytes a file has behind a crash. -/
def cutN (f : DF) (k : Option Int) : Nat := f.synced + (match k with | some x => min (max x 0).toNat (f.b.length - f.synced) | none => 0)
def crashN (s : DS) (ks : List Int) : Nat → DS
  | 0 => s
  | j + 1 => (crashN s ks j).keep j (cutN (s.fs.getD j ⟨[], 0⟩) ks[j]?)
def DS.crash (s : DS) (ks : List Int) : DS := { crashN s ks s.fs.length with fuse := -1, down := false }
theorem keep_len (s : DS) (i n : Nat) : (s.keep i n).fs.length = s.fs.length := by simp [DS.keep]
theorem crash_len (s : DS) (ks : List Int) : ∀ j, (crashN s ks j).fs.length = s.fs.length
  | 0 => rfl
  | j + 1 => (keep_len _ _ _).trans (crash_len s ks j)
theorem crash_at (s : DS) (ks : List Int) : ∀ j k, j ≤ k → (crashN s ks j).fs[k]? = s.fs[k]?
  | 0, k, _ => rfl
  | j + 1, k, h => by
    show ((crashN s ks j).fs.set j _)[k]? = _
    rw [List.getElem?_set_ne (by omega)]
    exact crash_at s ks j k (by omega)
theorem bytes_set : ∀ (l : List DF) (i : Nat) (hi : i < l.length) (f : DF), (bytes (l.set i f) : Int) = bytes l - l[i].b.length + f.b.length
  | x :: l, 0, h, f => by simp [bytes]; omega
  | x :: l, i + 1, h, f => by
    have := bytes_set l i (by simpa using h) f
    have e1 : bytes (x :: l) = x.b.length + bytes l := by simp [bytes]
    have e2 : bytes ((x :: l).set (i + 1) f) = x.b.length + bytes (l.set i f) := by simp [bytes]
    rw [e2, e1]
    simp only [List.getElem_cons_succ]
    omega
theorem keep_tot {s : DS} {i n : Nat} (hi : i < s.fs.length) (hn : n ≤ s.fs[i].b.length) : (s.keep i n).tot = s.tot := by
  have := bytes_set s.fs i hi ⟨s.fs[i].b.take n, n⟩
  simp only [List.length_take] at this
  unfold DS.keep DS.tot
  simp [hi]
  omega
theorem DS.Ok.keep {s : DS} {C : Int} (h : s.Ok C) {i n : Nat} (hi : i < s.fs.length) (hn : n ≤ s.fs[i].b.length) : (s.keep i n).Ok C := by
  refine ⟨?_, by rw [keep_tot hi hn]; exact h.tot, by rw [keep_len]; exact h.n1, by rw [keep_len]; exact h.n2, fun f hf => ?_, h.fuse1, h.fuse2⟩
  · have := h.room
    show 0 ≤ s.room + ((s.fs.getD i ⟨[], 0⟩).b.length - n : Int)
    simp [hi]; omega
  · have hf' : f ∈ s.fs.set i ⟨(s.fs.getD i ⟨[], 0⟩).b.take n, n⟩ := hf
    rcases List.mem_or_eq_of_mem_set hf' with h1 | rfl
    · exact h.sync f h1
    · simp [hi]; omega
theorem cutN_le {f : DF} (hs : f.synced ≤ f.b.length) (k : Option Int) : cutN f k ≤ f.b.length := by
  unfold cutN
  cases k <;> simp <;> omega
theorem crash_file (s : DS) (ks : List Int) {j : Nat} (hj : j < s.fs.length) : (crashN s ks j).fs[j]'(by rw [crash_len]; exact hj) = s.fs[j] := by
  have := crash_at s ks j j (Nat.le_refl _)
  rw [List.getElem?_eq_getElem hj, List.getElem?_eq_getElem (by rw [crash_len]; exact hj)] at this
  exact Option.some.inj this
theorem crash_ok {s : DS} {C : Int} (h : s.Ok C) (ks : List Int) : ∀ j, j ≤ s.fs.length → (crashN s ks j).Ok C
  | 0, _ => h
  | j + 1, hj => by
    refine (crash_ok h ks j (by omega)).keep (by rw [crash_len]; omega) ?_
    rw [crash_file s ks (by omega)]
    simp only [List.getD_eq_getElem?_getD, List.getElem?_eq_getElem (show j < s.fs.length by omega), Option.getD_some]
    exact cutN_le (h.sync _ (List.getElem_mem _)) _
theorem Row_int {K : Nat → Prop} {w : World} {A : Option Addr} {n c : Nat} {xs : List Int} (h : intE.Row K w (.slice A n c) xs) (i : Nat) (hi : i < xs.length) :
    ∃ b off, A = some ⟨b, off, none⟩ ∧ b < w.heap.size ∧ K b ∧ w.cell? ⟨b, off + i, none⟩ = some (.int .i64 xs[i]) := by
  obtain ⟨b, off, cs, rfl, hb, hl, rfl, h2⟩ := h.get i hi
  have := h2 0 _ rfl
  exact ⟨b, off, rfl, hl, hb, by simpa [Enc.int, Enc.scalar] using this⟩

theorem crash_next {s : DS} {ks : List Int} {j m : Nat} (hj : j < s.fs.length) (h : cutN s.fs[j] ks[j]? = m) : crashN s ks (j + 1) = (crashN s ks j).keep j m := by
  show (crashN s ks j).keep j (cutN (s.fs.getD j ⟨[], 0⟩) ks[j]?) = _
  rw [← h]
  simp [hj]
set_option maxRecDepth 8000 in
set_option maxHeartbeats 2000000 in
theorem crash_any {w : World} {d : Nat} {G K : Nat → Prop} {s : DS} {C : Int} {v : Value} {ks : List Int} (h : Dk w d G s) (hs : s.Ok C) (hC : C ≤ 1000000000) (hk : intE.Row K w v ks) (hKd : ∀ b, K b → b ≠ d) :
    Calls Try.prog 16 #[.pointer (some ⟨d, 0, none⟩), v] w fun e w' => e = .returned (.int .i64 0) ∧ Dk w' d G (s.crash ks) ∧ Ext (fun b => b = d) w w' := by
  obtain ⟨A, c, rfl, hl1, hl2⟩ := hk.form
  have m0 : maxLen ≤ 9223372036854775807 := by unfold maxLen; omega
  have hn := h.n
  have hd := h.lt
  have HD := hid h
  have HN := hid hs.n1
  have HN2 := hid hs.n2
  have HS := hid hs
  have HC := hid (show C ≤ 1000000000000 by omega)
  have HC2 := hid hC
  have HR := hid hk
  have HKD := hid hKd
  have HLL := hid (And.intro hl1 hl2)
  clear h hs hC hk hKd hl1 hl2 m0
  go_enter Try.func16, Try.ntmps16
  go_wp2_with (first | ((with_reducible refine wp_region_plan (id := 9) (.fin [(false, 0), (false, 1), (false, 2), (false, 3), (false, 4), (false, 5), (false, 6), (false, 7), (false, 8), (false, 9), (false, 10), (false, 11), (false, 12), (false, 13), (false, 14), (false, 15), (false, 16)]) ?_ ?_ ?_ ?_ ?_ ?_); kernel_rfl; kernel_rfl; kernel_rfl; kernel_rfl; (intro c a d v w h; cases d <;> exact h)) | (with_reducible refine wpPlan_eff ?_) | (with_reducible refine wpPlan_fin ?_) | (with_reducible refine wpPlan_two ?_) | (with_reducible refine wpOpPair ?_ ?_) | ((with_reducible apply wpPre_keep); rfl; intro K' hK'; go_simp; refine hK' _ _ ?_; intro f hf; clear hK' K') | ((with_reducible apply wpPre_drop); rfl; intro K' hK'; go_simp; refine hK' _ _ ?_; intro f; clear hK' K') | (with_reducible refine wpPre_nil ?_) | ((with_reducible apply wpOp_list); rfl) | (with_reducible refine heldPair ?_ ?_) | ((with_reducible refine heldH_no ?_ ?_); rfl) | (with_reducible refine heldH_yes ?_ ?_) | (with_reducible exact heldH_nil) | (unfold YAt; go_simp; done) | (go_at_call 35; refine (made_any (HD.out.below (by repeat (first | (with_reducible exact Below.refl _ _) | (with_reducible exact bl_mm) | (with_reducible refine bl_dr ?_) | (with_reducible refine bl_drN ?_ _) | (with_reducible refine bl_al ?_ _) | (with_reducible refine bl_more ?_ _ _)))) HN.out).mono ?_; rintro e w1 ⟨rfl, hb1⟩; obtain ⟨ex, dx, rfl⟩ := more_of hb1; clear hb1))
  go_loopg [15] s.fs.length (fun k i wr => ∃ j : Nat, j + k = s.fs.length ∧ i = .int .i64 j ∧ Dk wr d G (crashN s ks j) ∧ Ext (fun b => b = d) w wr)
  case atStart => exact ⟨0, by omega, rfl, HD.out.below (by repeat (first | (with_reducible exact Below.refl _ _) | (with_reducible exact bl_mm) | (with_reducible refine bl_dr ?_) | (with_reducible refine bl_drN ?_ _) | (with_reducible refine bl_al ?_ _) | (with_reducible refine bl_more ?_ _ _))), (by repeat (first | (with_reducible exact Ext.refl _ _) | (with_reducible refine ex_dr ?_) | (with_reducible refine ex_drN ?_ _) | (with_reducible refine ex_al ?_ _) | (with_reducible refine ex_more ?_ _ _) | (with_reducible refine Ext.set ?_ _ _ _ (by first | exact rfl | exact .inl rfl | exact .inr rfl))))⟩
  case round =>
    obtain ⟨j, hj, rfl, hq, he⟩ := hrel
    have HQ := hid hq
    have HE := hid he
    have HK := hid hj
    have hd2 := hq.lt
    have hrow := HR.out.ext he (fun b hb _ => HKD.out b hb)
    by_cases hlt : j < s.fs.length
    · have hlt2 : j < (crashN s ks j).fs.length := by rw [crash_len]; exact hlt
      obtain ⟨g, ⟨v, c1, c2, h3, h4⟩, _⟩ := hq.take j hlt2
      obtain ⟨A3, c3, rfl, -, -⟩ := h3.form
      rw [crash_file s ks hlt] at c1 c2
      have i1 : (j : Int) < (s.fs.length : Int) := by omega
      have i2 : (0 : Int) ≤ (j : Int) := by omega
      have i3 : (j : Int) < 65 := by have := HN2.out; omega
      have w1 : IntKind.i64.wrap ((j : Int) + 1) = ((j + 1 : Nat) : Int) := by rw [IntWalk.i64_in _ (by omega)]; rfl
      have hsy := HS.out.sync _ (List.getElem_mem hlt)
      have hln := HS.out.len (List.getElem_mem hlt)
      have HO := hid (crash_ok HS.out ks j (by omega))
      have HJ := hid (And.intro hlt hlt2)
      have hnle : ∀ m, m ≤ s.fs[j].b.length → m ≤ ((crashN s ks j).fs[j]'hlt2).b.length := fun m h => by rw [crash_file s ks hlt]; exact h
      have HMX := hid hnle
      have HRW := hid hrow
      have hC2 := HC2.out
      clear hq he hj h3 h4 hnle hrow
      by_cases hk : j < ks.length
      · obtain ⟨bb, off, rfl, hbl, _, k1⟩ := Row_int HRW.out j hk
        have j1 : (j : Int) < (ks.length : Int) := by omega
        by_cases hneg : ks[j] < 0
        · obtain ⟨m, hm⟩ : ∃ m, m = s.fs[j].synced := ⟨_, rfl⟩
          have HM := hid (HMX.out m (by omega))
          have HCUT : Hid (cutN s.fs[j] ks[j]? = m) := hid (by rw [hm]; simp [cutN, hk]; omega)
          rw [← hm] at c2
          have w2 : IntKind.i64.wrap ((s.fs[j].b.length : Int) - (m : Int)) = (s.fs[j].b.length : Int) - (m : Int) := IntWalk.i64_in _ (by omega)
          have w3 : ¬ (s.fs[j].b.length : Int) - (m : Int) < 0 := by omega
          have w4 : IntKind.i64.wrap (m : Int) = (m : Int) := IntWalk.i64_in _ (by omega)
          clear hm hsy hln hC2
          go_wp2_with (first | ((with_reducible refine wp_region_plan (id := 9) (.fin [(false, 0), (false, 1), (false, 2), (false, 3), (false, 4), (false, 5), (false, 6), (false, 7), (false, 8), (false, 9), (false, 10), (false, 11), (false, 12), (false, 13), (false, 14), (false, 15), (false, 16)]) ?_ ?_ ?_ ?_ ?_ ?_); kernel_rfl; kernel_rfl; kernel_rfl; kernel_rfl; (intro c a d v w h; cases d <;> exact h)) | (with_reducible refine wpPlan_eff ?_) | (with_reducible refine wpPlan_fin ?_) | (with_reducible refine wpPlan_two ?_) | (with_reducible refine wpOpPair ?_ ?_) | ((with_reducible apply wpPre_keep); rfl; intro K' hK'; go_simp; refine hK' _ _ ?_; intro f hf; clear hK' K') | ((with_reducible apply wpPre_drop); rfl; intro K' hK'; go_simp; refine hK' _ _ ?_; intro f; clear hK' K') | (with_reducible refine wpPre_nil ?_) | ((with_reducible apply wpOp_list); rfl) | (with_reducible refine heldPair ?_ ?_) | ((with_reducible refine heldH_no ?_ ?_); rfl) | (with_reducible refine heldH_yes ?_ ?_) | (with_reducible exact heldH_nil) | (unfold YAt; go_simp; done) | (go_at_call 39; refine (keep_any (C := C) (HQ.out.below (by repeat (first | (with_reducible exact Below.refl _ _) | (with_reducible exact bl_mm) | (with_reducible refine bl_dr ?_) | (with_reducible refine bl_drN ?_ _) | (with_reducible refine bl_al ?_ _) | (with_reducible refine bl_more ?_ _ _)))) HO.out HC.out j HJ.out.2 m HM.out).mono ?_; rintro e w3 ⟨rfl, hq, he⟩; have HQ2 := hid hq; have HE2 := hid he; clear hq he))
          all_goals (
            go_roundg (s.fs.length - (j + 1))
            case measure => have := HK.out; omega
            case rel => exact ⟨j + 1, by have := HK.out; omega, rfl, by rw [crash_next (m := m) HJ.out.1 HCUT.out]; exact HQ2.out, HE.out.trans (Ext.trans (by repeat (first | (with_reducible exact Ext.refl _ _) | (with_reducible refine ex_dr ?_) | (with_reducible refine ex_drN ?_ _) | (with_reducible refine ex_al ?_ _) | (with_reducible refine ex_more ?_ _ _) | (with_reducible refine Ext.set ?_ _ _ _ (by first | exact rfl | exact .inl rfl | exact .inr rfl)))) HE2.out (fun _ _ h => h)) (fun _ _ h => h)⟩)
        · by_cases hbig : (s.fs[j].b.length : Int) - (s.fs[j].synced : Int) < ks[j]
          · obtain ⟨m, hm⟩ : ∃ m, m = s.fs[j].b.length := ⟨_, rfl⟩
            have HM := hid (HMX.out m (by omega))
            have HCUT : Hid (cutN s.fs[j] ks[j]? = m) := hid (by rw [hm]; simp [cutN, hk]; omega)
            have w2 : IntKind.i64.wrap ((s.fs[j].b.length : Int) - (s.fs[j].synced : Int)) = (s.fs[j].b.length : Int) - (s.fs[j].synced : Int) := IntWalk.i64_in _ (by omega)
            have w3 : IntKind.i64.wrap ((s.fs[j].synced : Int) + ((s.fs[j].b.length : Int) - (s.fs[j].synced : Int))) = (m : Int) := by rw [IntWalk.i64_in _ (by omega)]; omega
            clear hm hsy hln hC2
            go_wp2_with (first | ((with_reducible refine wp_region_plan (id := 9) (.fin [(false, 0), (false, 1), (false, 2), (false, 3), (false, 4), (false, 5), (false, 6), (false, 7), (false, 8), (false, 9), (false, 10), (false, 11), (false, 12), (false, 13), (false, 14), (false, 15), (false, 16)]) ?_ ?_ ?_ ?_ ?_ ?_); kernel_rfl; kernel_rfl; kernel_rfl; kernel_rfl; (intro c a d v w h; cases d <;> exact h)) | (with_reducible refine wpPlan_eff ?_) | (with_reducible refine wpPlan_fin ?_) | (with_reducible refine wpPlan_two ?_) | (with_reducible refine wpOpPair ?_ ?_) | ((with_reducible apply wpPre_keep); rfl; intro K' hK'; go_simp; refine hK' _ _ ?_; intro f hf; clear hK' K') | ((with_reducible apply wpPre_drop); rfl; intro K' hK'; go_simp; refine hK' _ _ ?_; intro f; clear hK' K') | (with_reducible refine wpPre_nil ?_) | ((with_reducible apply wpOp_list); rfl) | (with_reducible refine heldPair ?_ ?_) | ((with_reducible refine heldH_no ?_ ?_); rfl) | (with_reducible refine heldH_yes ?_ ?_) | (with_reducible exact heldH_nil) | (unfold YAt; go_simp; done) | (go_at_call 39; refine (keep_any (C := C) (HQ.out.below (by repeat (first | (with_reducible exact Below.refl _ _) | (with_reducible exact bl_mm) | (with_reducible refine bl_dr ?_) | (with_reducible refine bl_drN ?_ _) | (with_reducible refine bl_al ?_ _) | (with_reducible refine bl_more ?_ _ _)))) HO.out HC.out j HJ.out.2 m HM.out).mono ?_; rintro e w3 ⟨rfl, hq, he⟩; have HQ2 := hid hq; have HE2 := hid he; clear hq he))
            all_goals (
              go_roundg (s.fs.length - (j + 1))
              case measure => have := HK.out; omega
              case rel => exact ⟨j + 1, by have := HK.out; omega, rfl, by rw [crash_next (m := m) HJ.out.1 HCUT.out]; exact HQ2.out, HE.out.trans (Ext.trans (by repeat (first | (with_reducible exact Ext.refl _ _) | (with_reducible refine ex_dr ?_) | (with_reducible refine ex_drN ?_ _) | (with_reducible refine ex_al ?_ _) | (with_reducible refine ex_more ?_ _ _) | (with_reducible refine Ext.set ?_ _ _ _ (by first | exact rfl | exact .inl rfl | exact .inr rfl)))) HE2.out (fun _ _ h => h)) (fun _ _ h => h)⟩)
          · obtain ⟨q, hq⟩ : ∃ q : Nat, ks[j] = (q : Int) := ⟨ks[j].toNat, by omega⟩
            obtain ⟨m, hm⟩ : ∃ m, m = s.fs[j].synced + q := ⟨_, rfl⟩
            have HM := hid (HMX.out m (by omega))
            have HCUT : Hid (cutN s.fs[j] ks[j]? = m) := hid (by rw [hm]; simp [cutN, hk, hq]; omega)
            have w2 : IntKind.i64.wrap ((s.fs[j].b.length : Int) - (s.fs[j].synced : Int)) = (s.fs[j].b.length : Int) - (s.fs[j].synced : Int) := IntWalk.i64_in _ (by omega)
            have w3 : IntKind.i64.wrap ((s.fs[j].synced : Int) + (q : Int)) = (m : Int) := by rw [IntWalk.i64_in _ (by omega)]; omega
            rw [hq] at k1 hbig hneg
            clear hm hsy hln hC2 hq
            go_wp2_with (first | ((with_reducible refine wp_region_plan (id := 9) (.fin [(false, 0), (false, 1), (false, 2), (false, 3), (false, 4), (false, 5), (false, 6), (false, 7), (false, 8), (false, 9), (false, 10), (false, 11), (false, 12), (false, 13), (false, 14), (false, 15), (false, 16)]) ?_ ?_ ?_ ?_ ?_ ?_); kernel_rfl; kernel_rfl; kernel_rfl; kernel_rfl; (intro c a d v w h; cases d <;> exact h)) | (with_reducible refine wpPlan_eff ?_) | (with_reducible refine wpPlan_fin ?_) | (with_reducible refine wpPlan_two ?_) | (with_reducible refine wpOpPair ?_ ?_) | ((with_reducible apply wpPre_keep); rfl; intro K' hK'; go_simp; refine hK' _ _ ?_; intro f hf; clear hK' K') | ((with_reducible apply wpPre_drop); rfl; intro K' hK'; go_simp; refine hK' _ _ ?_; intro f; clear hK' K') | (with_reducible refine wpPre_nil ?_) | ((with_reducible apply wpOp_list); rfl) | (with_reducible refine heldPair ?_ ?_) | ((with_reducible refine heldH_no ?_ ?_); rfl) | (with_reducible refine heldH_yes ?_ ?_) | (with_reducible exact heldH_nil) | (unfold YAt; go_simp; done) | (go_at_call 39; refine (keep_any (C := C) (HQ.out.below (by repeat (first | (with_reducible exact Below.refl _ _) | (with_reducible exact bl_mm) | (with_reducible refine bl_dr ?_) | (with_reducible refine bl_drN ?_ _) | (with_reducible refine bl_al ?_ _) | (with_reducible refine bl_more ?_ _ _)))) HO.out HC.out j HJ.out.2 m HM.out).mono ?_; rintro e w3 ⟨rfl, hq, he⟩; have HQ2 := hid hq; have HE2 := hid he; clear hq he))
            all_goals (
              go_roundg (s.fs.length - (j + 1))
              case measure => have := HK.out; omega
              case rel => exact ⟨j + 1, by have := HK.out; omega, rfl, by rw [crash_next (m := m) HJ.out.1 HCUT.out]; exact HQ2.out, HE.out.trans (Ext.trans (by repeat (first | (with_reducible exact Ext.refl _ _) | (with_reducible refine ex_dr ?_) | (with_reducible refine ex_drN ?_ _) | (with_reducible refine ex_al ?_ _) | (with_reducible refine ex_more ?_ _ _) | (with_reducible refine Ext.set ?_ _ _ _ (by first | exact rfl | exact .inl rfl | exact .inr rfl)))) HE2.out (fun _ _ h => h)) (fun _ _ h => h)⟩)
      · have j1 : ¬ (j : Int) < (ks.length : Int) := by omega
        obtain ⟨m, hm⟩ : ∃ m, m = s.fs[j].synced := ⟨_, rfl⟩
        have HM := hid (HMX.out m (by omega))
        have HCUT : Hid (cutN s.fs[j] ks[j]? = m) := hid (by rw [hm]; simp [cutN, hk])
        rw [← hm] at c2
        have w4 : IntKind.i64.wrap (m : Int) = (m : Int) := IntWalk.i64_in _ (by omega)
        clear hm hsy hln hC2
        go_wp2_with (first | ((with_reducible refine wp_region_plan (id := 9) (.fin [(false, 0), (false, 1), (false, 2), (false, 3), (false, 4), (false, 5), (false, 6), (false, 7), (false, 8), (false, 9), (false, 10), (false, 11), (false, 12), (false, 13), (false, 14), (false, 15), (false, 16)]) ?_ ?_ ?_ ?_ ?_ ?_); kernel_rfl; kernel_rfl; kernel_rfl; kernel_rfl; (intro c a d v w h; cases d <;> exact h)) | (with_reducible refine wpPlan_eff ?_) | (with_reducible refine wpPlan_fin ?_) | (with_reducible refine wpPlan_two ?_) | (with_reducible refine wpOpPair ?_ ?_) | ((with_reducible apply wpPre_keep); rfl; intro K' hK'; go_simp; refine hK' _ _ ?_; intro f hf; clear hK' K') | ((with_reducible apply wpPre_drop); rfl; intro K' hK'; go_simp; refine hK' _ _ ?_; intro f; clear hK' K') | (with_reducible refine wpPre_nil ?_) | ((with_reducible apply wpOp_list); rfl) | (with_reducible refine heldPair ?_ ?_) | ((with_reducible refine heldH_no ?_ ?_); rfl) | (with_reducible refine heldH_yes ?_ ?_) | (with_reducible exact heldH_nil) | (unfold YAt; go_simp; done) | (go_at_call 39; refine (keep_any (C := C) (HQ.out.below (by repeat (first | (with_reducible exact Below.refl _ _) | (with_reducible exact bl_mm) | (with_reducible refine bl_dr ?_) | (with_reducible refine bl_drN ?_ _) | (with_reducible refine bl_al ?_ _) | (with_reducible refine bl_more ?_ _ _)))) HO.out HC.out j HJ.out.2 m HM.out).mono ?_; rintro e w3 ⟨rfl, hq, he⟩; have HQ2 := hid hq; have HE2 := hid he; clear hq he))
        all_goals (
          go_roundg (s.fs.length - (j + 1))
          case measure => have := HK.out; omega
          case rel => exact ⟨j + 1, by have := HK.out; omega, rfl, by rw [crash_next (m := m) HJ.out.1 HCUT.out]; exact HQ2.out, HE.out.trans (Ext.trans (by repeat (first | (with_reducible exact Ext.refl _ _) | (with_reducible refine ex_dr ?_) | (with_reducible refine ex_drN ?_ _) | (with_reducible refine ex_al ?_ _) | (with_reducible refine ex_more ?_ _ _) | (with_reducible refine Ext.set ?_ _ _ _ (by first | exact rfl | exact .inl rfl | exact .inr rfl)))) HE2.out (fun _ _ h => h)) (fun _ _ h => h)⟩)
    · obtain rfl : j = s.fs.length := by omega
      have i1 : ¬ (s.fs.length : Int) < (s.fs.length : Int) := by omega
      have f1 := hq.frz 132
      have f2 := hq.frz 133
      have k1 := hq.fuse
      have k2 := hq.down
      clear hq he hj hrow
      go_wp2_with (first | ((with_reducible refine wp_region_plan (id := 9) (.fin [(false, 0), (false, 1), (false, 2), (false, 3), (false, 4), (false, 5), (false, 6), (false, 7), (false, 8), (false, 9), (false, 10), (false, 11), (false, 12), (false, 13), (false, 14), (false, 15), (false, 16)]) ?_ ?_ ?_ ?_ ?_ ?_); kernel_rfl; kernel_rfl; kernel_rfl; kernel_rfl; (intro c a d v w h; cases d <;> exact h)) | (with_reducible refine wpPlan_eff ?_) | (with_reducible refine wpPlan_fin ?_) | (with_reducible refine wpPlan_two ?_) | (with_reducible refine wpOpPair ?_ ?_) | ((with_reducible apply wpPre_keep); rfl; intro K' hK'; go_simp; refine hK' _ _ ?_; intro f hf; clear hK' K') | ((with_reducible apply wpPre_drop); rfl; intro K' hK'; go_simp; refine hK' _ _ ?_; intro f; clear hK' K') | (with_reducible refine wpPre_nil ?_) | ((with_reducible apply wpOp_list); rfl) | (with_reducible refine heldPair ?_ ?_) | ((with_reducible refine heldH_no ?_ ?_); rfl) | (with_reducible refine heldH_yes ?_ ?_) | (with_reducible exact heldH_nil) | (unfold YAt; go_simp; done))
      go_ret
      refine ⟨rfl, ?_, Ext.trans HE.out ((by repeat (first | (with_reducible exact Ext.refl _ _) | (with_reducible refine ex_dr ?_) | (with_reducible refine ex_drN ?_ _) | (with_reducible refine ex_al ?_ _) | (with_reducible refine ex_more ?_ _ _) | (with_reducible refine Ext.set ?_ _ _ _ (by first | exact rfl | exact .inl rfl | exact .inr rfl)))) : Ext (fun b => b = d) wr _) (fun _ _ h => h)⟩
      exact ((HQ.out.setFuse (by rw [crash_len]; exact HN2.out) (-1)).setDown (by rw [crash_len]; exact HN2.out) false).below (by repeat (first | (with_reducible exact Below.refl _ _) | (with_reducible exact bl_mm) | (with_reducible refine bl_dr ?_) | (with_reducible refine bl_drN ?_ _) | (with_reducible refine bl_al ?_ _) | (with_reducible refine bl_more ?_ _ _)))
end Go.Proofs.Ytgpcgndmdkgbdaa
