/- Each call, whatever its way. -/
import Derived.Test.YtnobbehoojgfcaaDkN
namespace Go.Proofs.Ytnobbehoojgfcaa
open Go.RowKit

def DkTo (w : World) (d : Nat) (G : Nat → Prop) (p : DS × Int) (e : Ending) (w' : World) : Prop := e = .returned (.int .i64 p.2) ∧ Dk w' d (fun b => G b ∨ w.heap.size ≤ b) p.1 ∧ Ext (fun b => b = d ∨ G b) w w'
def RkTo (w : World) (r gF : Nat) (p : DS × Int) (e : Ending) (w' : World) : Prop := e = .returned (.int .i64 p.2) ∧ Rk w' r gF p.1 ∧ Ext (fun b => b = r ∨ b = gF) w w'
theorem dkTo_below {w w' : World} {d : Nat} {G : Nat → Prop} {s : DS} {c : Int} {e : Ending} (h : Dk w d G s) (he : e = .returned (.int .i64 c)) (hb : Below w.heap.size w w') : DkTo w d G (s, c) e w' := ⟨he, (h.below hb).mono (fun _ h _ => .inl h), Ext.of_below hb⟩
theorem dkTo_ext {w w' : World} {d : Nat} {G : Nat → Prop} {s : DS} {c : Int} {e : Ending} (he : e = .returned (.int .i64 c)) (h : Dk w' d G s) (hb : Ext (fun b => b = d) w w') : DkTo w d G (s, c) e w' := ⟨he, h.mono (fun _ h _ => .inl h), hb.mono (fun _ _ h => .inl h)⟩
theorem rkTo_below {w w' : World} {r gF : Nat} {s : DS} {c : Int} {e : Ending} (h : Rk w r gF s) (he : e = .returned (.int .i64 c)) (hb : Below w.heap.size w w') : RkTo w r gF (s, c) e w' := ⟨he, h.below hb, Ext.of_below hb⟩

theorem sync_all {w : World} {d : Nat} {G : Nat → Prop} {s : DS} {C : Int} (h : Dk w d G s) (hs : s.Ok C) (hC : C ≤ 1000000000) (i : Int) : Calls Try.prog 22 #[.pointer (some ⟨d, 0, none⟩), .int .i64 i] w (DkTo w d G (syncR s i)) := by
  unfold syncR
  generalize hp : doW s i (fun _ => 0) (fun s i => s.sync i) = p
  have hw := doW_way s i (fun _ => 0) (fun s i => s.sync i)
  rw [hp] at hw
  cases hw with
  | down h1 => exact (sync_down h hs.n1 h1).mono fun e w' ⟨h2, h3⟩ => dkTo_below h h2 h3
  | none h1 h2 => exact (sync_none h hs.n1 h1 h2).mono fun e w' ⟨h2, h3⟩ => dkTo_below h h2 h3
  | may k h1 hk hi hm => exact absurd rfl hm
  | off k h1 hk hi hm hf => subst hk; exact (sync_off h h1 hi hs.n2 hf).mono fun e w' ⟨h2, h3, h4⟩ => dkTo_ext h2 h3 h4
  | done k h1 hk hi hm hf =>
    subst hk
    by_cases h0 : 0 < s.fuse
    · exact (sync_burn h hs (by omega) h1 hi h0).mono fun e w' ⟨h2, h3, h4⟩ => dkTo_ext h2 h3 h4
    · exact (sync_bare h hs (by omega) h1 hi (by omega)).mono fun e w' ⟨h2, h3, h4⟩ => dkTo_ext h2 h3 h4
theorem rsync_all {w : World} {r gF : Nat} {s : DS} {C : Int} (h : Rk w r gF s) (hs : s.Ok C) (hC : C ≤ 1000000000) (i : Int) : Calls Try.prog 27 #[.pointer (some ⟨r, 0, none⟩), .int .i64 i] w (RkTo w r gF (syncR s i)) := by
  unfold syncR
  generalize hp : doW s i (fun _ => 0) (fun s i => s.sync i) = p
  have hw := doW_way s i (fun _ => 0) (fun s i => s.sync i)
  rw [hp] at hw
  cases hw with
  | down h1 => exact (rsync_down h h1).mono fun e w' ⟨h2, h3⟩ => rkTo_below h h2 h3
  | none h1 h2 => exact (rsync_none h h1 h2).mono fun e w' ⟨h2, h3⟩ => rkTo_below h h2 h3
  | may k h1 hk hi hm => exact absurd rfl hm
  | off k h1 hk hi hm hf => subst hk; exact (rsync_off h hs h1 hi hf).mono fun e w' ⟨h2, h3, h4⟩ => ⟨h2, h3, h4⟩
  | done k h1 hk hi hm hf => subst hk; exact (rsync_done h hs hC h1 hi hf).mono fun e w' ⟨h2, h3, h4⟩ => ⟨h2, h3, h4⟩
theorem cut_may {s : DS} {k : Nat} {n : Int} (hi : k < s.fs.length) : (if n < 0 ∨ ((s.fs.getD k ⟨[], 0⟩).b.length : Int) < n then (2 : Int) else 0) = if n < 0 ∨ (s.fs[k].b.length : Int) < n then 2 else 0 := by simp [hi]
theorem cut_all {w : World} {d : Nat} {G : Nat → Prop} {s : DS} {C : Int} (h : Dk w d G s) (hs : s.Ok C) (hC : C ≤ 1000000000) (i n : Int) : Calls Try.prog 21 #[.pointer (some ⟨d, 0, none⟩), .int .i64 i, .int .i64 n] w (DkTo w d G (cutR s i n)) := by
  unfold cutR
  generalize hp : doW s i (fun k => if n < 0 ∨ ((s.fs.getD k ⟨[], 0⟩).b.length : Int) < n then 2 else 0) (fun s k => s.keep k n.toNat) = p
  have hw := doW_way s i (fun k => if n < 0 ∨ ((s.fs.getD k ⟨[], 0⟩).b.length : Int) < n then 2 else 0) (fun s k => s.keep k n.toNat)
  rw [hp] at hw
  cases hw with
  | down h1 => exact (cut_down h hs.n1 h1).mono fun e w' ⟨h2, h3⟩ => dkTo_below h h2 h3
  | none h1 h2 => exact (cut_none h hs.n1 h1 h2).mono fun e w' ⟨h2, h3⟩ => dkTo_below h h2 h3
  | may k h1 hk hi hm =>
    subst hk
    simp only [cut_may hi] at hm ⊢
    by_cases hlow : n < 0
    · rw [if_pos (.inl hlow)]; exact (cut_low h h1 hi hs.n2 hlow).mono fun e w' ⟨h2, h3⟩ => dkTo_below h h2 h3
    · by_cases hhigh : (s.fs[k].b.length : Int) < n
      · rw [if_pos (.inr hhigh)]; exact (cut_high h h1 hi hs.n2 hlow hhigh).mono fun e w' ⟨h2, h3⟩ => dkTo_below h h2 h3
      · rw [if_neg (by omega)] at hm; exact absurd rfl hm
  | off k h1 hk hi hm hf =>
    subst hk
    simp only [cut_may hi] at hm
    have hc : ¬ (n < 0 ∨ (s.fs[k].b.length : Int) < n) := fun hc => by rw [if_pos hc] at hm; cases hm
    obtain ⟨m, rfl⟩ : ∃ m : Nat, n = m := ⟨n.toNat, by omega⟩
    exact (cut_off h h1 hi hs.n2 hf (by omega) (by omega)).mono fun e w' ⟨h2, h3, h4⟩ => dkTo_ext h2 h3 h4
  | done k h1 hk hi hm hf =>
    subst hk
    simp only [cut_may hi] at hm
    have hc : ¬ (n < 0 ∨ (s.fs[k].b.length : Int) < n) := fun hc => by rw [if_pos hc] at hm; cases hm
    obtain ⟨m, rfl⟩ : ∃ m : Nat, n = m := ⟨n.toNat, by omega⟩
    simp only [Int.toNat_natCast]
    by_cases h0 : 0 < s.fuse
    · exact (cut_burn h hs (by omega) h1 hi h0 (by omega)).mono fun e w' ⟨h2, h3, h4⟩ => dkTo_ext h2 h3 h4
    · exact (cut_bare h hs (by omega) h1 hi (by omega) (by omega)).mono fun e w' ⟨h2, h3, h4⟩ => dkTo_ext h2 h3 h4
theorem rcut_all {w : World} {r gF : Nat} {s : DS} {C : Int} (h : Rk w r gF s) (hs : s.Ok C) (hC : C ≤ 1000000000) (i n : Int) : Calls Try.prog 28 #[.pointer (some ⟨r, 0, none⟩), .int .i64 i, .int .i64 n] w (RkTo w r gF (cutR s i n)) := by
  unfold cutR
  generalize hp : doW s i (fun k => if n < 0 ∨ ((s.fs.getD k ⟨[], 0⟩).b.length : Int) < n then 2 else 0) (fun s k => s.keep k n.toNat) = p
  have hw := doW_way s i (fun k => if n < 0 ∨ ((s.fs.getD k ⟨[], 0⟩).b.length : Int) < n then 2 else 0) (fun s k => s.keep k n.toNat)
  rw [hp] at hw
  cases hw with
  | down h1 => exact (rcut_down h h1).mono fun e w' ⟨h2, h3⟩ => rkTo_below h h2 h3
  | none h1 h2 => exact (rcut_none h h1 h2).mono fun e w' ⟨h2, h3⟩ => rkTo_below h h2 h3
  | may k h1 hk hi hm =>
    subst hk
    simp only [cut_may hi] at hm ⊢
    by_cases hlow : n < 0
    · rw [if_pos (.inl hlow)]; exact (rcut_low h h1 hi hlow).mono fun e w' ⟨h2, h3⟩ => rkTo_below h h2 h3
    · by_cases hhigh : (s.fs[k].b.length : Int) < n
      · rw [if_pos (.inr hhigh)]; exact (rcut_high h h1 hi hlow hhigh).mono fun e w' ⟨h2, h3⟩ => rkTo_below h h2 h3
      · rw [if_neg (by omega)] at hm; exact absurd rfl hm
  | off k h1 hk hi hm hf =>
    subst hk
    simp only [cut_may hi] at hm
    have hc : ¬ (n < 0 ∨ (s.fs[k].b.length : Int) < n) := fun hc => by rw [if_pos hc] at hm; cases hm
    obtain ⟨m, rfl⟩ : ∃ m : Nat, n = m := ⟨n.toNat, by omega⟩
    exact (rcut_off h hs h1 hi hf (by omega) (by omega)).mono fun e w' ⟨h2, h3, h4⟩ => ⟨h2, h3, h4⟩
  | done k h1 hk hi hm hf =>
    subst hk
    simp only [cut_may hi] at hm
    have hc : ¬ (n < 0 ∨ (s.fs[k].b.length : Int) < n) := fun hc => by rw [if_pos hc] at hm; cases hm
    obtain ⟨m, rfl⟩ : ∃ m : Nat, n = m := ⟨n.toNat, by omega⟩
    simp only [Int.toNat_natCast]
    exact (rcut_done h hs hC h1 hi hf (by omega)).mono fun e w' ⟨h2, h3, h4⟩ => ⟨h2, h3, h4⟩
theorem append_all {w : World} {d : Nat} {G K : Nat → Prop} {s : DS} {C : Int} {B : Option Addr} {cb : Nat} {l : List UInt8} (h : Dk w d G s) (hs : s.Ok C) (hC : C ≤ 1000000000) (i : Int) (hl : u8E.Row K w (.slice B l.length cb) l) (hKd : ∀ b, K b → b ≠ d) :
    Calls Try.prog 23 #[.pointer (some ⟨d, 0, none⟩), .int .i64 i, .slice B l.length cb] w (DkTo w d G (appR s i l)) := by
  unfold appR
  generalize hp : doW s i (fun _ => if s.room < (l.length : Int) then 8 else 0) (fun s i => s.app i l) = p
  have hw := doW_way s i (fun _ => if s.room < (l.length : Int) then 8 else 0) (fun s i => s.app i l)
  rw [hp] at hw
  cases hw with
  | down h1 => exact (append_down h hs.n1 h1).mono fun e w' ⟨h2, h3⟩ => dkTo_below h h2 h3
  | none h1 h2 => exact (append_none h hs.n1 h1 h2).mono fun e w' ⟨h2, h3⟩ => dkTo_below h h2 h3
  | may k h1 hk hi hm =>
    subst hk
    by_cases hlow : s.room < (l.length : Int)
    · rw [if_pos hlow]; exact (append_full h h1 hi hs.n2 hlow).mono fun e w' ⟨h2, h3⟩ => dkTo_below h h2 h3
    · rw [if_neg hlow] at hm; exact absurd rfl hm
  | off k h1 hk hi hm hf =>
    subst hk
    have hc : ¬ s.room < (l.length : Int) := fun hc => by rw [if_pos hc] at hm; cases hm
    exact (append_off h h1 hi hs.n2 hf hc).mono fun e w' ⟨h2, h3, h4⟩ => dkTo_ext h2 h3 h4
  | done k h1 hk hi hm hf =>
    subst hk
    have hc : ¬ s.room < (l.length : Int) := fun hc => by rw [if_pos hc] at hm; cases hm
    by_cases h0 : 0 < s.fuse
    · exact (append_burn h hs hC h1 hi h0 hl hKd hc).mono fun e w' ⟨h2, h3, h4⟩ => ⟨h2, h3, h4⟩
    · exact (append_bare h hs hC h1 hi (by omega) hl hKd hc).mono fun e w' ⟨h2, h3, h4⟩ => ⟨h2, h3, h4⟩
theorem rapp_all {w : World} {r gF : Nat} {s : DS} {C : Int} {l : List UInt8} (h : Rk w r gF s) (hs : s.Ok C) (hC : C ≤ 1000000000) (i : Int) :
    Calls Try.prog 32 #[.pointer (some ⟨r, 0, none⟩), .int .i64 i, .string (bs l)] w (RkTo w r gF (appR s i l)) := by
  unfold appR
  generalize hp : doW s i (fun _ => if s.room < (l.length : Int) then 8 else 0) (fun s i => s.app i l) = p
  have hw := doW_way s i (fun _ => if s.room < (l.length : Int) then 8 else 0) (fun s i => s.app i l)
  rw [hp] at hw
  cases hw with
  | down h1 => exact (rapp_down h h1).mono fun e w' ⟨h2, h3⟩ => rkTo_below h h2 h3
  | none h1 h2 => exact (rapp_none h h1 h2).mono fun e w' ⟨h2, h3⟩ => rkTo_below h h2 h3
  | may k h1 hk hi hm =>
    subst hk
    by_cases hlow : s.room < (l.length : Int)
    · rw [if_pos hlow]; exact (rapp_full h h1 hi hlow).mono fun e w' ⟨h2, h3⟩ => rkTo_below h h2 h3
    · rw [if_neg hlow] at hm; exact absurd rfl hm
  | off k h1 hk hi hm hf =>
    subst hk
    have hc : ¬ s.room < (l.length : Int) := fun hc => by rw [if_pos hc] at hm; cases hm
    exact (rapp_off h hs h1 hi hf hc).mono fun e w' ⟨h2, h3, h4⟩ => ⟨h2, h3, h4⟩
  | done k h1 hk hi hm hf =>
    subst hk
    have hc : ¬ s.room < (l.length : Int) := fun hc => by rw [if_pos hc] at hm; cases hm
    exact (rapp_done h hs hC h1 hi hf (by omega)).mono fun e w' ⟨h2, h3, h4⟩ => ⟨h2, h3, h4⟩
def armR (s : DS) (n : Int) : DS × Int := if s.down = true then (s, 9) else ({ s with fuse := max n (-1) }, 0)
theorem arm_all {w : World} {d : Nat} {G : Nat → Prop} {s : DS} {C : Int} (h : Dk w d G s) (hs : s.Ok C) (n : Int) : Calls Try.prog 20 #[.pointer (some ⟨d, 0, none⟩), .int .i64 n] w (DkTo w d G (armR s n)) := by
  unfold armR
  by_cases h1 : s.down = true
  · rw [if_pos h1]; exact (arm_down h hs.n1 n h1).mono fun e w' ⟨h2, h3⟩ => dkTo_below h h2 h3
  · rw [if_neg h1]; exact (arm_any h hs.n1 hs.n2 n (by simpa using h1)).mono fun e w' ⟨h2, h3, h4⟩ => dkTo_ext h2 h3 h4
theorem rarm_all {w : World} {r gF : Nat} {s : DS} (h : Rk w r gF s) (n : Int) : Calls Try.prog 29 #[.pointer (some ⟨r, 0, none⟩), .int .i64 n] w (RkTo w r gF (armR s n)) := by
  unfold armR
  by_cases h1 : s.down = true
  · rw [if_pos h1]; exact (rarm_down h n h1).mono fun e w' ⟨h2, h3⟩ => rkTo_below h h2 h3
  · rw [if_neg h1]; exact (rarm_any h n (by simpa using h1)).mono fun e w' ⟨h2, h3, h4⟩ => ⟨h2, h3, h4⟩
def growR (s : DS) (n : Int) : DS × Int := if n < 0 ∨ 1048576 < s.room + n then (s, 2) else ({ s with room := s.room + n }, 0)
theorem grow_all {w : World} {d : Nat} {G : Nat → Prop} {s : DS} {C : Int} (h : Dk w d G s) (hs : s.Ok C) (hC : C ≤ 1000000000) (n : Int) : Calls Try.prog 24 #[.pointer (some ⟨d, 0, none⟩), .int .i64 n] w (DkTo w d G (growR s n)) := by
  unfold growR
  by_cases hlow : n < 0
  · rw [if_pos (.inl hlow)]; exact (grow_low h hs.n1 n hlow).mono fun e w' ⟨h2, h3⟩ => dkTo_below h h2 h3
  · by_cases hh : 1048576 < s.room + n
    · rw [if_pos (.inr hh)]; exact (grow_high h hs hC n hlow (by omega)).mono fun e w' ⟨h2, h3⟩ => dkTo_below h h2 h3
    · rw [if_neg (by omega)]; exact (grow_any h hs hC n hlow (by omega)).mono fun e w' ⟨h2, h3, h4⟩ => dkTo_ext h2 h3 h4
theorem rgrow_all {w : World} {r gF : Nat} {s : DS} {C : Int} (h : Rk w r gF s) (hs : s.Ok C) (hC : C ≤ 1000000000) (n : Int) : Calls Try.prog 31 #[.pointer (some ⟨r, 0, none⟩), .int .i64 n] w (RkTo w r gF (growR s n)) := by
  unfold growR
  by_cases hlow : n < 0
  · rw [if_pos (.inl hlow)]; exact (rgrow_low h hs hC n hlow).mono fun e w' ⟨h2, h3⟩ => rkTo_below h h2 h3
  · by_cases hbig : 1048576 < n
    · rw [if_pos (.inr (by have := hs.room; omega))]; exact (rgrow_big h hs hC n hlow hbig).mono fun e w' ⟨h2, h3⟩ => rkTo_below h h2 h3
    · by_cases hh : 1048576 < s.room + n
      · rw [if_pos (.inr hh)]; exact (rgrow_high h hs hC n hlow hbig hh).mono fun e w' ⟨h2, h3⟩ => rkTo_below h h2 h3
      · rw [if_neg (by omega)]; exact (rgrow_any h hs hC n hlow hbig hh).mono fun e w' ⟨h2, h3, h4⟩ => ⟨h2, h3, h4⟩
end Go.Proofs.Ytnobbehoojgfcaa
