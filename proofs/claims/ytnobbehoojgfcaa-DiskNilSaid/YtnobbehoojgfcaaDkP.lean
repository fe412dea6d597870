/- A disk and the document's; are they alike? -/
import Derived.Test.YtnobbehoojgfcaaDkO
import Derived.Laws.BytesArg
namespace Go.Proofs.Ytnobbehoojgfcaa
open Go.RowKit

/-- A disk that tells s, the document's that tells t, behind w0. -/
structure Two (w0 w : World) (d r gF : Nat) (s t : DS) : Prop where
  dk : Dk w d (fun b => w0.heap.size ≤ b ∧ b ≠ r ∧ b ≠ gF) s
  rk : Rk w r gF t
  bw : Below w0.heap.size w0 w
  ld : w0.heap.size ≤ d
  lr : w0.heap.size ≤ r
  lg : w0.heap.size ≤ gF
theorem Two.dr {w0 w : World} {d r gF : Nat} {s t : DS} (h : Two w0 w d r gF s t) : d ≠ r ∧ d ≠ gF := by
  obtain ⟨c, h1, _⟩ := h.dk.blk
  obtain ⟨c2, h2⟩ := h.rk.blk
  obtain ⟨c3, h3⟩ := h.rk.row
  constructor
  · rintro rfl; rw [h1] at h2; cases h2
  · rintro rfl; rw [h1] at h3; cases h3
theorem Two.below {w0 w W : World} {d r gF : Nat} {s t : DS} (h : Two w0 w d r gF s t) (hb : Below w.heap.size w W) : Two w0 W d r gF s t :=
  ⟨h.dk.below hb, h.rk.below hb, h.bw.trans (hb.mono h.bw.size), h.ld, h.lr, h.lg⟩
theorem Two.toD {w0 w w' : World} {d r gF : Nat} {s t s' : DS} {G : Nat → Prop} (h : Two w0 w d r gF s t) (hG : ∀ b, G b → w0.heap.size ≤ b ∧ b ≠ r ∧ b ≠ gF) (hd : Dk w' d (fun b => G b ∨ w.heap.size ≤ b) s') (he : Ext (fun b => b = d ∨ G b) w w') : Two w0 w' d r gF s' t := by
  obtain ⟨h1, h2⟩ := h.dr
  obtain ⟨l1, l2⟩ := h.rk.lt
  have h3 := h.bw.size
  have h4 := h.ld
  refine ⟨hd.mono (fun b hb _ => ?_), h.rk.ext he (fun e => ?_) (fun e => ?_), h.bw.trans (he.toBelow h.bw.size (fun x hx e => ?_)), h.ld, h.lr, h.lg⟩
  · rcases hb with hb | hb
    · exact hG b hb
    · omega
  · rcases e with e | e
    · exact h1 e.symm
    · exact (hG _ e).2.1 rfl
  · rcases e with e | e
    · exact h2 e.symm
    · exact (hG _ e).2.2 rfl
  · rcases e with e | e
    · omega
    · have := hG _ e; omega
theorem Two.toR {w0 w w' : World} {d r gF : Nat} {s t t' : DS} (h : Two w0 w d r gF s t) (hr : Rk w' r gF t') (he : Ext (fun b => b = r ∨ b = gF) w w') : Two w0 w' d r gF s t' := by
  obtain ⟨h1, h2⟩ := h.dr
  have h5 := h.lr
  have h6 := h.lg
  refine ⟨h.dk.ext he (fun e => e.elim h1 h2) (fun b hb e => ?_), hr, h.bw.trans (he.toBelow h.bw.size (fun x hx e => by omega)), h.ld, h.lr, h.lg⟩
  exact e.elim hb.2.1 hb.2.2

theorem DS.Ok.down {s : DS} {C : Int} (h : s.Ok C) (b : Bool) : DS.Ok { s with down := b } C := ⟨h.room, h.tot, h.n1, h.n2, h.sync, h.fuse1, h.fuse2⟩
theorem DS.Ok.setf {s : DS} {C : Int} (h : s.Ok C) {f : Int} (h1 : -1 ≤ f) (h2 : f ≤ 9223372036854775807) : DS.Ok { s with fuse := f } C := ⟨h.room, h.tot, h.n1, h.n2, h.sync, h1, h2⟩
theorem DS.Ok.mono {s : DS} {C C' : Int} (h : s.Ok C) (hc : C ≤ C') : s.Ok C' := ⟨h.room, Int.le_trans h.tot hc, h.n1, h.n2, h.sync, h.fuse1, h.fuse2⟩
theorem burn_fs (s : DS) : s.burn.fs = s.fs := by unfold DS.burn; split <;> rfl
theorem burn_room (s : DS) : s.burn.room = s.room := by unfold DS.burn; split <;> rfl
theorem doW_ok {s : DS} {C : Int} {i : Int} {may : Nat → Int} {act : DS → Nat → DS} (h : s.Ok C) (ha : ∀ k, k < s.fs.length → may k = 0 → s.burn.Ok C → (act s.burn k).Ok C) : (doW s i may act).1.Ok C := by
  generalize hp : doW s i may act = p
  have hw := doW_way s i may act
  rw [hp] at hw
  cases hw with
  | down _ => exact h
  | none _ _ => exact h
  | may _ _ _ _ _ => exact h
  | off _ _ _ _ _ _ => exact h.down true
  | done k h1 hk hi hm hf => exact ha k hi hm (h.burn hf)
theorem DS.Ok.sync' {s : DS} {C : Int} (h : s.Ok C) {i : Nat} (hi : i < s.fs.length) : (s.sync i).Ok C := by
  rw [sync_eq hi]
  have := bytes_set s.fs i hi ⟨s.fs[i].b, s.fs[i].b.length⟩
  have ht := h.tot
  unfold DS.tot at ht
  refine ⟨h.room, ?_, by simpa using h.n1, by simpa using h.n2, fun f hf => ?_, h.fuse1, h.fuse2⟩
  · show s.room + (bytes (s.fs.set i ⟨s.fs[i].b, s.fs[i].b.length⟩) : Int) ≤ C
    simp only at this
    omega
  · rcases List.mem_or_eq_of_mem_set hf with h1 | rfl
    · exact h.sync f h1
    · exact Nat.le_refl _
theorem DS.Ok.app {s : DS} {C : Int} (h : s.Ok C) {i : Nat} (hi : i < s.fs.length) {l : List UInt8} (hl : (l.length : Int) ≤ s.room) : (s.app i l).Ok C := by
  rw [app_eq hi]
  have := bytes_set s.fs i hi ⟨s.fs[i].b ++ l, s.fs[i].synced⟩
  have ht := h.tot
  unfold DS.tot at ht
  refine ⟨?_, ?_, by simpa using h.n1, by simpa using h.n2, fun f hf => ?_, h.fuse1, h.fuse2⟩
  · show 0 ≤ s.room - (l.length : Int); omega
  · show s.room - (l.length : Int) + (bytes (s.fs.set i ⟨s.fs[i].b ++ l, s.fs[i].synced⟩) : Int) ≤ C
    simp only [List.length_append] at this
    omega
  · rcases List.mem_or_eq_of_mem_set hf with h1 | rfl
    · exact h.sync f h1
    · have := h.sync _ (List.getElem_mem hi)
      simp; omega
theorem sync_ok {s : DS} {C : Int} (h : s.Ok C) (i : Int) : (syncR s i).1.Ok C := doW_ok h (fun k hk _ hb => hb.sync' (by rw [burn_fs]; exact hk))
theorem app_ok {s : DS} {C : Int} (h : s.Ok C) (i : Int) (l : List UInt8) : (appR s i l).1.Ok C := doW_ok h (fun k hk hm hb => hb.app (by rw [burn_fs]; exact hk) (by
  rw [burn_room]
  by_cases hc : s.room < (l.length : Int)
  · rw [if_pos hc] at hm; cases hm
  · omega))
theorem cut_ok {s : DS} {C : Int} (h : s.Ok C) (i n : Int) : (cutR s i n).1.Ok C := doW_ok h (fun k hk hm hb => by
  simp only [cut_may hk] at hm
  have hc : ¬ (n < 0 ∨ (s.fs[k].b.length : Int) < n) := fun hc => by rw [if_pos hc] at hm; cases hm
  have hk2 : k < s.burn.fs.length := by rw [burn_fs]; exact hk
  refine hb.keep hk2 ?_
  have e : s.burn.fs[k]'hk2 = s.fs[k] := by simp only [burn_fs]
  rw [e]; omega)
theorem arm_ok {s : DS} {C : Int} (h : s.Ok C) {n : Int} (hn : n ≤ 9223372036854775807) : (armR s n).1.Ok C := by
  unfold armR
  split
  · exact h
  · exact h.setf (by omega) (by omega)
theorem grow_ok {s : DS} {C : Int} (h : s.Ok C) (n : Int) : (growR s n).1.Ok (C + 1048576) := by
  unfold growR
  split
  · exact h.mono (by omega)
  · have h1 := h.room
    have h2 := h.tot
    unfold DS.tot at h2
    refine ⟨?_, ?_, h.n1, h.n2, h.sync, h.fuse1, h.fuse2⟩
    · show 0 ≤ s.room + n; omega
    · show s.room + n + (bytes s.fs : Int) ≤ _; omega
theorem crashS_ok {s : DS} {C : Int} (h : s.Ok C) (ks : List Int) : (s.crash ks).Ok C := by
  have := crash_ok h ks s.fs.length (Nat.le_refl _)
  exact ⟨this.room, this.tot, this.n1, this.n2, this.sync, by show (-1 : Int) ≤ -1; omega, by show (-1 : Int) ≤ _; omega⟩

theorem str_run {K : Nat → Prop} {w : World} {v : Value} {l : List UInt8} (h : u8E.Row K w v l) : (convert 33 9 v).run Try.prog w = .ok (.string (bs l)) w := by
  obtain ⟨A, c, rfl, h1, h2, h3⟩ := h
  by_cases hl : l = []
  · subst hl
    cases A with
    | none => exact run_convert_bytes_nil w 33 5 Try.underlying33 Try.underlying5 0 c 9 Try.underlying9
    | some a => exact run_convert_bytes_back w 33 9 5 a c [] Try.underlying33 Try.underlying5 Try.underlying9 (fun j hj => by simp at hj)
  · obtain ⟨b, off, rfl, _, _, ha⟩ := h3 hl
    refine run_convert_bytes_back w 33 9 5 ⟨b, off, none⟩ c l Try.underlying33 Try.underlying5 Try.underlying9 (fun j hj => ?_)
    obtain ⟨cs, rfl, h5⟩ := ha j hj
    have := h5 0 _ rfl
    rw [Addr.add_lit]
    simpa [u8E, Enc.scalar] using this
end Go.Proofs.Ytnobbehoojgfcaa
