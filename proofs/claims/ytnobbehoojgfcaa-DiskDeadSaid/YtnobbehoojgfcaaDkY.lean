/- A disk behind calls; the bytes and the room. -/
import Derived.Test.YtnobbehoojgfcaaDkX
namespace Go.Proofs.Ytnobbehoojgfcaa
open Go.RowKit

theorem doW_len {s : DS} {i : Int} {may : Nat → Int} {act : DS → Nat → DS} (ha : ∀ t k, (act t k).fs.length = t.fs.length) : (doW s i may act).1.fs.length = s.fs.length := by
  generalize hp : doW s i may act = p
  have hw := doW_way s i may act
  rw [hp] at hw
  cases hw with
  | down _ => rfl
  | none _ _ => rfl
  | may _ _ _ _ _ => rfl
  | off _ _ _ _ _ _ => rfl
  | done k h1 hk hi hm hf => exact (ha _ _).trans (by rw [burn_fs])
theorem sync_len (s : DS) (i : Int) : (syncR s i).1.fs.length = s.fs.length := doW_len (fun t k => by simp [DS.sync])
theorem app_len (s : DS) (i : Int) (l : List UInt8) : (appR s i l).1.fs.length = s.fs.length := doW_len (fun t k => by simp [DS.app])
theorem cut_len (s : DS) (i n : Int) : (cutR s i n).1.fs.length = s.fs.length := doW_len (fun _ _ => keep_len _ _ _)
theorem arm_len (s : DS) (n : Int) : (armR s n).1.fs.length = s.fs.length := by unfold armR; split <;> rfl
theorem grow_len (s : DS) (n : Int) : (growR s n).1.fs.length = s.fs.length := by unfold growR; split <;> rfl
theorem stepS_len (a : ActD) (s : DS) : (stepS a s).fs.length = s.fs.length := by
  unfold stepS
  split
  · exact sync_len _ _
  · split
    · exact cut_len _ _ _
    · split
      · exact arm_len _ _
      · split
        · exact crash_len _ _ _
        · split
          · exact grow_len _ _
          · split
            · rfl
            · exact app_len _ _ _
theorem doW_tot {s : DS} {i : Int} {may : Nat → Int} {act : DS → Nat → DS} (ha : ∀ k, k < s.fs.length → may k = 0 → (act s.burn k).tot = s.tot) : (doW s i may act).1.tot = s.tot := by
  generalize hp : doW s i may act = p
  have hw := doW_way s i may act
  rw [hp] at hw
  cases hw with
  | down _ => rfl
  | none _ _ => rfl
  | may _ _ _ _ _ => rfl
  | off _ _ _ _ _ _ => rfl
  | done k h1 hk hi hm hf => exact ha k hi hm
theorem burn_tot (s : DS) : s.burn.tot = s.tot := by unfold DS.tot; rw [burn_fs, burn_room]
theorem sync_tot {t : DS} {k : Nat} (hk : k < t.fs.length) : (t.sync k).tot = t.tot := by
  rw [sync_eq hk]
  have := bytes_set t.fs k hk ⟨t.fs[k].b, t.fs[k].b.length⟩
  simp only at this
  show t.room + (bytes (t.fs.set k ⟨t.fs[k].b, t.fs[k].b.length⟩) : Int) = t.room + (bytes t.fs : Int)
  omega
theorem app_tot {t : DS} {k : Nat} (hk : k < t.fs.length) (l : List UInt8) : (t.app k l).tot = t.tot := by
  rw [app_eq hk]
  have := bytes_set t.fs k hk ⟨t.fs[k].b ++ l, t.fs[k].synced⟩
  simp only [List.length_append] at this
  show t.room - (l.length : Int) + (bytes (t.fs.set k ⟨t.fs[k].b ++ l, t.fs[k].synced⟩) : Int) = t.room + (bytes t.fs : Int)
  omega
theorem crashN_tot {s : DS} {C : Int} (h : s.Ok C) (ks : List Int) : ∀ j, j ≤ s.fs.length → (crashN s ks j).tot = s.tot
  | 0, _ => rfl
  | j + 1, hj => by
    refine (keep_tot (by rw [crash_len]; omega) ?_).trans (crashN_tot h ks j (by omega))
    rw [crash_file s ks (by omega)]
    simp only [List.getD_eq_getElem?_getD, List.getElem?_eq_getElem (show j < s.fs.length by omega), Option.getD_some]
    exact cutN_le (h.sync _ (List.getElem_mem _)) _
theorem stepS_tot {a : ActD} {s : DS} {C : Int} (h : s.Ok C) (hk : a.kind ≠ 5) : (stepS a s).tot = s.tot := by
  unfold stepS
  by_cases h1 : a.kind = 1
  · rw [if_pos h1]; exact doW_tot (fun k hk _ => (sync_tot (by rw [burn_fs]; exact hk)).trans (burn_tot s))
  · rw [if_neg h1]
    by_cases h2 : a.kind = 2
    · rw [if_pos h2]
      refine doW_tot (fun k hk hm => ?_)
      simp only [cut_may hk] at hm
      have hc : ¬ (a.n < 0 ∨ (s.fs[k].b.length : Int) < a.n) := fun hc => by rw [if_pos hc] at hm; cases hm
      have hk2 : k < s.burn.fs.length := by rw [burn_fs]; exact hk
      refine (keep_tot hk2 ?_).trans (burn_tot s)
      have e : s.burn.fs[k]'hk2 = s.fs[k] := by simp only [burn_fs]
      rw [e]; omega
    · rw [if_neg h2]
      by_cases h3 : a.kind = 3
      · rw [if_pos h3]; unfold armR; split <;> rfl
      · rw [if_neg h3]
        by_cases h4 : a.kind = 4
        · rw [if_pos h4]; exact crashN_tot h _ _ (Nat.le_refl _)
        · rw [if_neg h4, if_neg hk]
          by_cases h6 : a.kind = 6
          · rw [if_pos h6]
          · rw [if_neg h6]; exact doW_tot (fun k hk _ => (app_tot (by rw [burn_fs]; exact hk) _).trans (burn_tot s))
theorem stepS_grow {a : ActD} {s : DS} (hk : a.kind = 5) : (stepS a s).tot = s.tot + ((stepS a s).room - s.room) := by
  have e : stepS a s = (growR s a.n).1 := by unfold stepS; simp [hk]
  rw [e]
  unfold growR
  split
  · show s.tot = s.tot + (s.room - s.room); omega
  · show s.room + a.n + (bytes s.fs : Int) = s.room + (bytes s.fs : Int) + (s.room + a.n - s.room); omega
theorem tot3 {s : DS} (h : s.fs.length = 3) : s.tot = s.room + ((s.fs[0]'(by omega)).b.length : Int) + ((s.fs[1]'(by omega)).b.length : Int) + ((s.fs[2]'(by omega)).b.length : Int) := by
  obtain ⟨fs, room, fuse, dn⟩ := s
  match fs, h with
  | [a, b, c], _ =>
    show room + (bytes [a, b, c] : Int) = room + (a.b.length : Int) + (b.b.length : Int) + (c.b.length : Int)
    simp [bytes]
    omega
theorem read_n {w : World} {d : Nat} {G : Nat → Prop} {s : DS} {C : Int} {n : Nat} (h : Dk w d G s) (hs : s.Ok C) (hC : C ≤ 1000000000) (i : Nat) (hn : ∃ hi : i < s.fs.length, (s.fs[i]'hi).b.length = n) :
    Calls Try.prog 15 #[.pointer (some ⟨d, 0, none⟩), .int .i64 i] w fun e w' => ∃ A c, e = .returned (.slice A n c) ∧ Below w.heap.size w w' :=
  hn.elim fun hi hn => (read_any h hs hC i hi).mono fun e w' ⟨v, h1, h2, h3⟩ => by
    obtain ⟨A, c, rfl, _, _⟩ := h2.form
    rw [hn] at h1
    exact ⟨A, c, h1, h3⟩
theorem new3 {w : World} : Calls Try.prog 10 #[.int .i64 3, .int .i64 4000] w fun e w' => ∃ d, e = .returned (.tuple #[.pointer (some ⟨d, 0, none⟩), .int .i64 0]) ∧ d = w.heap.size ∧ Dk w' d (fun _ => False) { fs := fs0 3, room := 4000, fuse := -1, down := false } ∧ Below w.heap.size w w' :=
  new_any (n := 3) (by omega) (by omega) (by omega) (by omega)
theorem rnew3 {w : World} : Calls Try.prog 11 #[.int .i64 3, .int .i64 4000] w (RNew w { fs := fs0 3, room := 4000, fuse := -1, down := false }) :=
  rnew_any (n := 3) (by omega) (by omega) (by omega) (by omega)
theorem ok3 : DS.Ok { fs := fs0 3, room := 4000, fuse := -1, down := false } 1048576 := new_okS (by omega) (by omega) (by omega) (by omega)
def Begun (w : World) (e : Ending) (w' : World) : Prop := ∃ d s, e = .returned (.pointer (some ⟨d, 0, none⟩)) ∧ Dk w' d (fun b => w.heap.size ≤ b) s ∧ w.heap.size ≤ d ∧ Below w.heap.size w w' ∧ s.Ok 300000000 ∧ s.fs.length = 3

set_option maxRecDepth 8000 in
set_option maxHeartbeats 4000000 in
theorem begun_any {w : World} {v : Value} {xs : List ActD} (h : actE.Row (fun _ => True) w v xs) (hnb : ∀ x ∈ xs, x.n ≤ 9223372036854775807) (hf : fewB xs = true) : Calls Try.prog 14 #[v] w (Begun w) := by
  obtain ⟨A, c, rfl, _, _⟩ := h.form
  have HX := hid h
  have HNB := hid hnb
  have HF := hid hf
  have hlen := few_len hf
  clear h hnb hf
  obtain ⟨wz, hz⟩ : ∃ wz, wz = w := ⟨_, rfl⟩
  have HBW : Hid (Below w.heap.size w wz) := by rw [hz]; exact hid (Below.refl _ _)
  have HZ := hid hz
  clear hz
  go_enter Try.func14, Try.ntmps14
  go_wp2_with (first | (go_at_call 10; refine (new3).mono ?_; rintro e w1 ⟨d, rfl, hd, hq, hb1⟩; have HQ := hid (And.intro hd (And.intro hq hb1)); clear hd hq hb1) | (go_at_call 11; refine (rnew3).mono ?_; rintro e w2 ⟨r, gF, rfl, hr, hg, hR, hb2⟩; have HT := hid (Two.new HQ.out.1 HQ.out.2.1 HQ.out.2.2 hr hg hR hb2); clear hr hg hR hb2))
  have HT0 := HT.out
  rw [← HZ.out] at HT0
  clear HT HQ
  go_loopg [7] xs.length (fun k i wr => ∃ (j : Nat) (s : DS), j + k = xs.length ∧ i = .int .i64 j ∧ Two wz wr d r gF s s ∧ s.Ok (1048576 * ((j : Int) + 1)) ∧ s.fs.length = 3)
  case atStart => exact ⟨0, _, by omega, rfl, HT0, ok3, by simp [fs0]⟩
  case round =>
    obtain ⟨j, s, hj, rfl, ht, hs, h3⟩ := hrel
    have HT := hid ht
    have HS := hid hs
    have HC := hid (show 1048576 * ((j : Int) + 1) ≤ 1000000000 by omega)
    have HJ := hid hj
    have HL3 := hid h3
    clear HT0 hs h3
    by_cases hlt : j < xs.length
    · obtain ⟨bb, off, B, cb, D, cd, rfl, hbl, _, hv, hk, hc⟩ := Row_act HX.out j hlt
      have e0 : wr.cell? ⟨bb, off + j * 5, none⟩ = some (.int .i64 (xs[j]'hlt).kind) := cell_kept ht.bw0 (cell_kept HBW.out (hc 0 _ rfl))
      have e1 : wr.cell? ⟨bb, off + j * 5 + 1, none⟩ = some (.int .i64 (xs[j]'hlt).i) := cell_kept ht.bw0 (cell_kept HBW.out (hc 1 _ rfl))
      have e2 : wr.cell? ⟨bb, off + j * 5 + 2, none⟩ = some (.int .i64 (xs[j]'hlt).n) := cell_kept ht.bw0 (cell_kept HBW.out (hc 2 _ rfl))
      have e3 : wr.cell? ⟨bb, off + j * 5 + 3, none⟩ = some (.slice B (xs[j]'hlt).b.length cb) := cell_kept ht.bw0 (cell_kept HBW.out (hc 3 _ rfl))
      have e4 : wr.cell? ⟨bb, off + j * 5 + 4, none⟩ = some (.slice D (xs[j]'hlt).keep.length cd) := cell_kept ht.bw0 (cell_kept HBW.out (hc 4 _ rfl))
      have HV := hid ((((hv.bound).below HBW.out).below ht.bw0).mono (K' := fun b => b < wz.heap.size) (fun b hb _ => Nat.lt_of_lt_of_le hb.2 HBW.out.size))
      have HKP := hid ((((hk.bound).below HBW.out).below ht.bw0).mono (K' := fun b => b < wz.heap.size) (fun b hb _ => Nat.lt_of_lt_of_le hb.2 HBW.out.size))
      have HOKA := hid (few_ok HF.out HNB.out j hlt)
      clear hk hv
      clear hc
      have HS2 := hid (stepS_ok HS.out HOKA.out)
      have i1 : (j : Int) < (xs.length : Int) := by omega
      have i3 : (0 : Int) ≤ (j : Int) := by omega
      have w1' : IntKind.i64.wrap ((j : Int) + 1) = ((j + 1 : Nat) : Int) := by rw [IntWalk.i64_in _ (by omega)]; rfl
      clear ht hj
      go_wp2_with (first | (go_at_call 12; refine (step_any (a := xs[j]'hlt) HT.out HS.out HC.out HV.out HKP.out HOKA.out).mono ?_; rintro e w2 ⟨rfl, h2⟩; have HT2 := hid h2; clear h2))
      go_roundg (xs.length - (j + 1))
      case measure => have := HJ.out; omega
      case rel => exact ⟨j + 1, _, by have := HJ.out; omega, rfl, HT2.out.below (by repeat (first | (with_reducible exact Below.refl _ _) | (with_reducible exact bl_mm) | (with_reducible refine bl_dr ?_) | (with_reducible refine bl_drN ?_ _) | (with_reducible refine bl_al ?_ _) | (with_reducible refine bl_more ?_ _ _))), HS2.out.mono (by omega), (stepS_len _ _).trans HL3.out⟩
    · obtain rfl : j = xs.length := by omega
      have i1 : ¬ (xs.length : Int) < xs.length := by omega
      clear hj ht
      go_wp2
      go_ret
      refine ⟨d, s, rfl, ?_⟩
      have ht := HT.out.below (show Below wr.heap.size wr _ from (by repeat (first | (with_reducible exact Below.refl _ _) | (with_reducible exact bl_mm) | (with_reducible refine bl_dr ?_) | (with_reducible refine bl_drN ?_ _) | (with_reducible refine bl_al ?_ _) | (with_reducible refine bl_more ?_ _ _))))
      rw [HZ.out] at ht
      exact ⟨ht.dk.mono (fun b hb _ => hb.1), ht.ld, ht.bw, HS.out.mono (by omega), HL3.out⟩

set_option maxRecDepth 8000 in
set_option maxHeartbeats 4000000 in
theorem rooms_any {w : World} {v : Value} {xs : List ActD} (h : actE.Row (fun _ => True) w v xs) (hnb : ∀ x ∈ xs, x.n ≤ 9223372036854775807) :
    Calls Try.prog 5 #[v] w fun e w' => e = .returned (.bool true) ∧ Below w.heap.size w w' := by
  obtain ⟨A, c, rfl, _, _⟩ := h.form
  have HX := hid h
  have HNB := hid hnb
  clear h hnb
  cases hf : fewB xs with
  | false =>
    have HF := hid hf
    clear hf
    go_enter Try.func5, Try.ntmps5
    go_wp2_with (first | (go_at_call 8; refine (few_no (HX.out.below (by repeat (first | (with_reducible exact Below.refl _ _) | (with_reducible exact bl_mm) | (with_reducible refine bl_dr ?_) | (with_reducible refine bl_drN ?_ _) | (with_reducible refine bl_al ?_ _) | (with_reducible refine bl_more ?_ _ _)))) HF.out).mono ?_; rintro e w2 ⟨rfl, hb1⟩; obtain ⟨ex, dx, rfl⟩ := more_of hb1; clear hb1) | (go_at_call 9; refine (lives_any _).mono ?_; rintro e w2 ⟨rfl, hb1⟩; obtain ⟨ex, dx, rfl⟩ := more_of hb1; clear hb1))
    go_ret
    exact ⟨rfl, (by repeat (first | (with_reducible exact Below.refl _ _) | (with_reducible exact bl_mm) | (with_reducible refine bl_dr ?_) | (with_reducible refine bl_drN ?_ _) | (with_reducible refine bl_al ?_ _) | (with_reducible refine bl_more ?_ _ _)))⟩
  | true =>
    have HF := hid hf
    have hlen := few_len hf
    clear hf
    go_enter Try.func5, Try.ntmps5
    go_wp2_with (first | (go_at_call 8; refine (few_yes (HX.out.below (by repeat (first | (with_reducible exact Below.refl _ _) | (with_reducible exact bl_mm) | (with_reducible refine bl_dr ?_) | (with_reducible refine bl_drN ?_ _) | (with_reducible refine bl_al ?_ _) | (with_reducible refine bl_more ?_ _ _)))) HF.out).mono ?_; rintro e w2 ⟨rfl, hb1⟩; obtain ⟨ex0, dx0, rfl⟩ := more_of hb1; clear hb1) | (go_at_call 10; refine (new3).mono ?_; rintro e w1 ⟨d, rfl, hd, hq, hb1⟩; have HQ := hid (And.intro hd (And.intro hq hb1)); clear hd hq hb1) | (go_at_call 11; refine (rnew3).mono ?_; rintro e w2 ⟨r, gF, rfl, hr, hg, hR, hb2⟩; have HT := hid (Two.new HQ.out.1 HQ.out.2.1 HQ.out.2.2 hr hg hR hb2); clear hr hg hR hb2))
    obtain ⟨wz, hz⟩ : ∃ wz, wz = more w ex0 dx0 := ⟨_, rfl⟩
    have HBW : Hid (Below w.heap.size w wz) := by rw [hz]; exact hid (more_below _ _ _)
    have HBT := HBW
    have HT0 := HT.out
    rw [← hz] at HT0
    clear HT hz HQ
    go_loopg [7, 8] xs.length (fun k sm i wr => ∃ (j : Nat) (s : DS), j + k = xs.length ∧ i = .int .i64 j ∧ sm = .int .i64 s.tot ∧ Two wz wr d r gF s s ∧ s.Ok (1048576 * ((j : Int) + 1)) ∧ s.fs.length = 3)
    case atStart => exact ⟨0, _, by omega, rfl, rfl, HT0, ok3, by simp [fs0]⟩
    case round =>
      obtain ⟨j, s, hj, rfl, rfl, ht, hs, h3⟩ := hrel
      have HT := hid ht
      have HS := hid hs
      have HC := hid (show 1048576 * ((j : Int) + 1) ≤ 1000000000 by omega)
      have HC2 := hid (show 1048576 * ((j : Int) + 1) + 1048576 ≤ 1000000000 by omega)
      have HJ := hid hj
      have HL3 := hid h3
      clear HT0 hs h3
      by_cases hlt : j < xs.length
      · obtain ⟨bb, off, B, cb, D, cd, rfl, hbl, _, hv, hk, hc⟩ := Row_act HX.out j hlt
        have e0 : wr.cell? ⟨bb, off + j * 5, none⟩ = some (.int .i64 (xs[j]'hlt).kind) := cell_kept ht.bw0 (cell_kept HBW.out (hc 0 _ rfl))
        have e1 : wr.cell? ⟨bb, off + j * 5 + 1, none⟩ = some (.int .i64 (xs[j]'hlt).i) := cell_kept ht.bw0 (cell_kept HBW.out (hc 1 _ rfl))
        have e2 : wr.cell? ⟨bb, off + j * 5 + 2, none⟩ = some (.int .i64 (xs[j]'hlt).n) := cell_kept ht.bw0 (cell_kept HBW.out (hc 2 _ rfl))
        have e3 : wr.cell? ⟨bb, off + j * 5 + 3, none⟩ = some (.slice B (xs[j]'hlt).b.length cb) := cell_kept ht.bw0 (cell_kept HBW.out (hc 3 _ rfl))
        have e4 : wr.cell? ⟨bb, off + j * 5 + 4, none⟩ = some (.slice D (xs[j]'hlt).keep.length cd) := cell_kept ht.bw0 (cell_kept HBW.out (hc 4 _ rfl))
        have HV := hid ((((hv.bound).below HBW.out).below ht.bw0).mono (K' := fun b => b < wz.heap.size) (fun b hb _ => Nat.lt_of_lt_of_le hb.2 HBW.out.size))
        have HKP := hid ((((hk.bound).below HBW.out).below ht.bw0).mono (K' := fun b => b < wz.heap.size) (fun b hb _ => Nat.lt_of_lt_of_le hb.2 HBW.out.size))
        have HOKA := hid (few_ok HF.out HNB.out j hlt)
        clear hk hv
        have HE0 := hid (hc 0 _ rfl)
        have hbl2 : bb < wr.heap.size := by have := HBW.out.size; have := ht.bw0.size; omega
        clear hc
        obtain ⟨s', hnew⟩ : ∃ s', stepS (xs[j]'hlt) s = s' := ⟨_, rfl⟩
        have hs2 := stepS_ok HS.out HOKA.out
        rw [hnew] at hs2
        have h3' : s'.fs.length = 3 := by rw [← hnew, stepS_len]; exact HL3.out
        have hT := tot3 h3'
        obtain ⟨l0, q0⟩ : ∃ l0, (s'.fs[0]'(by omega)).b.length = l0 := ⟨_, rfl⟩
        obtain ⟨l1, q1⟩ : ∃ l1, (s'.fs[1]'(by omega)).b.length = l1 := ⟨_, rfl⟩
        obtain ⟨l2, q2⟩ : ∃ l2, (s'.fs[2]'(by omega)).b.length = l2 := ⟨_, rfl⟩
        rw [q0, q1, q2] at hT
        have b1 := hs2.tot
        have b2 := hs2.room
        have b3 := HS.out.tot
        have b4 := HS.out.room
        have b5 := HS.out.roomC
        have HP0 := hid (show ∃ hi : 0 < s'.fs.length, (s'.fs[0]'hi).b.length = l0 from ⟨by omega, q0⟩)
        have HP1 := hid (show ∃ hi : 1 < s'.fs.length, (s'.fs[1]'hi).b.length = l1 from ⟨by omega, q1⟩)
        have HP2 := hid (show ∃ hi : 2 < s'.fs.length, (s'.fs[2]'hi).b.length = l2 from ⟨by omega, q2⟩)
        have z1 : IntKind.i64.wrap (s'.room + (l0 : Int)) = s'.room + l0 := IntWalk.i64_in _ (by omega)
        have z2 : IntKind.i64.wrap (s'.room + (l0 : Int) + l1) = s'.room + l0 + l1 := IntWalk.i64_in _ (by omega)
        have z3 : IntKind.i64.wrap (s'.room + (l0 : Int) + l1 + l2) = s'.tot := by rw [IntWalk.i64_in _ (by omega)]; omega
        have i1 : (j : Int) < (xs.length : Int) := by omega
        have i3 : (0 : Int) ≤ (j : Int) := by omega
        have w1' : IntKind.i64.wrap ((j : Int) + 1) = ((j + 1 : Nat) : Int) := by rw [IntWalk.i64_in _ (by omega)]; rfl
        have HNEW := hid hnew
        have HS2 := hid hs2
        have HL3' := hid h3'
        by_cases hk5 : (xs[j]'hlt).kind = 5
        · have y0 : ((xs[j]'hlt).kind == 5) = true := by simp [hk5]
          have hg := stepS_grow (s := s) hk5
          rw [hnew] at hg
          have y1 : IntKind.i64.wrap (s.tot + s'.room) = s.tot + s'.room := IntWalk.i64_in _ (by have := HS.out.tot; unfold DS.tot at *; omega)
          have y2 : IntKind.i64.wrap (s.tot + s'.room - s.room) = s'.tot := by rw [IntWalk.i64_in _ (by unfold DS.tot at *; omega)]; omega
          clear ht hj hnew hs2 h3' hT b1 b2 b3 b4 b5 hg hk5 q0 q1 q2
          go_wp2_with (first | (go_at_call 19; refine (room_any (s := s) (HT.out.below (by repeat (first | (with_reducible exact Below.refl _ _) | (with_reducible exact bl_mm) | (with_reducible refine bl_dr ?_) | (with_reducible refine bl_drN ?_ _) | (with_reducible refine bl_al ?_ _) | (with_reducible refine bl_more ?_ _ _)))).dk HS.out.n1).mono ?_; rintro e w1 ⟨rfl, hb1⟩; obtain ⟨ex2, dx2, rfl⟩ := more_of hb1; clear hb1))
          go_wp2_with (first | (go_at_call 12; refine (step_any (a := xs[j]'hlt) (HT.out.below (by repeat (first | (with_reducible exact Below.refl _ _) | (with_reducible exact bl_mm) | (with_reducible refine bl_dr ?_) | (with_reducible refine bl_drN ?_ _) | (with_reducible refine bl_al ?_ _) | (with_reducible refine bl_more ?_ _ _)))) HS.out HC.out (HV.out.below (by repeat (first | (with_reducible exact Below.refl _ _) | (with_reducible exact bl_mm) | (with_reducible refine bl_dr ?_) | (with_reducible refine bl_drN ?_ _) | (with_reducible refine bl_al ?_ _) | (with_reducible refine bl_more ?_ _ _)))) (HKP.out.below (by repeat (first | (with_reducible exact Below.refl _ _) | (with_reducible exact bl_mm) | (with_reducible refine bl_dr ?_) | (with_reducible refine bl_drN ?_ _) | (with_reducible refine bl_al ?_ _) | (with_reducible refine bl_more ?_ _ _)))) HOKA.out).mono ?_; rintro e w2 ⟨rfl, h2⟩; rw [HNEW.out] at h2; have HT2 := hid h2; have e5 : w2.cell? ⟨bb, off + j * 5, none⟩ = some (.int .i64 (xs[j]'hlt).kind) := cell_kept h2.bw0 (cell_kept HBW.out HE0.out); clear h2))
          go_wp2_with (first | (go_at_call 19; refine (room_any (s := s') (HT2.out.below (by repeat (first | (with_reducible exact Below.refl _ _) | (with_reducible exact bl_mm) | (with_reducible refine bl_dr ?_) | (with_reducible refine bl_drN ?_ _) | (with_reducible refine bl_al ?_ _) | (with_reducible refine bl_more ?_ _ _)))).dk HS2.out.n1).mono ?_; rintro e w1 ⟨rfl, hb1⟩; obtain ⟨ex2, dx2, rfl⟩ := more_of hb1; clear hb1))
          go_wp2_with (first | (go_at_call 15; have hp := HP0; clear HP0; refine (read_n (s := s') (n := l0) (HT2.out.below (by repeat (first | (with_reducible exact Below.refl _ _) | (with_reducible exact bl_mm) | (with_reducible refine bl_dr ?_) | (with_reducible refine bl_drN ?_ _) | (with_reducible refine bl_al ?_ _) | (with_reducible refine bl_more ?_ _ _)))).dk HS2.out HC2.out 0 hp.out).mono ?_; rintro e w1 ⟨A0, c0, rfl, hb1⟩; obtain ⟨ex2, dx2, rfl⟩ := more_of hb1; clear hb1))
          go_wp2_with (first | (go_at_call 15; have hp := HP1; clear HP1; refine (read_n (s := s') (n := l1) (HT2.out.below (by repeat (first | (with_reducible exact Below.refl _ _) | (with_reducible exact bl_mm) | (with_reducible refine bl_dr ?_) | (with_reducible refine bl_drN ?_ _) | (with_reducible refine bl_al ?_ _) | (with_reducible refine bl_more ?_ _ _)))).dk HS2.out HC2.out 1 hp.out).mono ?_; rintro e w1 ⟨A1, c1, rfl, hb1⟩; obtain ⟨ex2, dx2, rfl⟩ := more_of hb1; clear hb1))
          go_wp2_with (first | (go_at_call 15; have hp := HP2; clear HP2; refine (read_n (s := s') (n := l2) (HT2.out.below (by repeat (first | (with_reducible exact Below.refl _ _) | (with_reducible exact bl_mm) | (with_reducible refine bl_dr ?_) | (with_reducible refine bl_drN ?_ _) | (with_reducible refine bl_al ?_ _) | (with_reducible refine bl_more ?_ _ _)))).dk HS2.out HC2.out 2 hp.out).mono ?_; rintro e w1 ⟨A2, c2, rfl, hb1⟩; obtain ⟨ex2, dx2, rfl⟩ := more_of hb1; clear hb1))
          go_roundg (xs.length - (j + 1))
          case measure => have := HJ.out; omega
          case rel => exact ⟨j + 1, s', by have := HJ.out; omega, rfl, rfl, HT2.out.below (by repeat (first | (with_reducible exact Below.refl _ _) | (with_reducible exact bl_mm) | (with_reducible refine bl_dr ?_) | (with_reducible refine bl_drN ?_ _) | (with_reducible refine bl_al ?_ _) | (with_reducible refine bl_more ?_ _ _))), HS2.out.mono (by omega), HL3'.out⟩
        · have y0 : ((xs[j]'hlt).kind == 5) = false := by simp [hk5]
          have hg := stepS_tot HS.out hk5
          rw [hnew] at hg
          rw [hg] at z3
          have HG := hid hg
          clear ht hj hnew hs2 h3' hT b1 b2 b3 b4 b5 hg hk5 q0 q1 q2
          go_wp2_with (first | (go_at_call 19; refine (room_any (s := s) (HT.out.below (by repeat (first | (with_reducible exact Below.refl _ _) | (with_reducible exact bl_mm) | (with_reducible refine bl_dr ?_) | (with_reducible refine bl_drN ?_ _) | (with_reducible refine bl_al ?_ _) | (with_reducible refine bl_more ?_ _ _)))).dk HS.out.n1).mono ?_; rintro e w1 ⟨rfl, hb1⟩; obtain ⟨ex2, dx2, rfl⟩ := more_of hb1; clear hb1))
          go_wp2_with (first | (go_at_call 12; refine (step_any (a := xs[j]'hlt) (HT.out.below (by repeat (first | (with_reducible exact Below.refl _ _) | (with_reducible exact bl_mm) | (with_reducible refine bl_dr ?_) | (with_reducible refine bl_drN ?_ _) | (with_reducible refine bl_al ?_ _) | (with_reducible refine bl_more ?_ _ _)))) HS.out HC.out (HV.out.below (by repeat (first | (with_reducible exact Below.refl _ _) | (with_reducible exact bl_mm) | (with_reducible refine bl_dr ?_) | (with_reducible refine bl_drN ?_ _) | (with_reducible refine bl_al ?_ _) | (with_reducible refine bl_more ?_ _ _)))) (HKP.out.below (by repeat (first | (with_reducible exact Below.refl _ _) | (with_reducible exact bl_mm) | (with_reducible refine bl_dr ?_) | (with_reducible refine bl_drN ?_ _) | (with_reducible refine bl_al ?_ _) | (with_reducible refine bl_more ?_ _ _)))) HOKA.out).mono ?_; rintro e w2 ⟨rfl, h2⟩; rw [HNEW.out] at h2; have HT2 := hid h2; have e5 : w2.cell? ⟨bb, off + j * 5, none⟩ = some (.int .i64 (xs[j]'hlt).kind) := cell_kept h2.bw0 (cell_kept HBW.out HE0.out); clear h2))
          go_wp2_with (first | (go_at_call 19; refine (room_any (s := s') (HT2.out.below (by repeat (first | (with_reducible exact Below.refl _ _) | (with_reducible exact bl_mm) | (with_reducible refine bl_dr ?_) | (with_reducible refine bl_drN ?_ _) | (with_reducible refine bl_al ?_ _) | (with_reducible refine bl_more ?_ _ _)))).dk HS2.out.n1).mono ?_; rintro e w1 ⟨rfl, hb1⟩; obtain ⟨ex2, dx2, rfl⟩ := more_of hb1; clear hb1))
          go_wp2_with (first | (go_at_call 15; have hp := HP0; clear HP0; refine (read_n (s := s') (n := l0) (HT2.out.below (by repeat (first | (with_reducible exact Below.refl _ _) | (with_reducible exact bl_mm) | (with_reducible refine bl_dr ?_) | (with_reducible refine bl_drN ?_ _) | (with_reducible refine bl_al ?_ _) | (with_reducible refine bl_more ?_ _ _)))).dk HS2.out HC2.out 0 hp.out).mono ?_; rintro e w1 ⟨A0, c0, rfl, hb1⟩; obtain ⟨ex2, dx2, rfl⟩ := more_of hb1; clear hb1))
          go_wp2_with (first | (go_at_call 15; have hp := HP1; clear HP1; refine (read_n (s := s') (n := l1) (HT2.out.below (by repeat (first | (with_reducible exact Below.refl _ _) | (with_reducible exact bl_mm) | (with_reducible refine bl_dr ?_) | (with_reducible refine bl_drN ?_ _) | (with_reducible refine bl_al ?_ _) | (with_reducible refine bl_more ?_ _ _)))).dk HS2.out HC2.out 1 hp.out).mono ?_; rintro e w1 ⟨A1, c1, rfl, hb1⟩; obtain ⟨ex2, dx2, rfl⟩ := more_of hb1; clear hb1))
          go_wp2_with (first | (go_at_call 15; have hp := HP2; clear HP2; refine (read_n (s := s') (n := l2) (HT2.out.below (by repeat (first | (with_reducible exact Below.refl _ _) | (with_reducible exact bl_mm) | (with_reducible refine bl_dr ?_) | (with_reducible refine bl_drN ?_ _) | (with_reducible refine bl_al ?_ _) | (with_reducible refine bl_more ?_ _ _)))).dk HS2.out HC2.out 2 hp.out).mono ?_; rintro e w1 ⟨A2, c2, rfl, hb1⟩; obtain ⟨ex2, dx2, rfl⟩ := more_of hb1; clear hb1))
          go_roundg (xs.length - (j + 1))
          case measure => have := HJ.out; omega
          case rel => exact ⟨j + 1, s', by have := HJ.out; omega, rfl, by rw [HG.out], HT2.out.below (by repeat (first | (with_reducible exact Below.refl _ _) | (with_reducible exact bl_mm) | (with_reducible refine bl_dr ?_) | (with_reducible refine bl_drN ?_ _) | (with_reducible refine bl_al ?_ _) | (with_reducible refine bl_more ?_ _ _))), HS2.out.mono (by omega), HL3'.out⟩
      · obtain rfl : j = xs.length := by omega
        have i1 : ¬ (xs.length : Int) < xs.length := by omega
        clear hj ht
        go_wp2_with (first | (go_at_call 9; refine (lives_any _).mono ?_; rintro e w2 ⟨rfl, hb1⟩; obtain ⟨ex, dx, rfl⟩ := more_of hb1; clear hb1))
        go_ret
        exact ⟨rfl, HBT.out.trans (((HT.out.below (by repeat (first | (with_reducible exact Below.refl _ _) | (with_reducible exact bl_mm) | (with_reducible refine bl_dr ?_) | (with_reducible refine bl_drN ?_ _) | (with_reducible refine bl_al ?_ _) | (with_reducible refine bl_more ?_ _ _)))).bw).mono HBT.out.size)⟩
end Go.Proofs.Ytnobbehoojgfcaa
