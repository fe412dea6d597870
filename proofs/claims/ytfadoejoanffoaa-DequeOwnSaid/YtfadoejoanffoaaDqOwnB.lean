/- What is told is memory of its own. -/
import Derived.Test.YtfadoejoanffoaaDqOwnA
namespace Go.Proofs.Ytfadoejoanffoaa
open Go.RowKit

def Soft (N : Nat) (w : World) (b o : Nat) : Prop := N ≤ b ∧ (∃ m, w.cell? ⟨b, o, none⟩ = some (.int .i64 m)) ∧ w.frozen? ⟨b, o, none⟩ = false
theorem Soft.set {N : Nat} {w : World} {b o b' o' : Nat} (h : Soft N w b o) (h' : Soft N w b' o') (m : Int) : Soft N (w.setCell ⟨b', o', none⟩ (.int .i64 m)) b o := by
  obtain ⟨h1, ⟨k, h2⟩, h3⟩ := h
  refine ⟨h1, ?_, by rw [World.frozen?_setCell]; exact h3⟩
  by_cases he : (⟨b', o', none⟩ : Addr) = ⟨b, o, none⟩
  · rw [he]; exact ⟨m, World.cell?_setCell_same (h := h2) ..⟩
  · exact ⟨k, (World.cell?_setCell_other (h := he) ..).trans h2⟩
/-- The jobs at A, of which the items and the stamps' numbers may be written over. -/
def Xs (N : Nat) (w : World) (A : Option Addr) (n : Nat) : Prop := ∀ i, i < n → ∃ g off B len cb, A = some ⟨g, off, none⟩ ∧ Soft N w g (off + i * 6) ∧ w.cell? ⟨g, off + i * 6 + 5, none⟩ = some (.slice B len cb) ∧ len ≤ 4294967296 ∧
  ∀ k, k < len → ∃ b o, B = some ⟨b, o, none⟩ ∧ Soft N w b (o + k)
theorem slice_set {N : Nat} {w : World} {q : Addr} {b' o' : Nat} {B : Option Addr} {n c : Nat} (h : w.cell? q = some (.slice B n c)) (h' : Soft N w b' o') (m : Int) : (w.setCell ⟨b', o', none⟩ (.int .i64 m)).cell? q = some (.slice B n c) := by
  obtain ⟨_, ⟨k, h2⟩, _⟩ := h'
  exact (World.cell?_setCell_other (h := fun he => by rw [he, h] at h2; cases h2) ..).trans h
theorem Xs.set {N : Nat} {w : World} {A : Option Addr} {n b' o' : Nat} (h : Xs N w A n) (h' : Soft N w b' o') (m : Int) : Xs N (w.setCell ⟨b', o', none⟩ (.int .i64 m)) A n := by
  intro i hi
  obtain ⟨g, off, B, len, cb, h1, h2, h3, h4, h5⟩ := h i hi
  refine ⟨g, off, B, len, cb, h1, h2.set h' m, slice_set h3 h' m, h4, fun k hk => ?_⟩
  obtain ⟨b, o, h6, h7⟩ := h5 k hk
  exact ⟨b, o, h6, h7.set h' m⟩
theorem Xs.of {N : Nat} {w : World} {A : Option Addr} {n c : Nat} {l : List Job} (h : jobU.Own 32 (fun b => N ≤ b) w (.slice A n c) l) (hok : ∀ j ∈ l, okJob j) : Xs N w A l.length := by
  intro i hi
  obtain ⟨g, hg, hs⟩ := h
  have hc0 : c ≠ 0 := by obtain ⟨A1, c1, he, h2, _⟩ := hs; obtain ⟨_, _, rfl⟩ := Value.slice.inj he; omega
  obtain ⟨cur, hcur⟩ := hs.type hc0
  obtain ⟨off, rfl, ha⟩ := hs.at_ hc0
  obtain ⟨cs, hrd, hcs⟩ := ha i hi
  obtain ⟨v, rfl, hv⟩ := jobU_open hrd
  obtain ⟨B, cb, rfl, hle, _⟩ := hv.form
  have hlen := hok _ (List.getElem_mem hi)
  unfold okJob at hlen
  refine ⟨g, off, B, _, cb, rfl, ⟨hg hc0, ⟨_, by have := hcs 0 _ rfl; exact this⟩, frz_blk hcur _⟩, hcs 5 _ rfl, by omega, fun k hk => ?_⟩
  obtain ⟨g2, hg2, hs2⟩ := hv
  obtain ⟨cur2, hcur2⟩ := hs2.type (show cb ≠ 0 by omega)
  obtain ⟨off2, rfl, ha2⟩ := hs2.at_ (show cb ≠ 0 by omega)
  obtain ⟨cs2, rfl, hcs2⟩ := ha2 k hk
  have h9 := hcs2 0 _ rfl
  exact ⟨g2, off2, rfl, hg2 (show cb ≠ 0 by omega), ⟨_, by simpa [Enc.int, Enc.scalar] using h9⟩, frz_blk hcur2 _⟩
theorem soft_below {N : Nat} {w W : World} {b o : Nat} (h : Soft N W b o) (hb : Below N w W) (hN : N ≤ w.heap.size) (m : Int) : Below N w (W.setCell ⟨b, o, none⟩ (.int .i64 m)) :=
  hb.trans ((Ext.setCell (S := fun x => x = b) W ⟨b, o, none⟩ _ rfl).toBelow (by have := hb.size; omega) (fun x hx e => by have := h.1; omega))

set_option maxRecDepth 8000 in
set_option maxHeartbeats 4000000 in
theorem own_law {w : World} {v : Value} {xs : List Acts} (h : actE.Row (fun _ => True) w v xs) :
    Calls Try.prog 5 #[v] w fun e w' => e = .returned (.bool true) ∧ Below w.heap.size w w' := by
  obtain ⟨A, c, rfl, h1, h2⟩ := h.form
  have HX := hid h
  clear h h1 h2
  cases hf : fewB xs with
  | false =>
    have HF := hid hf
    clear hf
    go_enter Try.func5, Try.ntmps5
    go_wp2_with (first | (go_at_call 7; refine (st_new _).mono ?_; rintro e w1 ⟨d, rfl, hq⟩; have HD := hid hq; have HS1 := hid hq.bw; clear hq) | (go_at_call 8; refine (lives_any _).mono ?_; rintro e w2 ⟨rfl, hb1⟩; obtain ⟨ex, dx, rfl⟩ := more_of hb1; clear hb1) | (go_at_call 14; refine (few_no ((HX.out.below HS1.out).below (by repeat (first | (with_reducible exact Below.refl _ _) | (with_reducible refine bl_dr ?_) | (with_reducible refine bl_drN ?_ _) | (with_reducible refine bl_al ?_ _) | (with_reducible refine bl_more ?_ _ _)))) HF.out).mono ?_; rintro e w2 ⟨rfl, hb1⟩; obtain ⟨ex, dx, rfl⟩ := more_of hb1; clear hb1))
    go_ret
    exact ⟨rfl, (HD.out.below (by repeat (first | (with_reducible exact Below.refl _ _) | (with_reducible refine bl_dr ?_) | (with_reducible refine bl_drN ?_ _) | (with_reducible refine bl_al ?_ _) | (with_reducible refine bl_more ?_ _ _)))).bw⟩
  | true =>
    have HF := hid hf
    have hlen := few_len hf
    clear hf
    go_enter Try.func5, Try.ntmps5
    go_wp2_with (first | (go_at_call 7; refine (st_new _).mono ?_; rintro e w1 ⟨d, rfl, hq⟩; have HD := hid hq; have HS1 := hid hq.bw; clear hq) | (go_at_call 8; refine (lives_any _).mono ?_; rintro e w2 ⟨rfl, hb1⟩; obtain ⟨ex, dx, rfl⟩ := more_of hb1; clear hb1) | (go_at_call 14; refine (few_yes ((HX.out.below HS1.out).below (by repeat (first | (with_reducible exact Below.refl _ _) | (with_reducible refine bl_dr ?_) | (with_reducible refine bl_drN ?_ _) | (with_reducible refine bl_al ?_ _) | (with_reducible refine bl_more ?_ _ _)))) HF.out).mono ?_; rintro e w2 ⟨rfl, hb1⟩; obtain ⟨ex, dx, rfl⟩ := more_of hb1; clear hb1))
    go_loopg [4, 5] xs.length (fun k r i wr => ∃ (j g : Nat) (l : List Job), j + k = xs.length ∧ i = .int .i64 j ∧ Two w wr d g r l)
    case atStart => exact ⟨0, _, [], by omega, rfl, HD.out.below (by repeat (first | (with_reducible exact Below.refl _ _) | (with_reducible refine bl_dr ?_) | (with_reducible refine bl_drN ?_ _) | (with_reducible refine bl_al ?_ _) | (with_reducible refine bl_more ?_ _ _))), Enc.Row.nil _ _ _⟩
    case round =>
      obtain ⟨j, g, l, hj, rfl, ht⟩ := hrel
      obtain ⟨A2, c2, rfl, _, _⟩ := ht.row.form
      have HT := hid ht
      have HJ := hid hj
      clear HD HS1
      by_cases hlt : j < xs.length
      · obtain ⟨bb, off, B, cb, rfl, hbl, _, hv, hk, hc⟩ := Row_act HX.out j hlt
        have e0 : wr.cell? ⟨bb, off + j * 7, none⟩ = some (.int .i64 xs[j].kind) := cell_kept ht.st.bw hk
        have e1 : wr.cell? ⟨bb, off + j * 7 + 1, none⟩ = some (.int .i64 xs[j].j.item) := cell_kept ht.st.bw (hc 0 _ rfl)
        have e2 : wr.cell? ⟨bb, off + j * 7 + 2, none⟩ = some (.bool xs[j].j.undo) := cell_kept ht.st.bw (hc 1 _ rfl)
        have e3 : wr.cell? ⟨bb, off + j * 7 + 3, none⟩ = some (.int .i64 xs[j].j.try_) := cell_kept ht.st.bw (hc 2 _ rfl)
        have e4 : wr.cell? ⟨bb, off + j * 7 + 4, none⟩ = some (.bool xs[j].j.begun) := cell_kept ht.st.bw (hc 3 _ rfl)
        have e5 : wr.cell? ⟨bb, off + j * 7 + 5, none⟩ = some (.int .i64 xs[j].j.token) := cell_kept ht.st.bw (hc 4 _ rfl)
        have e6 : wr.cell? ⟨bb, off + j * 7 + 6, none⟩ = some (.slice B xs[j].j.stamp.length cb) := cell_kept ht.st.bw (hc 5 _ rfl)
        have HV := hid (((hv.bound).below ht.st.bw).mono (K' := fun b => b < w.heap.size) (fun b hb _ => hb.2))
        clear hc hv hk ht hj
        have i1 : (j : Int) < (xs.length : Int) := by omega
        have i3 : (0 : Int) ≤ (j : Int) := by omega
        have w1' : IntKind.i64.wrap ((j : Int) + 1) = ((j + 1 : Nat) : Int) := by rw [IntWalk.i64_in _ (by omega)]; rfl
        go_wp2_with (first | (go_at_call 15; refine (step_any (a := xs[j]) HT.out HV.out (few_stamp HF.out j hlt)).mono ?_; rintro e w2 ⟨g', rv', rfl, h2⟩; obtain ⟨A3, c3, rfl, _, _⟩ := h2.row.form; have HT2 := hid h2; clear h2))
        go_roundg (xs.length - (j + 1))
        case measure => have := HJ.out; omega
        case rel => exact ⟨j + 1, _, _, by have := HJ.out; omega, rfl, HT2.out.below (by repeat (first | (with_reducible exact Below.refl _ _) | (with_reducible refine bl_dr ?_) | (with_reducible refine bl_drN ?_ _) | (with_reducible refine bl_al ?_ _) | (with_reducible refine bl_more ?_ _ _)))⟩
      · obtain rfl : j = xs.length := by omega
        have i1 : ¬ (xs.length : Int) < xs.length := by omega
        have hfw := ht.st.dq.few
        have hbw := ht.st.bw
        clear hj ht HJ
        obtain ⟨wx, rfl⟩ : ∃ wx : World, wx = wr := ⟨_, rfl⟩
        go_wp2_with (first | (go_at_call 17; refine (list_free (HT.out.st.below (by repeat (first | (with_reducible exact Below.refl _ _) | (with_reducible refine bl_dr ?_) | (with_reducible refine bl_drN ?_ _) | (with_reducible refine bl_al ?_ _) | (with_reducible refine bl_more ?_ _ _)))).dq).mono ?_; rintro e w3 ⟨v3, rfl, hr, hb1⟩; obtain ⟨Av3, cv3, rfl, _, _⟩ := hr.form; have HB3 := hid hb1; clear hb1; have HL := hid hr; clear hr))
        have hxs := Xs.of HL.out HT.out.st.dq.ok
        have HXS := hid hxs
        have HBW := hid hbw
        clear hxs HL hbw
        go_loopg [7] l.length (fun k i wr => ∃ q : Nat, q + k = l.length ∧ i = .int .i64 q ∧ Below wx.heap.size wx wr ∧ Xs wx.heap.size wr Av3 l.length)
        case atStart => exact ⟨0, by omega, rfl, HB3.out, HXS.out⟩
        case round =>
          obtain ⟨q, hq, rfl, hb2, hx2⟩ := hrel
          have HB2 := hid hb2
          have HX2 := hid hx2
          have HQ := hid hq
          clear HXS HB3 hb2
          by_cases hlt : q < l.length
          · obtain ⟨g, off, B, len, cb, rfl, hso, c5, hle, _⟩ := hx2 q hlt
            obtain ⟨m, c0⟩ := hso.2.1
            have f0 := hso.2.2
            have HS := hid hso
            have C5 := hid c5
            have HLE := hid hle
            clear hx2 hso hq
            have i1 : (q : Int) < (l.length : Int) := by omega
            have i3 : (0 : Int) ≤ (q : Int) := by omega
            have w1' : IntKind.i64.wrap ((q : Int) + 1) = ((q + 1 : Nat) : Int) := by rw [IntWalk.i64_in _ (by omega)]; rfl
            clear c5
            go_wp2
            go_loopg [8] len (fun k i w2 => ∃ p : Nat, p + k = len ∧ i = .int .i64 p ∧ Below wx.heap.size wx w2 ∧ Xs wx.heap.size w2 (some ⟨g, off, none⟩) l.length ∧ w2.cell? ⟨g, off + q * 6 + 5, none⟩ = some (.slice B len cb))
            case atStart => exact ⟨0, by omega, rfl, soft_below HS.out HB2.out (Nat.le_refl _) _, HX2.out.set HS.out _, slice_set C5.out HS.out _⟩
            case round =>
              obtain ⟨p, hp, rfl, hb3, hx3, d5⟩ := hrel
              have HB3 := hid hb3
              have HX3 := hid hx3
              have D5 := hid d5
              have HP := hid hp
              clear HX2 HB2 C5 c0 f0 HS
              by_cases hlt2 : p < len
              · obtain ⟨g2, off2, B2, len2, cb2, he, _, d5', _, hs2⟩ := hx3 q hlt
                obtain ⟨rfl, rfl⟩ : g2 = g ∧ off2 = off := by cases he; exact ⟨rfl, rfl⟩
                obtain ⟨rfl, rfl, rfl⟩ : B2 = B ∧ len2 = len ∧ cb2 = cb := by rw [d5] at d5'; cases d5'; exact ⟨rfl, rfl, rfl⟩
                obtain ⟨b, o, rfl, hso⟩ := hs2 p hlt2
                obtain ⟨m2, c0⟩ := hso.2.1
                have f0 := hso.2.2
                have HS := hid hso
                clear hx3 hso hp hs2 he d5' hb3
                have k1 : (p : Int) < (len2 : Int) := by omega
                have k3 : (0 : Int) ≤ (p : Int) := by omega
                have w2' : IntKind.i64.wrap ((p : Int) + 1) = ((p + 1 : Nat) : Int) := by rw [IntWalk.i64_in _ (by have := HLE.out; omega)]; rfl
                go_wp2
                go_roundg (len2 - (p + 1))
                case measure => have := HP.out; omega
                case rel => exact ⟨p + 1, by have := HP.out; omega, rfl, soft_below HS.out HB3.out (Nat.le_refl _) _, HX3.out.set HS.out _, slice_set D5.out HS.out _⟩
              · obtain rfl : p = len := by omega
                have k1 : ¬ (p : Int) < (p : Int) := by omega
                clear hx3 hb3 hp
                go_wp2
                go_roundg (l.length - (q + 1))
                case measure => have := HQ.out; omega
                case rel => exact ⟨q + 1, by have := HQ.out; omega, rfl, HB3.out, HX3.out⟩
          · obtain rfl : q = l.length := by omega
            have i1 : ¬ (l.length : Int) < l.length := by omega
            have HT2 := hid (HT.out.below HB2.out)
            clear HT hq hx2
            go_wp2_with (first | (go_at_call 17; refine (list_any (HT2.out.st.below (by repeat (first | (with_reducible exact Below.refl _ _) | (with_reducible refine bl_dr ?_) | (with_reducible refine bl_drN ?_ _) | (with_reducible refine bl_al ?_ _) | (with_reducible refine bl_more ?_ _ _)))).dq).mono ?_; rintro e w3 ⟨v3, rfl, hr, hb1⟩; obtain ⟨Av4, cv3, rfl, _, _⟩ := hr.form; obtain ⟨ex3, dx3, rfl⟩ := more_of hb1; clear hb1; have HL := hid hr; clear hr) | (go_at_call 16; refine (all_refl (HL.out.below (by repeat (first | (with_reducible exact Below.refl _ _) | (with_reducible refine bl_dr ?_) | (with_reducible refine bl_drN ?_ _) | (with_reducible refine bl_al ?_ _) | (with_reducible refine bl_more ?_ _ _)))) (HT2.out.row.below (by repeat (first | (with_reducible exact Below.refl _ _) | (with_reducible refine bl_dr ?_) | (with_reducible refine bl_drN ?_ _) | (with_reducible refine bl_al ?_ _) | (with_reducible refine bl_more ?_ _ _))))).mono ?_; rintro e w3 ⟨rfl, hb1⟩; obtain ⟨ex4, dx4, rfl⟩ := more_of hb1; clear hb1) | (go_at_call 8; refine (lives_any _).mono ?_; rintro e w2 ⟨rfl, hb1⟩; obtain ⟨ex, dx, rfl⟩ := more_of hb1; clear hb1))
            go_ret
            exact ⟨rfl, (HT2.out.below (by repeat (first | (with_reducible exact Below.refl _ _) | (with_reducible refine bl_dr ?_) | (with_reducible refine bl_drN ?_ _) | (with_reducible refine bl_al ?_ _) | (with_reducible refine bl_more ?_ _ _)))).st.bw⟩
end Go.Proofs.Ytfadoejoanffoaa
