/- begun; PoolHolds. -/
import Derived.Test.YtlfdnjomjheioaaPLg
namespace Go.Proofs.Ytlfdnjomjheioaa
open Go.RowKit

def Begun (w : World) (e : Ending) (w' : World) : Prop := ∃ p s F ad, e = .returned (.pointer (some ⟨p, 0, none⟩)) ∧ Ps w w' p s F ad ∧ s.length = 3
theorem stepM_len {s : List Wk} {a : PAct} : (stepM s a).length = s.length := by
  have hon : ∀ (i : Int) (f : Wk → Wk × Int), (onM s i f).1.length = s.length := by
    intro i f
    unfold onM
    split
    · split
      · simp
      · rfl
    · rfl
  unfold stepM
  split
  · unfold takeM
    split
    · split
      · rfl
      · split
        · rename_i hf
          unfold hold1
          split
          · rw [List.length_set]; exact found_len hf
          · exact found_len hf
        · rfl
    · rfl
  · split
    · exact hon _ _
    · split
      · exact hon _ _
      · split
        · simp
        · exact hon _ _
set_option maxRecDepth 8000 in
set_option maxHeartbeats 4000000 in
theorem begun_any {w0 w : World} {v : Value} {xs : List PAct} (h : pactE.Row (fun _ => True) w0 v xs) (hw : Below w0.heap.size w0 w) (hf : fewB xs = true) :
    Calls Try.prog 9 #[v] w (Begun w) := by
  obtain ⟨A, c, rfl, h1, h2⟩ := h.form
  have HX := hid (h.below hw)
  have HF := hid hf
  have hlen := few_len hf
  clear h h1 h2 hf
  go_enter Try.func9, Try.ntmps9
  go_wp2_with (first | (go_at_call 15; refine (pnew_any (n := 3) (by omega) (by omega)).mono ?_; rintro e w1 ⟨p, rfl, ⟨F, ad, hp⟩, hpN, hb⟩; have HP := hid hp; have HB := hid hb; clear hp hb hpN) | (go_at_call 16; refine (rnew_any (n := 3) (by omega) (by omega)).mono ?_; rintro e w2 ⟨r, b1, b2, b3, rfl, hr, hb2⟩; have HT := hid (two_new (w := w) (by repeat (first | (with_reducible exact Below.refl _ _) | (with_reducible exact bl_mm) | (with_reducible refine bl_dr ?_) | (with_reducible refine bl_drN ?_ _) | (with_reducible refine bl_al ?_ _) | (with_reducible refine bl_more ?_ _ _))) HP.out HB.out (by repeat (first | (with_reducible exact Below.refl _ _) | (with_reducible exact bl_mm) | (with_reducible refine bl_dr ?_) | (with_reducible refine bl_drN ?_ _) | (with_reducible refine bl_al ?_ _) | (with_reducible refine bl_more ?_ _ _))) hr hb2); clear hr hb2))
  go_loopg [7] xs.length (fun k i wr => ∃ (j : Nat) (s : List Wk) (ad : Nat → Ad), j + k = xs.length ∧ i = .int .i64 j ∧ Two w wr p s ad r s b1 b2 b3 ∧ s.length = 3)
  case atStart => exact ⟨0, _, _, by omega, rfl, HT.out.below (by repeat (first | (with_reducible exact Below.refl _ _) | (with_reducible exact bl_mm) | (with_reducible refine bl_dr ?_) | (with_reducible refine bl_drN ?_ _) | (with_reducible refine bl_al ?_ _) | (with_reducible refine bl_more ?_ _ _))), by simp⟩
  case round =>
    obtain ⟨j, s, ad', hj, rfl, ht, hs3⟩ := hrel
    clear HT
    have HT := hid ht
    have HJ := hid hj
    have HS3 := hid hs3
    clear HP HB hs3
    by_cases hlt : j < xs.length
    · obtain ⟨bb, off, B, cb, rfl, hbl, _, hv, ⟨hk0, hk1, hk2⟩, hc⟩ := Row_act HX.out j hlt
      have e0 : wr.cell? ⟨bb, off + j * 9, none⟩ = some (.int .i64 xs[j].kind) := cell_kept ht.bw hk0
      have e1 : wr.cell? ⟨bb, off + j * 9 + 1, none⟩ = some (.int .i64 xs[j].w) := cell_kept ht.bw hk1
      have e2 : wr.cell? ⟨bb, off + j * 9 + 2, none⟩ = some (.int .i64 xs[j].n) := cell_kept ht.bw hk2
      have e3 : wr.cell? ⟨bb, off + j * 9 + 3, none⟩ = some (.int .i64 xs[j].j.item) := cell_kept ht.bw (hc 0 _ rfl)
      have e4 : wr.cell? ⟨bb, off + j * 9 + 4, none⟩ = some (.bool xs[j].j.undo) := cell_kept ht.bw (hc 1 _ rfl)
      have e5 : wr.cell? ⟨bb, off + j * 9 + 5, none⟩ = some (.int .i64 xs[j].j.try_) := cell_kept ht.bw (hc 2 _ rfl)
      have e6 : wr.cell? ⟨bb, off + j * 9 + 6, none⟩ = some (.bool xs[j].j.begun) := cell_kept ht.bw (hc 3 _ rfl)
      have e7 : wr.cell? ⟨bb, off + j * 9 + 7, none⟩ = some (.int .i64 xs[j].j.token) := cell_kept ht.bw (hc 4 _ rfl)
      have e8 : wr.cell? ⟨bb, off + j * 9 + 8, none⟩ = some (.slice B xs[j].j.stamp.length cb) := cell_kept ht.bw (hc 5 _ rfl)
      have HV := hid (((hv.bound).below ht.bw).mono (K' := fun b => b < w.heap.size) (fun b hb _ => hb.2))
      clear hc hv hk0 hk1 hk2 ht hj
      have i1 : (j : Int) < (xs.length : Int) := by omega
      have i3 : (0 : Int) ≤ (j : Int) := by omega
      have w1' : IntKind.i64.wrap ((j : Int) + 1) = ((j + 1 : Nat) : Int) := by rw [IntWalk.i64_in _ (by omega)]; rfl
      go_wp2_with (first | (go_at_call 17; refine (step_any (a := xs[j]) (HT.out.below (by repeat (first | (with_reducible exact Below.refl _ _) | (with_reducible exact bl_mm) | (with_reducible refine bl_dr ?_) | (with_reducible refine bl_drN ?_ _) | (with_reducible refine bl_al ?_ _) | (with_reducible refine bl_more ?_ _ _)))) (HV.out.below (by repeat (first | (with_reducible exact Below.refl _ _) | (with_reducible exact bl_mm) | (with_reducible refine bl_dr ?_) | (with_reducible refine bl_drN ?_ _) | (with_reducible refine bl_al ?_ _) | (with_reducible refine bl_more ?_ _ _)))) (few_stamp HF.out j hlt)).mono ?_; rintro e w2 ⟨rfl, ad2, h2⟩; have HT2 := hid h2; clear h2))
      go_roundg (xs.length - (j + 1))
      case measure => have := HJ.out; omega
      case rel => exact ⟨j + 1, _, _, by have := HJ.out; omega, rfl, HT2.out.below (by repeat (first | (with_reducible exact Below.refl _ _) | (with_reducible exact bl_mm) | (with_reducible refine bl_dr ?_) | (with_reducible refine bl_drN ?_ _) | (with_reducible refine bl_al ?_ _) | (with_reducible refine bl_more ?_ _ _))), by rw [stepM_len]; exact HS3.out⟩
    · obtain rfl : j = xs.length := by omega
      have i1 : ¬ (xs.length : Int) < xs.length := by omega
      clear hj ht
      go_wp2
      go_ret
      exact ⟨_, _, _, _, rfl, ⟨(HT.out.below (by repeat (first | (with_reducible exact Below.refl _ _) | (with_reducible exact bl_mm) | (with_reducible refine bl_dr ?_) | (with_reducible refine bl_drN ?_ _) | (with_reducible refine bl_al ?_ _) | (with_reducible refine bl_more ?_ _ _)))).pl, (HT.out.below (by repeat (first | (with_reducible exact Below.refl _ _) | (with_reducible exact bl_mm) | (with_reducible refine bl_dr ?_) | (with_reducible refine bl_drN ?_ _) | (with_reducible refine bl_al ?_ _) | (with_reducible refine bl_more ?_ _ _)))).bw⟩, HS3.out⟩
end Go.Proofs.Ytlfdnjomjheioaa
