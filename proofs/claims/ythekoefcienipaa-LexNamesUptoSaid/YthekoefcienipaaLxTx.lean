/- The laws' texts as tokens. -/
import Derived.Test.YthekoefcienipaaLxBk
namespace Go.Proofs.Ythekoefcienipaa
open Go.RowKit

def tokT (x : ByteArray) : Tok := ⟨kindT x, x, 0⟩
def TexR (xs : List ByteArray) (w : World) (e : Ending) (w' : World) : Prop :=
  (xs.all okT = true → ∃ v, e = .returned (.tuple #[v, .bool true]) ∧ tokE.Row (fun b => w.heap.size ≤ b) w' v (xs.map tokT)) ∧ (xs.all okT = false → e = .returned (.tuple #[.slice none 0 0, .bool false])) ∧ Below w.heap.size w w'
theorem row_str {K : Nat → Prop} {w : World} {A : Option Addr} {n c : Nat} {xs : List ByteArray} (h : Enc.str.Row K w (.slice A n c) xs) (i : Nat) (hi : i < xs.length) : ∃ b off, A = some ⟨b, off, none⟩ ∧ K b ∧ b < w.heap.size ∧ w.cell? ⟨b, off + i, none⟩ = some (.string (xs[i]'hi)) := by
  obtain ⟨b, off, cs, e, hk, hl, h1, h2⟩ := h.get i hi
  have h1 : cs = [.string (xs[i]'hi)] := h1
  have := h2 0 (.string (xs[i]'hi)) (by rw [h1]; rfl)
  rw [show Enc.str.sz = 1 from rfl, Nat.mul_one, Nat.add_zero] at this
  exact ⟨b, off, e, hk, hl, this⟩
theorem TexR.no {xs : List ByteArray} {w w' : World} (h : xs.all okT = false) (hb : Below w.heap.size w w') : TexR xs w (.returned (.tuple #[.slice none 0 0, .bool false])) w' :=
  ⟨fun h' => absurd (h'.symm.trans h) (by decide), fun _ => rfl, hb⟩
theorem TexR.yes {xs : List ByteArray} {w w' : World} {v : Value} {g : Nat} (h : ∀ y ∈ xs, okT y = true) (ht : Toks w.heap.size w w' g v (xs.map tokT)) : TexR xs w (.returned (.tuple #[v, .bool true])) w' :=
  ⟨fun _ => ⟨v, rfl, ht.sp.row (fun b h _ => h.elim) ht.gN⟩, fun h' => absurd (h'.symm.trans (List.all_eq_true.2 h)) (by decide), ht.low⟩
theorem take_all {xs : List ByteArray} {j : Nat} (hj : j < xs.length) (h : ∀ y ∈ xs.take j, okT y = true) (hx : okT (xs[j]'hj) = true) : ∀ y ∈ xs.take (j + 1), okT y = true := by
  intro y hy
  rw [List.take_succ_eq_append_getElem hj] at hy
  rcases List.mem_append.1 hy with h1 | h1
  · exact h y h1
  · rw [List.mem_singleton.1 h1]; exact hx
theorem take_map {xs : List ByteArray} {j : Nat} (hj : j < xs.length) : (xs.take (j + 1)).map tokT = (xs.take j).map tokT ++ [tokT (xs[j]'hj)] := by
  rw [List.take_succ_eq_append_getElem hj, List.map_append]; rfl
theorem all_no {xs : List ByteArray} {j : Nat} (hj : j < xs.length) (h : okT (xs[j]'hj) = false) : xs.all okT = false := by
  cases ha : xs.all okT with
  | false => rfl
  | true => exact absurd (List.all_eq_true.1 ha _ (List.getElem_mem hj)) (by rw [h]; decide)
theorem mk_no {x : ByteArray} (h : isMk x = false) : (x.toList == [123]) = false ∧ (x.toList == [125]) = false ∧ (x.toList == [40]) = false ∧ (x.toList == [41]) = false ∧ (x.toList == [59]) = false ∧ (x.toList == [44]) = false := by
  unfold isMk marks6 at h
  simp only [List.any_cons, List.any_nil, Bool.or_eq_false_iff, decide_eq_false_iff_not] at h
  obtain ⟨h1, h2, h3, h4, h5, h6, _⟩ := h
  have e : ∀ c : UInt8, (⟨#[c]⟩ : ByteArray).toList = [c] := fun c => by rw [ByteArray.toList_eq]
  exact ⟨by rw [← e]; exact eqs_f h1, by rw [← e]; exact eqs_f h2, by rw [← e]; exact eqs_f h3, by rw [← e]; exact eqs_f h4, by rw [← e]; exact eqs_f h5, by rw [← e]; exact eqs_f h6⟩
theorem mk_yes {x : ByteArray} (h : isMk x = true) : x = ⟨#[123]⟩ ∨ x = ⟨#[125]⟩ ∨ x = ⟨#[40]⟩ ∨ x = ⟨#[41]⟩ ∨ x = ⟨#[59]⟩ ∨ x = ⟨#[44]⟩ := by
  unfold isMk marks6 at h
  simp only [List.any_cons, List.any_nil, Bool.or_eq_true, decide_eq_true_eq, Bool.or_false] at h
  exact h
set_option maxHeartbeats 4000000 in
theorem texts_walk {w : World} {v : Value} {xs : List ByteArray} {K : Nat → Prop} (h : Enc.str.Row K w v xs) (hl : xs.length ≤ 100000) : Calls Try.prog 19 #[v] w fun e w' => TexR xs w e w' := by
  obtain ⟨A, ca, rfl, _, _⟩ := h.form
  have HR := hid h
  have hlx : (xs.length : Int) ≤ 100000 := by omega
  have HL := hid hl
  clear h hl
  go_enter Try.func19, Try.ntmps19
  go_wp2
  go_loopg [4, 5] xs.length (fun k vo vi wr => ∃ (j g : Nat) (B : Option Addr) (cb : Nat), j + k = xs.length ∧ vi = .int .i64 (j : Int) ∧ vo = .slice B j cb ∧ (∀ y ∈ xs.take j, okT y = true) ∧ Toks w.heap.size w wr g vo ((xs.take j).map tokT))
  case atStart => exact ⟨0, w.heap.size, none, 0, by omega, rfl, rfl, by simp, Enc.Spine.nil _ _ _ _ _, Nat.le_refl _, Nat.le_refl _, Below.refl _ _⟩
  case round =>
    obtain ⟨j, g, B, cb, hk, rfl, rfl, hok, ht⟩ := hrel
    have HK := hid hk
    have HOK := hid hok
    have HT := hid ht
    by_cases hj : j < xs.length
    · have HJ := hid (And.intro hj trivial)
      obtain ⟨b1, o1, rfl, _, hl1, x1⟩ := row_str (HR.out.below ht.low) j HJ.out.1
      have hj0 : (0 : Int) ≤ j := by omega
      have hjx : (j : Int) < xs.length := by omega
      have hlj : ((xs.take j).map tokT).length = j := by rw [List.length_map, List.length_take]; omega
      have HNX := hid (take_map HJ.out.1)
      have HTA := hid (take_all HJ.out.1 hok)
      have HNO := hid (all_no HJ.out.1)
      obtain ⟨x, hx⟩ : ∃ x, xs[j]'HJ.out.1 = x := ⟨_, rfl⟩
      rw [hx] at x1 HNX HTA HNO
      clear hx
      cases hnm : nameB x with
      | true =>
        have HNM := hid hnm
        have HX : Hid (okT x = true) := hid (by unfold okT; rw [hnm]; rfl)
        have HTK : Hid (tokT x = ⟨1, x, 0⟩) := hid (by unfold tokT kindT; rw [if_pos hnm])
        have HLEN : Hid (((xs.take j).map tokT).length + [(⟨1, x, 0⟩ : Tok)].length ≤ 4294967296) := hid (by rw [hlj]; have := HL.out; simp; omega)
        have HLE : Hid (((xs.take j).map tokT ++ [(⟨1, x, 0⟩ : Tok)]).length = j + 1) := hid (by rw [List.length_append, hlj]; rfl)
        clear hk hok ht hj hnm hlj
        go_wp2_with (first | (go_at_call 13; refine (name_any (s := x)).mono ?_; rintro e w1 ⟨rfl, hb1⟩; rw [HNM.out]; obtain ⟨ex1, dx1, rfl⟩ := more_of hb1; clear hb1) | (at_builtin; refine wpList_app23 (ys := [⟨1, x, 0⟩]) (by rfl) (.tmp 20) (.tmp 23) (by rfl) (by rfl) (by rfl) (by rfl) (HT.out.below (by repeat (first | (with_reducible exact Below.refl _ _) | (with_reducible exact bl_mm) | (with_reducible refine bl_dr ?_) | (with_reducible refine bl_drN ?_ _) | (with_reducible refine bl_al ?_ _) | (with_reducible refine bl_more ?_ _ _)))).sp (by exact Enc.Src.one_blk (cs := tokCells ⟨1, x, 0⟩) (alloc_blk (by simp [more_size])) (tokE_mk _)) (fun _ h _ => h.elim) HLEN.out ?_; intro v2 w4 g2 hs2 he2 hg2; obtain ⟨A2, c2, hv2, _, _⟩ := hs2.form; rw [HLE.out] at hv2; subst hv2; have HS2 := hid hs2; have HE2 := hid he2; have HG2 := hid hg2; clear hs2 hg2 he2))
        go_roundg (xs.length - (j + 1))
        case measure => have := HK.out; have := HJ.out.1; omega
        case rel =>
          refine ⟨j + 1, g2, A2, c2, by have := HJ.out.1; omega, rfl, rfl, HTA.out HX.out, ?_⟩
          rw [HNX.out, HTK.out]
          exact (HT.out.below (by repeat (first | (with_reducible exact Below.refl _ _) | (with_reducible exact bl_mm) | (with_reducible refine bl_dr ?_) | (with_reducible refine bl_drN ?_ _) | (with_reducible refine bl_al ?_ _) | (with_reducible refine bl_more ?_ _ _)))).grown HS2.out (fun _ h => h.1) HE2.out HG2.out
      | false =>
        have HNM := hid hnm
        have HTK : Hid (tokT x = ⟨2, x, 0⟩) := hid (by unfold tokT kindT; rw [if_neg (by rw [hnm]; decide)])
        have HLEN : Hid (((xs.take j).map tokT).length + [(⟨2, x, 0⟩ : Tok)].length ≤ 4294967296) := hid (by rw [hlj]; have := HL.out; simp; omega)
        have HLE : Hid (((xs.take j).map tokT ++ [(⟨2, x, 0⟩ : Tok)]).length = j + 1) := hid (by rw [List.length_append, hlj]; rfl)
        cases hmk : isMk x with
        | true =>
          have HX : Hid (okT x = true) := hid (by unfold okT; rw [hmk, Bool.or_true])
          have hcs := mk_yes hmk
          clear hk hok ht hj hnm hlj hmk
          rcases hcs with hc | hc | hc | hc | hc | hc
          · have g : x.toList = [123] := by rw [hc, ByteArray.toList_eq]
            clear hc
            go_wp2_with (first | (go_at_call 13; refine (name_any (s := x)).mono ?_; rintro e w1 ⟨rfl, hb1⟩; rw [HNM.out]; obtain ⟨ex1, dx1, rfl⟩ := more_of hb1; clear hb1) | (at_builtin; refine wpList_app23 (ys := [⟨2, x, 0⟩]) (by rfl) (.tmp 48) (.tmp 51) (by rfl) (by rfl) (by rfl) (by rfl) (HT.out.below (by repeat (first | (with_reducible exact Below.refl _ _) | (with_reducible exact bl_mm) | (with_reducible refine bl_dr ?_) | (with_reducible refine bl_drN ?_ _) | (with_reducible refine bl_al ?_ _) | (with_reducible refine bl_more ?_ _ _)))).sp (by exact Enc.Src.one_blk (cs := tokCells ⟨2, x, 0⟩) (alloc_blk (by simp [more_size])) (tokE_mk _)) (fun _ h _ => h.elim) HLEN.out ?_; intro v2 w4 g2 hs2 he2 hg2; obtain ⟨A2, c2, hv2, _, _⟩ := hs2.form; rw [HLE.out] at hv2; subst hv2; have HS2 := hid hs2; have HE2 := hid he2; have HG2 := hid hg2; clear hs2 hg2 he2))
            go_roundg (xs.length - (j + 1))
            case measure => have := HK.out; have := HJ.out.1; omega
            case rel =>
              refine ⟨j + 1, g2, A2, c2, by have := HJ.out.1; omega, rfl, rfl, HTA.out HX.out, ?_⟩
              rw [HNX.out, HTK.out]
              exact (HT.out.below (by repeat (first | (with_reducible exact Below.refl _ _) | (with_reducible exact bl_mm) | (with_reducible refine bl_dr ?_) | (with_reducible refine bl_drN ?_ _) | (with_reducible refine bl_al ?_ _) | (with_reducible refine bl_more ?_ _ _)))).grown HS2.out (fun _ h => h.1) HE2.out HG2.out
          · have g : x.toList = [125] := by rw [hc, ByteArray.toList_eq]
            clear hc
            go_wp2_with (first | (go_at_call 13; refine (name_any (s := x)).mono ?_; rintro e w1 ⟨rfl, hb1⟩; rw [HNM.out]; obtain ⟨ex1, dx1, rfl⟩ := more_of hb1; clear hb1) | (at_builtin; refine wpList_app23 (ys := [⟨2, x, 0⟩]) (by rfl) (.tmp 48) (.tmp 51) (by rfl) (by rfl) (by rfl) (by rfl) (HT.out.below (by repeat (first | (with_reducible exact Below.refl _ _) | (with_reducible exact bl_mm) | (with_reducible refine bl_dr ?_) | (with_reducible refine bl_drN ?_ _) | (with_reducible refine bl_al ?_ _) | (with_reducible refine bl_more ?_ _ _)))).sp (by exact Enc.Src.one_blk (cs := tokCells ⟨2, x, 0⟩) (alloc_blk (by simp [more_size])) (tokE_mk _)) (fun _ h _ => h.elim) HLEN.out ?_; intro v2 w4 g2 hs2 he2 hg2; obtain ⟨A2, c2, hv2, _, _⟩ := hs2.form; rw [HLE.out] at hv2; subst hv2; have HS2 := hid hs2; have HE2 := hid he2; have HG2 := hid hg2; clear hs2 hg2 he2))
            go_roundg (xs.length - (j + 1))
            case measure => have := HK.out; have := HJ.out.1; omega
            case rel =>
              refine ⟨j + 1, g2, A2, c2, by have := HJ.out.1; omega, rfl, rfl, HTA.out HX.out, ?_⟩
              rw [HNX.out, HTK.out]
              exact (HT.out.below (by repeat (first | (with_reducible exact Below.refl _ _) | (with_reducible exact bl_mm) | (with_reducible refine bl_dr ?_) | (with_reducible refine bl_drN ?_ _) | (with_reducible refine bl_al ?_ _) | (with_reducible refine bl_more ?_ _ _)))).grown HS2.out (fun _ h => h.1) HE2.out HG2.out
          · have g : x.toList = [40] := by rw [hc, ByteArray.toList_eq]
            clear hc
            go_wp2_with (first | (go_at_call 13; refine (name_any (s := x)).mono ?_; rintro e w1 ⟨rfl, hb1⟩; rw [HNM.out]; obtain ⟨ex1, dx1, rfl⟩ := more_of hb1; clear hb1) | (at_builtin; refine wpList_app23 (ys := [⟨2, x, 0⟩]) (by rfl) (.tmp 48) (.tmp 51) (by rfl) (by rfl) (by rfl) (by rfl) (HT.out.below (by repeat (first | (with_reducible exact Below.refl _ _) | (with_reducible exact bl_mm) | (with_reducible refine bl_dr ?_) | (with_reducible refine bl_drN ?_ _) | (with_reducible refine bl_al ?_ _) | (with_reducible refine bl_more ?_ _ _)))).sp (by exact Enc.Src.one_blk (cs := tokCells ⟨2, x, 0⟩) (alloc_blk (by simp [more_size])) (tokE_mk _)) (fun _ h _ => h.elim) HLEN.out ?_; intro v2 w4 g2 hs2 he2 hg2; obtain ⟨A2, c2, hv2, _, _⟩ := hs2.form; rw [HLE.out] at hv2; subst hv2; have HS2 := hid hs2; have HE2 := hid he2; have HG2 := hid hg2; clear hs2 hg2 he2))
            go_roundg (xs.length - (j + 1))
            case measure => have := HK.out; have := HJ.out.1; omega
            case rel =>
              refine ⟨j + 1, g2, A2, c2, by have := HJ.out.1; omega, rfl, rfl, HTA.out HX.out, ?_⟩
              rw [HNX.out, HTK.out]
              exact (HT.out.below (by repeat (first | (with_reducible exact Below.refl _ _) | (with_reducible exact bl_mm) | (with_reducible refine bl_dr ?_) | (with_reducible refine bl_drN ?_ _) | (with_reducible refine bl_al ?_ _) | (with_reducible refine bl_more ?_ _ _)))).grown HS2.out (fun _ h => h.1) HE2.out HG2.out
          · have g : x.toList = [41] := by rw [hc, ByteArray.toList_eq]
            clear hc
            go_wp2_with (first | (go_at_call 13; refine (name_any (s := x)).mono ?_; rintro e w1 ⟨rfl, hb1⟩; rw [HNM.out]; obtain ⟨ex1, dx1, rfl⟩ := more_of hb1; clear hb1) | (at_builtin; refine wpList_app23 (ys := [⟨2, x, 0⟩]) (by rfl) (.tmp 48) (.tmp 51) (by rfl) (by rfl) (by rfl) (by rfl) (HT.out.below (by repeat (first | (with_reducible exact Below.refl _ _) | (with_reducible exact bl_mm) | (with_reducible refine bl_dr ?_) | (with_reducible refine bl_drN ?_ _) | (with_reducible refine bl_al ?_ _) | (with_reducible refine bl_more ?_ _ _)))).sp (by exact Enc.Src.one_blk (cs := tokCells ⟨2, x, 0⟩) (alloc_blk (by simp [more_size])) (tokE_mk _)) (fun _ h _ => h.elim) HLEN.out ?_; intro v2 w4 g2 hs2 he2 hg2; obtain ⟨A2, c2, hv2, _, _⟩ := hs2.form; rw [HLE.out] at hv2; subst hv2; have HS2 := hid hs2; have HE2 := hid he2; have HG2 := hid hg2; clear hs2 hg2 he2))
            go_roundg (xs.length - (j + 1))
            case measure => have := HK.out; have := HJ.out.1; omega
            case rel =>
              refine ⟨j + 1, g2, A2, c2, by have := HJ.out.1; omega, rfl, rfl, HTA.out HX.out, ?_⟩
              rw [HNX.out, HTK.out]
              exact (HT.out.below (by repeat (first | (with_reducible exact Below.refl _ _) | (with_reducible exact bl_mm) | (with_reducible refine bl_dr ?_) | (with_reducible refine bl_drN ?_ _) | (with_reducible refine bl_al ?_ _) | (with_reducible refine bl_more ?_ _ _)))).grown HS2.out (fun _ h => h.1) HE2.out HG2.out
          · have g : x.toList = [59] := by rw [hc, ByteArray.toList_eq]
            clear hc
            go_wp2_with (first | (go_at_call 13; refine (name_any (s := x)).mono ?_; rintro e w1 ⟨rfl, hb1⟩; rw [HNM.out]; obtain ⟨ex1, dx1, rfl⟩ := more_of hb1; clear hb1) | (at_builtin; refine wpList_app23 (ys := [⟨2, x, 0⟩]) (by rfl) (.tmp 48) (.tmp 51) (by rfl) (by rfl) (by rfl) (by rfl) (HT.out.below (by repeat (first | (with_reducible exact Below.refl _ _) | (with_reducible exact bl_mm) | (with_reducible refine bl_dr ?_) | (with_reducible refine bl_drN ?_ _) | (with_reducible refine bl_al ?_ _) | (with_reducible refine bl_more ?_ _ _)))).sp (by exact Enc.Src.one_blk (cs := tokCells ⟨2, x, 0⟩) (alloc_blk (by simp [more_size])) (tokE_mk _)) (fun _ h _ => h.elim) HLEN.out ?_; intro v2 w4 g2 hs2 he2 hg2; obtain ⟨A2, c2, hv2, _, _⟩ := hs2.form; rw [HLE.out] at hv2; subst hv2; have HS2 := hid hs2; have HE2 := hid he2; have HG2 := hid hg2; clear hs2 hg2 he2))
            go_roundg (xs.length - (j + 1))
            case measure => have := HK.out; have := HJ.out.1; omega
            case rel =>
              refine ⟨j + 1, g2, A2, c2, by have := HJ.out.1; omega, rfl, rfl, HTA.out HX.out, ?_⟩
              rw [HNX.out, HTK.out]
              exact (HT.out.below (by repeat (first | (with_reducible exact Below.refl _ _) | (with_reducible exact bl_mm) | (with_reducible refine bl_dr ?_) | (with_reducible refine bl_drN ?_ _) | (with_reducible refine bl_al ?_ _) | (with_reducible refine bl_more ?_ _ _)))).grown HS2.out (fun _ h => h.1) HE2.out HG2.out
          · have g : x.toList = [44] := by rw [hc, ByteArray.toList_eq]
            clear hc
            go_wp2_with (first | (go_at_call 13; refine (name_any (s := x)).mono ?_; rintro e w1 ⟨rfl, hb1⟩; rw [HNM.out]; obtain ⟨ex1, dx1, rfl⟩ := more_of hb1; clear hb1) | (at_builtin; refine wpList_app23 (ys := [⟨2, x, 0⟩]) (by rfl) (.tmp 48) (.tmp 51) (by rfl) (by rfl) (by rfl) (by rfl) (HT.out.below (by repeat (first | (with_reducible exact Below.refl _ _) | (with_reducible exact bl_mm) | (with_reducible refine bl_dr ?_) | (with_reducible refine bl_drN ?_ _) | (with_reducible refine bl_al ?_ _) | (with_reducible refine bl_more ?_ _ _)))).sp (by exact Enc.Src.one_blk (cs := tokCells ⟨2, x, 0⟩) (alloc_blk (by simp [more_size])) (tokE_mk _)) (fun _ h _ => h.elim) HLEN.out ?_; intro v2 w4 g2 hs2 he2 hg2; obtain ⟨A2, c2, hv2, _, _⟩ := hs2.form; rw [HLE.out] at hv2; subst hv2; have HS2 := hid hs2; have HE2 := hid he2; have HG2 := hid hg2; clear hs2 hg2 he2))
            go_roundg (xs.length - (j + 1))
            case measure => have := HK.out; have := HJ.out.1; omega
            case rel =>
              refine ⟨j + 1, g2, A2, c2, by have := HJ.out.1; omega, rfl, rfl, HTA.out HX.out, ?_⟩
              rw [HNX.out, HTK.out]
              exact (HT.out.below (by repeat (first | (with_reducible exact Below.refl _ _) | (with_reducible exact bl_mm) | (with_reducible refine bl_dr ?_) | (with_reducible refine bl_drN ?_ _) | (with_reducible refine bl_al ?_ _) | (with_reducible refine bl_more ?_ _ _)))).grown HS2.out (fun _ h => h.1) HE2.out HG2.out
        | false =>
          have HN : Hid (xs.all okT = false) := hid (HNO.out (by unfold okT; rw [hnm, hmk]; rfl))
          obtain ⟨m1, m2, m3, m4, m5, m6⟩ := mk_no hmk
          clear hk hok ht hj hnm hlj hmk
          go_wp2_with (first | (go_at_call 13; refine (name_any (s := x)).mono ?_; rintro e w1 ⟨rfl, hb1⟩; rw [HNM.out]; obtain ⟨ex1, dx1, rfl⟩ := more_of hb1; clear hb1))
          go_ret2
          exact TexR.no HN.out (HT.out.low.trans (Below.mono (show Below wr.heap.size wr _ from (by repeat (first | (with_reducible exact Below.refl _ _) | (with_reducible exact bl_mm) | (with_reducible refine bl_dr ?_) | (with_reducible refine bl_drN ?_ _) | (with_reducible refine bl_al ?_ _) | (with_reducible refine bl_more ?_ _ _)))) HT.out.size))
    · have hje : j = xs.length := by omega
      subst hje
      rw [List.take_length] at ht hok
      have HT := hid ht
      have HOK := hid hok
      have hnl : ¬ (xs.length : Int) < xs.length := by omega
      clear hk hok ht hj
      go_wp2
      go_ret2
      exact TexR.yes HOK.out HT.out
end Go.Proofs.Ythekoefcienipaa
