/- The document's reading of a text. -/
import Derived.Test.YthekoefcienipaaLxS
namespace Go.Proofs.Ythekoefcienipaa
open Go.RowKit

theorem by_ext {s : ByteArray} {a b j : Nat} (hb : b ≤ s.size) (h : a + j < b ∨ b = s.size) : by_ (s.extract a b) j = by_ s (a + j) := by
  have he : (s.extract a b).data.toList = (s.data.toList.take b).drop a := by
    rw [ByteArray.data_extract, Array.toList_extract]
    simp [List.extract, List.drop_take]
  have hg : ∀ (t : ByteArray) (i : Nat), t.get! i = (t.data.toList[i]?).getD default := by
    intro t i
    simp only [ByteArray.get!, Array.getElem!_eq_getD, Array.getD]
    split
    · rename_i h
      rw [Array.getElem?_toList, Array.getElem?_eq_getElem h]
      rfl
    · rename_i h
      rw [Array.getElem?_toList, Array.getElem?_eq_none (by omega)]
      rfl
  unfold by_
  rw [hg, hg, he, List.getElem?_drop, List.getElem?_take]
  split
  · rfl
  · rename_i h1
    rw [Array.getElem?_toList, Array.getElem?_eq_none (by have : s.data.size = s.size := rfl; omega)]
theorem dec_ext {s : ByteArray} {a b i : Nat} (hb : b ≤ s.size) (h : a + i + 4 ≤ b ∨ b = s.size) : Utf8.decode (s.extract a b) i = Utf8.decode s (a + i) := by
  have hsz : (s.extract a b).size = b - a := by rw [ByteArray.size_extract]; omega
  have g : ∀ k, k < 4 → ((s.extract a b).get! (i + k)).toNat = (s.get! (a + i + k)).toNat := fun k hk => by
    have := by_ext (a := a) (j := i + k) hb (by omega)
    rw [← Nat.add_assoc] at this
    exact this
  have k1 : ∀ k, k < 4 → decide (i + k < (s.extract a b).size) = decide (a + i + k < s.size) := fun k hk => by rw [hsz]; exact decide_eq_decide.2 (by omega)
  unfold Utf8.decode
  simp only [g 0 (by decide), g 1 (by decide), g 2 (by decide), g 3 (by decide), k1 1 (by decide), k1 2 (by decide), k1 3 (by decide)]
theorem bad_ext {s : ByteArray} {a b i : Nat} (hb : b ≤ s.size) (h : a + i + 4 ≤ b ∨ b = s.size) : bad (s.extract a b) i = bad s (a + i) := by
  unfold bad
  rw [dec_ext hb h]
/-- The code points of a text from p on, up to the first bad byte. -/
def rdL (s : ByteArray) (p : Nat) : List Int :=
  if _h : p < s.size then (if bad s p = true then [] else ((Utf8.decode s p).1 : Int) :: rdL s (p + max 1 (Utf8.decode s p).2)) else []
termination_by s.size - p
decreasing_by omega
theorem rdL_end {s : ByteArray} {p : Nat} (h : ¬ p < s.size) : rdL s p = [] := by rw [rdL, dif_neg h]
theorem rdL_bad {s : ByteArray} {p : Nat} (h : bad s p = true) : rdL s p = [] := by
  rw [rdL]
  split
  · simp [h]
  · rfl
theorem rdL_next {s : ByteArray} {p : Nat} (h : p < s.size) (hb : bad s p = false) : rdL s p = ((Utf8.decode s p).1 : Int) :: rdL s (p + (Utf8.decode s p).2) := by
  rw [rdL, dif_pos h, if_neg (by rw [hb]; decide), Nat.max_eq_right (width_pos s p)]
theorem info3 : (Try.prog.info? 3).map (fun i => (i.zero, i.size, i.bytes)) = some (some (.int .i64 0), 1, 8) := by kernel_rfl
theorem app63 {K : Nat → Prop} {g : Nat} {w : World} {v x : Value} {xs ys : List Int} (h : intE.Spine 3 K g w v xs) (hy : intE.Src K w x ys) (hKg : ∀ b, K b → b < w.heap.size → b ≠ g) (hlen : xs.length + ys.length ≤ 4294967296) :
    ∃ v' w' g', (Builtin.append_ #[63, 63] 63 #[v, x]).run Try.prog w = .ok v' w' ∧ intE.Spine 3 (fun b => K b ∧ b < w.heap.size) g' w' v' (xs ++ ys) ∧ Ext (fun b => b = g ∧ capOf v ≠ 0) w w' ∧ Grew g w w' v v' g' := by
  obtain ⟨i0, hi, hz0, hz1, hz2⟩ := info_parts info3
  exact h.append 63 63 63 i0 _ Try.underlying63 ⟨_, Try.underlying63⟩ hi hz0 hz1 rfl (by decide) hy hKg hlen (by rw [hz2]; decide)
theorem wpList_app63 {w : World} {ops : Array Oper} {rest : List Oper} {o : Oper} {a : Act} {Q : Exit → Act → World → Prop} {K : Nat → Prop} {g : Nat} {xs ys : List Int} {v x : Value}
    (hg : o.guard = none) (s x' : Operand) (hop : o.op = Op.call { callee := Callee.builtin Builtin.append, args := #[s, x'], argTypes := #[63, 63] }) (hty : o.type = 63)
    (hv : a.eval s = v) (hx : a.eval x' = x) (hs : intE.Spine 3 K g w v xs) (hy : intE.Src K w x ys) (hKg : ∀ b, K b → b < w.heap.size → b ≠ g) (hlen : xs.length + ys.length ≤ 4294967296)
    (h : ∀ v' w' g', intE.Spine 3 (fun b => K b ∧ b < w.heap.size) g' w' v' (xs ++ ys) → Ext (fun b => b = g ∧ capOf v ≠ 0) w w' → Grew g w w' v v' g' → wpList Try.prog ops Q rest (a.put o.dst v') w') :
    wpList Try.prog ops Q (o :: rest) a w := by
  subst hv; subst hx
  obtain ⟨v', w', g', hrun, h1, h2, h3⟩ := app63 hs hy hKg hlen
  exact wpList_append_run hg s x' 63 63 hop (by rw [hty]; exact hrun) (h v' w' g' h1 h2 h3)
/-- A row of numbers that was made from block N on. -/
structure Nums (N : Nat) (w0 w : World) (g : Nat) (v : Value) (xs : List Int) : Prop where
  sp : intE.Spine 3 No g w v xs
  gN : N ≤ g
  size : N ≤ w.heap.size
  low : Below N w0 w
theorem Nums.below {N : Nat} {w0 w w' : World} {g : Nat} {v : Value} {xs : List Int} (h : Nums N w0 w g v xs) (hb : Below w.heap.size w w') : Nums N w0 w' g v xs :=
  ⟨h.sp.step (fun _ hc => (hb.block g (Array.getElem?_eq_some_iff.1 hc).1).trans hc) (fun _ hk _ => hk.elim), h.gN, Nat.le_trans h.size hb.size, h.low.trans (hb.mono h.size)⟩
theorem Nums.grown {N : Nat} {w0 w w2 : World} {g g2 : Nat} {v v2 : Value} {xs ys : List Int} {K : Nat → Prop} (h : Nums N w0 w g v xs) (hs : intE.Spine 3 K g2 w2 v2 ys) (hK : ∀ b, ¬ K b) (he : Ext (fun b => b = g ∧ capOf v ≠ 0) w w2) (hg : Grew g w w2 v v2 g2) : Nums N w0 w2 g2 v2 ys := by
  have h1 := h.gN
  refine ⟨hs.step (fun _ hc => hc) (fun b hb _ => (hK b hb).elim), by have := h.size; rcases hg.two with e | e <;> omega, Nat.le_trans h.size he.size, h.low.trans (he.toBelow h.size (fun x hx e => by omega))⟩
set_option maxHeartbeats 4000000 in
theorem read_any {w : World} {s : ByteArray} (hz : s.size ≤ 65536) : Calls Try.prog 43 #[.string s] w fun e w' => ∃ v g, e = .returned (.tuple #[v, .int .i64 (badI (badAt s 0))]) ∧ Nums w.heap.size w w' g v (rdL s 0) := by
  have HZ := hid hz
  have hz' : (s.size : Int) ≤ 65536 := by omega
  clear hz
  go_enter Try.func43, Try.ntmps43
  go_wp2
  go_loopg [4, 5] (s.size + 1) (fun k vo vp wr => ∃ (p g : Nat) (xs : List Int), p + k = s.size + 1 ∧ p ≤ s.size ∧ vp = .int .i64 (p : Int) ∧ rdL s 0 = xs ++ rdL s p ∧ badAt s 0 = badAt s p ∧ xs.length ≤ p ∧ Nums w.heap.size w wr g vo xs)
  case atStart => exact ⟨0, w.heap.size, [], by omega, by omega, rfl, rfl, rfl, by simp, ⟨Enc.Spine.nil _ _ _ _ _, Nat.le_refl _, Nat.le_refl _, Below.refl _ _⟩⟩
  case round =>
    obtain ⟨p, g, xs, hk, hps, rfl, hr, hb, hx, hn⟩ := hrel
    obtain ⟨A, cp, rfl, hf1, hf2⟩ := hn.sp.form
    have HK := hid hk
    have HPS := hid hps
    have HR := hid hr
    have HB := hid hb
    have HX := hid hx
    have HNU := hid hn
    clear hk hps hr hb hx hn hf1 hf2
    by_cases hp : p < s.size
    · have hp1 : (p : Int) < s.size := by omega
      have hp2 : (p : Int) ≤ s.size := by omega
      have hp0 : (0 : Int) ≤ p := by omega
      have HP := hid hp
      have hes : (s.extract p s.size).size = s.size - p := by rw [ByteArray.size_extract]; omega
      have HFS : Hid (1 ≤ (s.extract p s.size).size) := hid (by omega)
      have hfd := first_dec HFS.out
      rw [dec_ext (Nat.le_refl _) (.inr rfl), bad_ext (Nat.le_refl _) (.inr rfl), Nat.add_zero] at hfd
      clear hes
      cases hbd : bad s p with
      | true =>
        rw [hbd, if_pos rfl] at hfd
        have HFV := hid hfd
        have HBD := hid hbd
        clear hfd hbd hp
        go_wp2_with (first | (go_at_call 50; refine (first_any HFS.out).mono ?_; rintro e w1 ⟨rfl, hb1⟩; rw [HFV.out]; obtain ⟨ex1, dx1, rfl⟩ := more_of hb1; clear hb1))
        go_ret2
        refine ⟨.slice A xs.length cp, g, ?_, ?_⟩
        · rw [HB.out, badAt_here HP.out HBD.out]; rfl
        · rw [HR.out, rdL_bad HBD.out, List.append_nil]
          exact HNU.out.below (by repeat (first | (with_reducible exact Below.refl _ _) | (with_reducible exact bl_mm) | (with_reducible refine bl_dr ?_) | (with_reducible refine bl_drN ?_ _) | (with_reducible refine bl_al ?_ _) | (with_reducible refine bl_more ?_ _ _)))
      | false =>
        rw [hbd, if_neg (by decide)] at hfd
        have hdo := decode_ok s p
        have HWD := hid (wid_dec hbd)
        have HBD := hid hbd
        obtain ⟨c, hc⟩ : ∃ c : Int, ((Utf8.decode s p).1 : Int) = c := ⟨_, rfl⟩
        rw [hc] at hfd hdo HWD
        have HC := hid hc
        have hc0 : (c < 0) = False := eq_false (by have := hdo.1; omega)
        have HFV := hid hfd
        clear hfd hbd hp hdo hc
        go_wp2_with (first | (go_at_call 50; refine (first_any HFS.out).mono ?_; rintro e w1 ⟨rfl, hb1⟩; rw [HFV.out]; obtain ⟨ex1, dx1, rfl⟩ := more_of hb1; clear hb1) | (at_builtin; refine wpList_app63 (ys := [c]) (by rfl) (.tmp 19) (.tmp 21) (by rfl) (by rfl) (by rfl) (by rfl) (HNU.out.below (by repeat (first | (with_reducible exact Below.refl _ _) | (with_reducible exact bl_mm) | (with_reducible refine bl_dr ?_) | (with_reducible refine bl_drN ?_ _) | (with_reducible refine bl_al ?_ _) | (with_reducible refine bl_more ?_ _ _)))).sp (Enc.Src.one_blk (cs := [.int .i64 c]) (alloc_blk (by simp [more_size])) rfl) (fun _ h _ => h.elim) (by have := HX.out; have := HPS.out; have := HZ.out; simp; omega) ?_; intro v2 w2 g2 hs2 he2 hg2; obtain ⟨A2, c2, rfl, _, _⟩ := hs2.form; have HS2 := hid hs2; have HE2 := hid he2; have HG2 := hid hg2; clear hs2 hg2 he2) | (go_at_call 44; refine wid_any.mono ?_; rintro e w3 ⟨rfl, rfl⟩; rw [HWD.out]))
        go_roundg (s.size + 1 - (p + (Utf8.decode s p).2))
        case measure => have := HK.out; have := HP.out; have := width_pos s p; have := width_le HP.out; omega
        case rel =>
          have h1 := width_le HP.out
          have h2 := width_pos s p
          have h3 := HZ.out
          refine ⟨p + (Utf8.decode s p).2, g2, xs ++ [c], by omega, h1, ?_, ?_, ?_, by have := HX.out; simp; omega, ?_⟩
          · have : wrap64 ((p : Int) + ((Utf8.decode s p).2 : Int)) = ((p + (Utf8.decode s p).2 : Nat) : Int) := by rw [wrap64]; omega
            rw [this]
          · rw [HR.out, rdL_next HP.out HBD.out, HC.out, List.append_assoc]; rfl
          · rw [HB.out]; exact badAt_next HP.out HBD.out
          · exact (HNU.out.below (by repeat (first | (with_reducible exact Below.refl _ _) | (with_reducible exact bl_mm) | (with_reducible refine bl_dr ?_) | (with_reducible refine bl_drN ?_ _) | (with_reducible refine bl_al ?_ _) | (with_reducible refine bl_more ?_ _ _)))).grown (K := fun b => No b ∧ b < ((more wr ex1 dx1).alloc (Obj.cells #[Value.int IntKind.i64 c] 3)).heap.size) (by have h := HS2.out; rw [List.length_append] at h; exact h) (fun _ h => h.1) HE2.out HG2.out
    · have hp1 : ¬ (p : Int) < s.size := by omega
      have HP := hid hp
      clear hp
      go_wp2
      go_ret2
      refine ⟨.slice A xs.length cp, ?_, g, ?_⟩
      · rw [HB.out, badAt_end HP.out]; rfl
      rw [HR.out, rdL_end HP.out, List.append_nil]
      exact HNU.out
end Go.Proofs.Ythekoefcienipaa
