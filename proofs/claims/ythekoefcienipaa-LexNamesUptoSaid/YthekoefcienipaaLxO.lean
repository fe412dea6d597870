/- Join. -/
import Derived.Test.YthekoefcienipaaLxN
import Derived.Test.YthekoefcienipaaLxY
namespace Go.Proofs.Ythekoefcienipaa
open Go.RowKit

theorem info9 : (Try.prog.info? 9).map (fun i => (i.zero, i.size, i.bytes)) = some (some (.string ⟨#[]⟩), 1, 16) := by kernel_rfl
theorem app33 {K : Nat → Prop} {g : Nat} {w : World} {v x : Value} {xs ys : List ByteArray} (h : Enc.str.Spine 9 K g w v xs) (hy : Enc.str.Src K w x ys) (hKg : ∀ b, K b → b < w.heap.size → b ≠ g) (hlen : xs.length + ys.length ≤ 4294967296) :
    ∃ v' w' g', (Builtin.append_ #[33, 33] 33 #[v, x]).run Try.prog w = .ok v' w' ∧ Enc.str.Spine 9 (fun b => K b ∧ b < w.heap.size) g' w' v' (xs ++ ys) ∧ Ext (fun b => b = g ∧ capOf v ≠ 0) w w' ∧ Grew g w w' v v' g' := by
  obtain ⟨i0, hi, hz0, hz1, hz2⟩ := info_parts info9
  exact h.append 33 33 33 i0 _ Try.underlying33 ⟨_, Try.underlying33⟩ hi hz0 hz1 rfl (by decide) hy hKg hlen (by rw [hz2]; decide)
theorem wpList_app33 {w : World} {ops : Array Oper} {rest : List Oper} {o : Oper} {a : Act} {Q : Exit → Act → World → Prop} {K : Nat → Prop} {g : Nat} {xs ys : List ByteArray} {v x : Value}
    (hg : o.guard = none) (s x' : Operand) (hop : o.op = Op.call { callee := Callee.builtin Builtin.append, args := #[s, x'], argTypes := #[33, 33] }) (hty : o.type = 33)
    (hv : a.eval s = v) (hx : a.eval x' = x) (hs : Enc.str.Spine 9 K g w v xs) (hy : Enc.str.Src K w x ys) (hKg : ∀ b, K b → b < w.heap.size → b ≠ g) (hlen : xs.length + ys.length ≤ 4294967296)
    (h : ∀ v' w' g', Enc.str.Spine 9 (fun b => K b ∧ b < w.heap.size) g' w' v' (xs ++ ys) → Ext (fun b => b = g ∧ capOf v ≠ 0) w w' → Grew g w w' v v' g' → wpList Try.prog ops Q rest (a.put o.dst v') w') :
    wpList Try.prog ops Q (o :: rest) a w := by
  subst hv; subst hx
  obtain ⟨v', w', g', hrun, h1, h2, h3⟩ := app33 hs hy hKg hlen
  exact wpList_append_run hg s x' 33 33 hop (by rw [hty]; exact hrun) (h v' w' g' h1 h2 h3)
/-- A row of strings that was made from block N on. -/
structure Strs (N : Nat) (w0 w : World) (g : Nat) (v : Value) (xs : List ByteArray) : Prop where
  sp : Enc.str.Spine 9 No g w v xs
  gN : N ≤ g
  size : N ≤ w.heap.size
  low : Below N w0 w
theorem Strs.below {N : Nat} {w0 w w' : World} {g : Nat} {v : Value} {xs : List ByteArray} (h : Strs N w0 w g v xs) (hb : Below w.heap.size w w') : Strs N w0 w' g v xs :=
  ⟨h.sp.step (fun _ hc => (hb.block g (Array.getElem?_eq_some_iff.1 hc).1).trans hc) (fun _ hk _ => hk.elim), h.gN, Nat.le_trans h.size hb.size, h.low.trans (hb.mono h.size)⟩
theorem Strs.grown {N : Nat} {w0 w w2 : World} {g g2 : Nat} {v v2 : Value} {xs ys : List ByteArray} {K : Nat → Prop} (h : Strs N w0 w g v xs) (hs : Enc.str.Spine 9 K g2 w2 v2 ys) (hK : ∀ b, ¬ K b) (he : Ext (fun b => b = g ∧ capOf v ≠ 0) w w2) (hg : Grew g w w2 v v2 g2) : Strs N w0 w2 g2 v2 ys := by
  have h1 := h.gN
  refine ⟨hs.step (fun _ hc => hc) (fun b hb _ => (hK b hb).elim), by have := h.size; rcases hg.two with e | e <;> omega, Nat.le_trans h.size he.size, h.low.trans (he.toBelow h.size (fun x hx e => by omega))⟩
theorem Strs.cells {N : Nat} {w0 w : World} {g n c : Nat} {A : Option Addr} {xs : List ByteArray} (h : Strs N w0 w g (.slice A n c) xs) (hx : xs ≠ []) : ∃ b off, A = some ⟨b, off, none⟩ ∧ b < w.heap.size ∧ ∀ (j : Nat) x, xs[j]? = some x → w.cell? ⟨b, off + j, none⟩ = some (.string x) := by
  have hr := h.sp.row (K' := fun _ => True) (fun _ _ _ => trivial) trivial
  have hl : 0 < xs.length := List.length_pos_iff.2 hx
  obtain ⟨b, off, cs, e, _, hlt, _, _⟩ := hr.get 0 hl
  refine ⟨b, off, e, hlt, fun j x hj => ?_⟩
  obtain ⟨hj1, rfl⟩ := List.getElem?_eq_some_iff.1 hj
  obtain ⟨b', off', cs', e', _, _, h1, h2⟩ := hr.get j hj1
  have h1 : cs' = [.string xs[j]] := h1
  rw [e] at e'
  cases e'
  have := h2 0 (.string xs[j]) (by rw [h1]; rfl)
  rw [show Enc.str.sz = 1 from rfl, Nat.mul_one, Nat.add_zero] at this
  exact this
/-- Tokens as a text. -/
def joinB (l : List Tok) : ByteArray := ⟨(Lib.join (l.map (·.text.data.toList)) [32]).toArray⟩
set_option maxHeartbeats 1000000 in
theorem join_any {w : World} {v : Value} {l : List Tok} {K : Nat → Prop} (h : tokE.Row K w v l) (hl : l.length ≤ 100000) (hj : (Lib.join (l.map (·.text.data.toList)) [32]).length ≤ 140737488355328) : Calls Try.prog 17 #[v] w fun e w' => e = .returned (.string (joinB l)) ∧ Below w.heap.size w w' := by
  obtain ⟨A, ca, rfl, _, _⟩ := h.form
  have HR := hid h
  have hlx : (l.length : Int) ≤ 100000 := by omega
  have HL := hid hl
  have HJN := hid hj
  clear h hl hj
  go_enter Try.func17, Try.ntmps17
  go_wp2
  go_loopg [3, 8] l.length (fun k vo vi wr => ∃ (j g : Nat) (B : Option Addr) (cb : Nat), j + k = l.length ∧ vi = .int .i64 (j : Int) ∧ vo = .slice B j cb ∧ Strs w.heap.size w wr g vo ((l.take j).map (·.text)))
  case atStart => exact ⟨0, w.heap.size, none, 0, by omega, rfl, rfl, Enc.Spine.nil _ _ _ _ _, Nat.le_refl _, Nat.le_refl _, Below.refl _ _⟩
  case round =>
    obtain ⟨j, g, B, cb, hk, rfl, rfl, hs⟩ := hrel
    have HK := hid hk
    have HS := hid hs
    by_cases hjl : j < l.length
    · have HJ := hid (And.intro hjl trivial)
      obtain ⟨b1, o1, rfl, _, hl1, x1, x2, x3⟩ := row_tok (HR.out.below hs.low) j HJ.out.1
      have hj0 : (0 : Int) ≤ j := by omega
      have hjx : (j : Int) < l.length := by omega
      have HLEN : Hid (((l.take j).map (·.text)).length + [(l[j]'HJ.out.1).text].length ≤ 4294967296) := hid (by have := HL.out; simp; omega)
      clear hk hs hjl
      go_wp2_with (first | (at_builtin; refine wpList_app33 (ys := [(l[j]'HJ.out.1).text]) (by rfl) (.tmp 12) (.tmp 15) (by rfl) (by rfl) (by rfl) (by rfl) (HS.out.below (by repeat (first | (with_reducible exact Below.refl _ _) | (with_reducible exact bl_mm) | (with_reducible refine bl_dr ?_) | (with_reducible refine bl_drN ?_ _) | (with_reducible refine bl_al ?_ _) | (with_reducible refine bl_more ?_ _ _)))).sp (by exact Enc.Src.one_blk (cs := [.string (l[j]'HJ.out.1).text]) (alloc_blk (by simp [more_size])) rfl) (fun _ h _ => h.elim) HLEN.out ?_; intro v2 w4 g2 hs2 he2 hg2; obtain ⟨A2, c2, rfl, _, _⟩ := hs2.form; have HS2 := hid hs2; have HE2 := hid he2; have HG2 := hid hg2; clear hs2 hg2 he2))
      go_roundg (l.length - (j + 1))
      case measure => have := HK.out; have := HJ.out.1; omega
      case rel =>
        have hjl := HJ.out.1
        have e : ((l.take j).map (·.text) ++ [(l[j]'HJ.out.1).text]).length = j + 1 := by simp; omega
        have e2 : (l.take (j + 1)).map (·.text) = (l.take j).map (·.text) ++ [(l[j]'HJ.out.1).text] := by
          rw [List.take_succ_eq_append_getElem hjl, List.map_append]; rfl
        have hS2 := HS2.out
        rw [e] at hS2
        refine ⟨j + 1, g2, A2, c2, by omega, rfl, by rw [Nat.min_eq_left (Nat.le_of_lt hjl)], ?_⟩
        rw [e2, Nat.min_eq_left (Nat.le_of_lt hjl)]
        exact (HS.out.below (by repeat (first | (with_reducible exact Below.refl _ _) | (with_reducible exact bl_mm) | (with_reducible refine bl_dr ?_) | (with_reducible refine bl_drN ?_ _) | (with_reducible refine bl_al ?_ _) | (with_reducible refine bl_more ?_ _ _)))).grown hS2 (fun _ h => h.1) HE2.out HG2.out
    · have hje : j = l.length := by omega
      subst hje
      rw [List.take_length] at hs
      have hnl : ¬ (l.length : Int) < l.length := by omega
      by_cases hl0 : l = []
      · subst hl0
        have HS := hid hs
        clear hk hs hjl
        go_wp2_with (first | (go_at_call 29; refine (Try.strings_Join_none _ _ _ _).mono ?_; rintro e w5 ⟨rfl, rfl⟩))
        go_ret
        exact ⟨rfl, HS.out.low⟩
      · have hne : l.map (·.text) ≠ [] := fun h => hl0 (List.map_eq_nil_iff.1 h)
        obtain ⟨B', cb', e, hcp1, _⟩ := hs.sp.form
        rw [List.length_map] at e hcp1
        cases e
        obtain ⟨bb, oo, rfl, hlt, hce⟩ := hs.cells hne
        have hJ := Try.strings_Join bb oo cb (l.map (·.text)) ⟨#[32]⟩ wr hce hlt (by rw [List.length_map]; have := HL.out; omega) (by rw [List.length_map]; exact hcp1) (by rw [List.map_map]; exact HJN.out)
        rw [List.length_map] at hJ
        have HJC := hid hJ
        have hlow := hs.low
        have HLOW := hid hlow
        clear hk hs hjl hce hlt hcp1 hne hl0 hJ hlow HJN
        go_wp2_with (first | (go_at_call 29; refine HJC.out.mono ?_; rintro e w5 ⟨rfl, hb5⟩; have HB5 := hid hb5; clear hb5))
        go_ret
        refine ⟨?_, HLOW.out.trans (HB5.out.mono HLOW.out.size)⟩
        rfl
end Go.Proofs.Ythekoefcienipaa
