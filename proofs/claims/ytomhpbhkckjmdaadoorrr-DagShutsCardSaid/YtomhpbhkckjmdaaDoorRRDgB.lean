/- A set's nodes as a row. -/
import Derived.Test.YtomhpbhkckjmdaaDoorRRDgA
import Derived.Test.YtomhpbhkckjmdaaDoorRROut
namespace Go.Proofs.YtomhpbhkckjmdaaDoorRR
open Go.RowKit

abbrev No : Nat → Prop := fun _ => False
abbrev natE : Enc Nat := Enc.scalar (fun n : Nat => .int .i64 (n : Int)) (fun _ => rfl)
abbrev setE : Enc Nat := Enc.scalar (fun n : Nat => .int .u64 (n : Int)) (fun _ => rfl)
/-- A slice's type t over elements of type E that are read by d. -/
structure ElemOk {α : Type} (d : Enc α) (t E : TypeId) : Prop where
  ht : Tryd.prog.underlying t = some (.slice E)
  ex : ∃ i z, Tryd.prog.info? E = some i ∧ i.zero = some z ∧ i.size = d.sz ∧ z.cells.size = d.sz ∧ i.bytes ≤ 32768
  pos : 0 < d.sz
theorem wpList_app {α : Type} {d : Enc α} {t E : TypeId} (ok : ElemOk d t E) {w : World} {ops : Array Oper} {rest : List Oper} {o : Oper} {a : Act} {Q : Exit → Act → World → Prop} {K : Nat → Prop} {g : Nat} {xs ys : List α} {v x : Value}
    (hg : o.guard = none) (s x' : Operand) (hop : o.op = Op.call { callee := Callee.builtin Builtin.append, args := #[s, x'], argTypes := #[t, t] }) (hty : o.type = t)
    (hv : a.eval s = v) (hx : a.eval x' = x) (hs : d.Spine E K g w v xs) (hy : d.Src K w x ys) (hKg : ∀ b, K b → b < w.heap.size → b ≠ g) (hlen : xs.length + ys.length ≤ 4294967296)
    (h : ∀ v' w' g', d.Spine E (fun b => K b ∧ b < w.heap.size) g' w' v' (xs ++ ys) → Ext (fun b => b = g ∧ capOf v ≠ 0) w w' → Grew g w w' v v' g' → wpList Tryd.prog ops Q rest (a.put o.dst v') w') :
    wpList Tryd.prog ops Q (o :: rest) a w := by
  subst hv; subst hx
  obtain ⟨i, z, hi, hz, hs1, hs2, hb⟩ := ok.ex
  obtain ⟨v', w', g', hrun, h1, h2, h3⟩ := hs.append t t t i z ok.ht ⟨_, ok.ht⟩ hi hz hs1 hs2 ok.pos hy hKg hlen hb
  exact wpList_append_run hg s x' t t hop (by rw [hty]; exact hrun) (h v' w' g' h1 h2 h3)
theorem info3 : (Tryd.prog.info? 3).map (fun i => (i.zero, i.size, i.bytes)) = some (some (.int .i64 0), 1, 8) := by kernel_rfl
theorem ok25 : ElemOk natE 25 3 := by
  obtain ⟨i0, hi, hz0, hz1, hz2⟩ := info_parts info3
  exact ⟨Tryd.underlying25, ⟨i0, _, hi, hz0, hz1, rfl, by rw [hz2]; decide⟩, by decide⟩
/-- A row that was made from block N on. -/
structure Nums {α : Type} (d : Enc α) (E : TypeId) (N : Nat) (w0 w : World) (g : Nat) (v : Value) (xs : List α) : Prop where
  sp : d.Spine E No g w v xs
  gN : N ≤ g
  size : N ≤ w.heap.size
  low : Below N w0 w
namespace Nums
variable {α : Type} {d : Enc α} {E : TypeId} {N : Nat} {w0 w w' w2 : World} {g g2 : Nat} {v v2 : Value} {xs ys : List α} {K : Nat → Prop}
theorem below (h : Nums d E N w0 w g v xs) (hb : Below w.heap.size w w') : Nums d E N w0 w' g v xs :=
  ⟨h.sp.step (fun _ hc => (hb.block g (Array.getElem?_eq_some_iff.1 hc).1).trans hc) (fun _ hk _ => hk.elim), h.gN, Nat.le_trans h.size hb.size, h.low.trans (hb.mono h.size)⟩
theorem ext {S : Nat → Prop} (h : Nums d E N w0 w g v xs) (hb : Ext S w w') (hS : ¬ S g) (hN : ∀ b, b < N → ¬ S b) : Nums d E N w0 w' g v xs :=
  ⟨h.sp.step (fun _ hc => (hb.block g (Array.getElem?_eq_some_iff.1 hc).1 hS).trans hc) (fun _ hk _ => hk.elim), h.gN, Nat.le_trans h.size hb.size, h.low.trans (hb.toBelow h.size (fun x hx e => hN x hx e))⟩
theorem grown (h : Nums d E N w0 w g v xs) (hs : d.Spine E K g2 w2 v2 ys) (hK : ∀ b, ¬ K b) (he : Ext (fun b => b = g ∧ capOf v ≠ 0) w w2) (hg : Grew g w w2 v v2 g2) : Nums d E N w0 w2 g2 v2 ys := by
  have h1 := h.gN
  refine ⟨hs.step (fun _ hc => hc) (fun b hb _ => (hK b hb).elim), by have := h.size; rcases hg.two with e | e <;> omega, Nat.le_trans h.size he.size, h.low.trans (he.toBelow h.size (fun x hx e => by omega))⟩
theorem start (w : World) : Nums d E w.heap.size w w w.heap.size (.slice none 0 0) ([] : List α) := ⟨Enc.Spine.nil _ _ _ _ _, Nat.le_refl _, Nat.le_refl _, Below.refl _ _⟩
theorem row (h : Nums d E N w0 w g v xs) : d.Row (fun b => N ≤ b) w v xs := h.sp.row (fun _ hb _ => hb.elim) h.gN
end Nums
/-- Nodes of a set, rising. -/
def nodes (S : Nat) : List Nat := (List.range 64).filter (fun i => S.testBit i)
theorem mem_nodes {S i : Nat} : i ∈ nodes S ↔ i < 64 ∧ S.testBit i = true := by simp [nodes]
theorem nodes_zero : nodes 0 = [] := by simp [nodes]
theorem nodes_nodup (S : Nat) : (nodes S).Nodup := List.nodup_range.filter _
theorem nodes_len (S : Nat) : (nodes S).length ≤ 64 := by
  have := List.length_filter_le (fun i => S.testBit i) (List.range 64)
  simpa [nodes] using this
theorem ctz_low {S : Nat} (h0 : S ≠ 0) (h : S < M64) : Lib.ctz 64 S < 64 ∧ S.testBit (Lib.ctz 64 S) = true ∧ ∀ j, j < Lib.ctz 64 S → S.testBit j = false := by
  obtain ⟨m, h1, h2⟩ := Lib.ctzFrom_spec 64 S (by omega) h
  have hc : Lib.ctz 64 S = Lib.ctzFrom 64 S := by unfold Lib.ctz; rw [if_neg h0]
  rw [hc]
  refine ⟨h2, ?_, fun j hj => ?_⟩
  · generalize Lib.ctzFrom 64 S = k at *
    rw [h1, Nat.testBit_two_pow_mul]
    simp
  · generalize Lib.ctzFrom 64 S = k at *
    rw [h1, Nat.testBit_two_pow_mul]
    simp; omega
theorem nodes_next {S : Nat} (h0 : S ≠ 0) (h : S < M64) : nodes S = Lib.ctz 64 S :: nodes (dif S (bitN (Lib.ctz 64 S))) := by
  obtain ⟨h1, h2, h3⟩ := ctz_low h0 h
  generalize Lib.ctz 64 S = k at *
  have hr : List.range 64 = List.range k ++ k :: List.range' (k + 1) (63 - k) := by
    rw [List.range_eq_range', List.range_eq_range', show (64 : Nat) = k + (1 + (63 - k)) by omega, ← List.range'_append_1, Nat.zero_add, Nat.add_comm 1, List.range'_succ]
  unfold nodes
  rw [hr, List.filter_append, List.filter_append, List.filter_cons_of_pos h2, List.filter_cons_of_neg (by rw [dif_bit _ _ h, bitN_bit]; simp)]
  have e1 : (List.range k).filter (fun i => S.testBit i) = [] := by
    apply List.filter_eq_nil_iff.2
    intro j hj
    rw [h3 j (List.mem_range.1 hj)]; simp
  have e2 : (List.range k).filter (fun i => (dif S (bitN k)).testBit i) = [] := by
    apply List.filter_eq_nil_iff.2
    intro j hj
    rw [dif_bit _ _ h, h3 j (List.mem_range.1 hj)]; simp
  rw [e1, e2]
  simp only [List.nil_append, List.cons.injEq, true_and]
  apply List.filter_congr
  intro j hj
  rw [List.mem_range'_1] at hj
  rw [dif_bit _ _ h, bitN_bit]
  have : ¬ k = j := by omega
  simp [this]
/-- The table by which the least bit is found. -/
structure Tab (w : World) : Prop where
  at_ : ∀ j, j < 64 → w.cell? ⟨0, j, none⟩ = some (.int .u8 (Lib.deBruijn64tab.getD j 0))
  lt : 0 < w.heap.size
theorem Tab.ext {S : Nat → Prop} {w w' : World} (h : Tab w) (hb : Ext S w w') (h0 : ¬ S 0) : Tab w' :=
  ⟨fun j hj => (World.cell?_of_block (w := w) (hb.block 0 h.lt h0)).trans (h.at_ j hj), Nat.lt_of_lt_of_le h.lt hb.size⟩
theorem Tab.below {w w' : World} (h : Tab w) (hb : Below w.heap.size w w') : Tab w' := h.ext (S := fun _ => False) (Ext.of_below hb) (fun h => h)
set_option maxHeartbeats 1000000 in
theorem tz_core (x k idx : Nat) (w : World) (hx0 : ((x : Int) == 0) = false)
    (key : IntKind.u64.wrap (bits BinOp.and IntKind.u64 (x : Int) (IntKind.u64.wrap (-(x : Int))) * 285870213051353865) / 288230376151711744 = (idx : Int))
    (hi : idx < 64) (hk : k < 64) (hcell : w.cell? ⟨0, idx, none⟩ = some (.int .u8 k)) : Calls Tryd.prog 33 #[.int .u64 x] w fun e w' => e = .returned (.int .i64 k) ∧ w' = w := by
  go_enter Tryd.func33, Tryd.ntmps33
  go_wp2_with (simp only [key])
  go_ret
  exact ⟨rfl, rfl⟩
theorem tz_any {w : World} (hT : Tab w) {S : Nat} (h0 : S ≠ 0) (h : S < M64) : Calls Tryd.prog 33 #[.int .u64 (S : Int)] w fun e w' => e = .returned (.int .i64 (Lib.ctz 64 S : Nat)) ∧ w' = w := by
  obtain ⟨hlow, hk⟩ := Lib.lowest_bit 64 S h0 h
  obtain ⟨hi, htab⟩ := Lib.deBruijn64_at _ hk
  have hcell := hT.at_ _ hi
  rw [htab] at hcell
  exact tz_core S _ _ w (by simp; omega) (tz64_key S _ h h0 hlow) hi hk hcell
set_option maxHeartbeats 4000000 in
theorem list_any {w : World} (hT : Tab w) {S : Nat} (h : S < M64) : Calls Tryd.prog 23 #[.int .u64 (S : Int)] w fun e w' => ∃ v g, e = .returned v ∧ Nums natE 3 w.heap.size w w' g v (nodes S) := by
  have HT := hid hT
  have H0 := hid h
  clear hT h
  go_enter Tryd.func23, Tryd.ntmps23
  go_wp2
  go_loopg [0, 3] (nodes S).length (fun k vs vo wr => ∃ (s g : Nat) (xs : List Nat), k = (nodes s).length ∧ s < M64 ∧ vs = .int .u64 (s : Int) ∧ nodes S = xs ++ nodes s ∧ Nums natE 3 w.heap.size w wr g vo xs)
  case atStart => exact ⟨S, w.heap.size, [], rfl, H0.out, rfl, rfl, Nums.start w⟩
  case round =>
    obtain ⟨s, g, xs, hk, hs, rfl, hr, hn⟩ := hrel
    obtain ⟨A, cp, rfl, hf1, hf2⟩ := hn.sp.form
    have HK := hid hk
    have HS := hid hs
    have HR := hid hr
    have HNU := hid hn
    have HTW := hid (HT.out.below hn.low)
    clear hk hs hr hn hf1 hf2
    by_cases h0 : s = 0
    · have h1 : ((s : Int) != 0) = false := by simp [h0]
      have H00 := hid h0
      clear h0
      go_wp2
      go_ret
      refine ⟨_, g, rfl, ?_⟩
      have e := HR.out
      rw [H00.out, nodes_zero, List.append_nil] at e
      rw [e]
      exact HNU.out.below (by repeat (first | (with_reducible exact Below.refl _ _) | (with_reducible exact bl_mm) | (with_reducible refine bl_dr ?_) | (with_reducible refine bl_drN ?_ _) | (with_reducible refine bl_al ?_ _) | (with_reducible refine bl_more ?_ _ _)))
    · have h1 : ((s : Int) != 0) = true := by simp; omega
      have HS0 := hid h0
      have hnx := nodes_next h0 HS.out
      obtain ⟨hkl, _, _⟩ := ctz_low h0 HS.out
      obtain ⟨k, hkv⟩ : ∃ k, Lib.ctz 64 s = k := ⟨_, rfl⟩
      rw [hkv] at hnx hkl
      have HKV := hid hkv
      have HNX := hid hnx
      have HKL := hid hkl
      have HLEN : Hid (xs.length + [k].length ≤ 4294967296) := hid (by
        have h2 := congrArg List.length HR.out
        rw [List.length_append] at h2
        have := nodes_len S
        simp; omega)
      have HLE : Hid ((xs ++ [k]).length = xs.length + 1) := hid (by simp)
      have hd := bits_dif s (bitN k)
      clear h0 hnx hkl hkv
      go_wp2_with (first | (go_at_call 33; refine (tz_any (HTW.out.below (by repeat (first | (with_reducible exact Below.refl _ _) | (with_reducible exact bl_mm) | (with_reducible refine bl_dr ?_) | (with_reducible refine bl_drN ?_ _) | (with_reducible refine bl_al ?_ _) | (with_reducible refine bl_more ?_ _ _)))) HS0.out HS.out).mono ?_; rintro e w1 ⟨rfl, rfl⟩; rw [HKV.out]) | (at_builtin; refine wpList_app ok25 (ys := [k]) (by rfl) (.tmp 9) (.tmp 11) (by rfl) (by rfl) (by rfl) (by rfl) (HNU.out.below (by repeat (first | (with_reducible exact Below.refl _ _) | (with_reducible exact bl_mm) | (with_reducible refine bl_dr ?_) | (with_reducible refine bl_drN ?_ _) | (with_reducible refine bl_al ?_ _) | (with_reducible refine bl_more ?_ _ _)))).sp (Enc.Src.one_blk (cs := [.int .i64 (k : Int)]) (alloc_blk (by simp [more_size])) rfl) (fun _ h _ => h.elim) HLEN.out ?_; intro v2 w2 g2 hs2 he2 hg2; obtain ⟨A2, c2, hv2, _, _⟩ := hs2.form; rw [HLE.out] at hv2; subst hv2; have HS2 := hid hs2; have HE2 := hid he2; have HG2 := hid hg2; clear hs2 hg2 he2) | (go_at_call 29; refine (one_any k HKL.out).mono ?_; rintro e w3 ⟨rfl, rfl⟩))
      go_roundg (nodes (dif s (bitN k))).length
      case measure => rw [HK.out, HNX.out]; simp
      case rel =>
        refine ⟨dif s (bitN k), g2, xs ++ [k], rfl, dif_lt _ _, rfl, ?_, ?_⟩
        · rw [HR.out, HNX.out]; simp
        · exact ((HNU.out.below (by repeat (first | (with_reducible exact Below.refl _ _) | (with_reducible exact bl_mm) | (with_reducible refine bl_dr ?_) | (with_reducible refine bl_drN ?_ _) | (with_reducible refine bl_al ?_ _) | (with_reducible refine bl_more ?_ _ _)))).grown HS2.out (fun _ h => h.1.elim) HE2.out HG2.out).below (by repeat (first | (with_reducible exact Below.refl _ _) | (with_reducible exact bl_mm) | (with_reducible refine bl_dr ?_) | (with_reducible refine bl_drN ?_ _) | (with_reducible refine bl_al ?_ _) | (with_reducible refine bl_more ?_ _ _)))
end Go.Proofs.YtomhpbhkckjmdaaDoorRR
