/- A row that is appended to, its own or full. -/
import Derived.Test.YtgpcgndmdkgbdaaGa
import Derived.IntWalk
import Derived.WalkKit
/- A row that is appended to, its own or full. -/
namespace Go.Proofs.Ytgpcgndmdkgbdaa
open Go.RowKit
namespace Enc
/-- append, onto a spine; where there is no room the old block is as it was. -/
theorem Spine.appendR {P : Program} {α : Type} {d : Enc α} {E : TypeId} {K : Nat → Prop} {g : Nat} {w : World} {v : Value} {xs : List α} (h : d.Spine E K g w v xs)
    (t t' ty : TypeId) (i : TypeInfo) (z : Value) (ht : P.underlying t = some (.slice E)) (ht' : ∃ E', P.underlying t' = some (.slice E')) (hi : P.info? E = some i) (hz : i.zero = some z) (hsize : i.size = d.sz) (hzs : z.cells.size = d.sz) (_hpos : 0 < d.sz)
    {x : Value} {ys : List α} (hy : d.Src K w x ys) (hKg : ∀ b, K b → b < w.heap.size → b ≠ g) (hlen : xs.length + ys.length ≤ 4294967296) (hby : i.bytes ≤ 32768) :
    ∃ v' w' g', (Builtin.append_ #[t, t'] ty #[v, x]).run P w = .ok v' w' ∧ d.Spine E (fun b => K b ∧ b < w.heap.size) g' w' v' (xs ++ ys) ∧ Ext (fun b => b = g ∧ capOf v ≠ 0 ∧ xs.length + ys.length ≤ capOf v) w w' ∧ Grew g w w' v v' g' := by
  obtain ⟨E', ht'⟩ := ht'
  obtain ⟨A, c, rfl, h2, h3, h4⟩ := h
  obtain ⟨B, cy, rfl, k2, k3, k4⟩ := hy
  have hbytes : (xs.length + ys.length) * i.bytes ≤ 140737488355328 := Nat.le_trans (Nat.mul_le_mul hlen hby) (by decide)
  -- the cells that are read
  obtain ⟨news, hnf, hnr⟩ : ∃ news, d.Flat K w ys news ∧ ∀ m, (Builtin.firstCells d.sz ys.length (.slice B ys.length cy)).run P (w.drewN m) = .ok news.toArray (w.drewN m) := by
    by_cases hys : ys = []
    · subst hys
      refine ⟨[], Flat.nil d K w, fun m => ?_⟩
      cases B <;> simp [Builtin.firstCells, loadCells, loadCellsFrom]
    · obtain ⟨b, off, rfl, ha⟩ := k4 hys
      obtain ⟨cs, hf, hc⟩ := ha.flat
      exact ⟨cs, hf, fun m => run_firstCells_some (w.drewN m) d.sz ys.length ⟨b, off, none⟩ ys.length cy cs hf.1 (fun j u hj => by rw [Addr.add_lit]; exact hc j u hj)⟩
  have hnl := hnf.1
  by_cases hroom : xs.length + ys.length ≤ c
  · -- within the capacity
    by_cases hc0 : c = 0
    · have hx0 : xs = [] := List.eq_nil_of_length_eq_zero (by omega)
      have hy0 : ys = [] := List.eq_nil_of_length_eq_zero (by omega)
      subst hx0; subst hy0; subst hc0
      have : news = [] := List.eq_nil_of_length_eq_zero (by simpa using hnl)
      subst this
      refine ⟨.slice A 0 0, w, g, ?_, Spine.bare d E _ g w A, Ext.refl _ _, .inl ⟨rfl, rfl, rfl⟩⟩
      have hnr' : (Builtin.firstCells i.size 0 (.slice B 0 cy)).run P w = .ok #[] w := by rw [hsize]; exact hnr 0
      cases A <;> simp [Builtin.append_, run_underlying ht, run_underlying ht', sizeOf, typeInfo, hi, Builtin.lenOf, hnr', storeCells]
    · obtain ⟨off, cur, cs, rfl, hb, hle, hf, hc⟩ := h4 hc0
      have hfit : off + xs.length * d.sz + news.length ≤ cur.size := by
        rw [hnl, Nat.add_assoc, ← Nat.add_mul]
        have := Nat.mul_le_mul_right d.sz hroom
        omega
      have hst := run_storeCells_at P g (off + xs.length * d.sz) E news 0 cur w hb (by simpa using hfit) hnf.2.1
      simp only [Nat.add_zero] at hst
      refine ⟨.slice (some ⟨g, off, none⟩) (xs.length + ys.length) c, w.setRow g (cur.toList.take (off + xs.length * d.sz) ++ news ++ cur.toList.drop (off + xs.length * d.sz + news.length)).toArray, g, ?_, ?_, ?_, .inl ⟨rfl, by simp [World.setRow], rfl⟩⟩
      · have hnr0 : (Builtin.firstCells d.sz ys.length (.slice B ys.length cy)).run P w = .ok news.toArray w := hnr 0
        simp [Builtin.append_, run_underlying ht, run_underlying ht', sizeOf, typeInfo, hi, Builtin.lenOf, hroom, hnr0, Addr.add_lit, hst, hsize]
      · have hgl : g < w.heap.size := (Array.getElem?_eq_some_iff.1 hb).1
        have hrow : (w.setRow g (cur.toList.take (off + xs.length * d.sz) ++ news ++ cur.toList.drop (off + xs.length * d.sz + news.length)).toArray).heap[g]? = some (.cells (cur.toList.take (off + xs.length * d.sz) ++ news ++ cur.toList.drop (off + xs.length * d.sz + news.length)).toArray E (0, 0)) := by
          exact setRow_heap w g cur _ E (0, 0) hb
        have hoth : ∀ b, K b → b < w.heap.size → (w.setRow g (cur.toList.take (off + xs.length * d.sz) ++ news ++ cur.toList.drop (off + xs.length * d.sz + news.length)).toArray).heap[b]? = w.heap[b]? := by
          intro b hKb hbl
          have := hKg b hKb hbl
          simp only [World.setRow, Array.getElem?_modify]
          rw [if_neg (by omega)]
        refine ⟨_, c, by rw [List.length_append], by rw [List.length_append]; exact hroom, h3, fun _ => ⟨off, _, cs ++ news, rfl, hrow, ?_, ?_, ?_⟩⟩
        · simp only [List.size_toArray, List.length_append, List.length_take, List.length_drop, Array.length_toList]; omega
        · exact ((hf.append hnf).mono (fun b hb hl => ⟨hb, hl⟩)).step (fun b hb _ => hoth b hb.1 hb.2)
        · intro j u hj
          rw [getElem?_set_range _ _ _ hfit]
          by_cases hj1 : j < cs.length
          · rw [List.getElem?_append_left hj1] at hj
            rw [if_pos (by rw [← hf.1]; omega)]
            exact hc j u hj
          · rw [List.getElem?_append_right (by omega)] at hj
            have hj2 : j - cs.length < news.length := (List.getElem?_eq_some_iff.1 hj).1
            rw [if_neg (by rw [← hf.1]; omega), if_pos (by rw [← hf.1]; omega), ← hj, ← hf.1]
            congr 1; omega
      · refine ⟨rfl, rfl, rfl, by simp [World.setRow], fun k hk hn => ?_⟩
        simp only [World.setRow, Array.getElem?_modify]
        rw [if_neg (fun e => hn ⟨e.symm, hc0, hroom⟩)]
  · -- a new block
    obtain ⟨olds, hof, hor⟩ : ∃ olds, d.Flat K w xs olds ∧ (Builtin.firstCells d.sz xs.length (.slice A xs.length c)).run P w.drew = .ok olds.toArray w.drew := by
      by_cases hc0 : c = 0
      · have hx0 : xs = [] := List.eq_nil_of_length_eq_zero (by omega)
        subst hx0
        refine ⟨[], Flat.nil d K w, ?_⟩
        cases A <;> simp [Builtin.firstCells, loadCells, loadCellsFrom]
      · obtain ⟨off, cur, cs, rfl, hb, hle, hf, hc⟩ := h4 hc0
        exact ⟨cs, hf, run_firstCells_some w.drew d.sz xs.length ⟨g, off, none⟩ xs.length c cs hf.1 (fun j u hj => by rw [Addr.add_lit]; exact cell_of_cur hb (hc j u hj))⟩
    have hol := hof.1
    let cap := grownCap w (xs.length + ys.length) c E
    have hge : xs.length + ys.length ≤ cap := grownCap_ge w (xs.length + ys.length) c E
    have hcm : cap ≤ maxLen := grownCap_le_maxLen w (xs.length + ys.length) c E (by simp only [maxLen]; omega)
    have hfits := growslice_fits (Nat.lt_of_not_le hroom) hbytes
    refine ⟨.slice (some ⟨w.heap.size, 0, none⟩) (xs.length + ys.length) cap, w.drew.alloc (.cells (olds.toArray ++ news.toArray ++ Builtin.zeroCells z.cells (cap - (xs.length + ys.length))) E), w.heap.size, ?_, ?_, ?_, .inr ⟨rfl, by simp⟩⟩
    · exact run_append_grow_any (P := P) (w := w) t t' ty E i z ht ht' hi hz A xs.length c olds B ys.length cy news (by rw [hsize]; exact hor) (by rw [hsize]; exact hnr 1) (Nat.lt_of_not_le hroom) (by omega) hfits
    · have hnew : (w.drew.alloc (.cells (olds.toArray ++ news.toArray ++ Builtin.zeroCells z.cells (cap - (xs.length + ys.length))) E)).heap[w.heap.size]? = some (.cells (olds.toArray ++ news.toArray ++ Builtin.zeroCells z.cells (cap - (xs.length + ys.length))) E (0, 0)) := heap_alloc_new w.drew _
      refine ⟨_, cap, by rw [List.length_append], by rw [List.length_append]; exact hge, hcm, fun _ => ⟨0, _, olds ++ news, rfl, hnew, ?_, ?_, ?_⟩⟩
      · simp only [Array.size_append, List.size_toArray, size_zeroCells, hzs, hol, hnl, Nat.zero_add, ← Nat.add_mul]
        exact Nat.le_of_eq (by congr 1; omega)
      · exact ((hof.append hnf).mono (fun b hb hl => ⟨hb, hl⟩)).step (fun b hb _ => Below.heap_alloc w.drew _ b hb.2)
      · intro j u hj
        have hjl := (List.getElem?_eq_some_iff.1 hj).1
        rw [Nat.zero_add, Array.getElem?_append_left (by simpa using hjl)]
        simpa using hj
    · exact ⟨rfl, rfl, rfl, by simp, fun k hk _ => Below.heap_alloc w.drew _ k hk⟩
end Enc
abbrev No : Nat → Prop := fun _ => False
/-- A row that lies from block N on, or is full (an append makes it anew); what lay before N is as it was. -/
structure Mk {α : Type} (d : Enc α) (E : TypeId) (N : Nat) (w0 w : World) (g : Nat) (v : Value) (xs : List α) : Prop where
  sp : d.Spine E No g w v xs
  own : capOf v = xs.length ∨ N ≤ g
  size : N ≤ w.heap.size
  low : Below N w0 w
theorem Mk.below {α : Type} {d : Enc α} {E : TypeId} {N : Nat} {w0 w w' : World} {g : Nat} {v : Value} {xs : List α} (h : Mk d E N w0 w g v xs) (hb : Below w.heap.size w w') : Mk d E N w0 w' g v xs :=
  ⟨h.sp.step (fun _ hc => (hb.block g (Array.getElem?_eq_some_iff.1 hc).1).trans hc) (fun _ hk _ => hk.elim), h.own, Nat.le_trans h.size hb.size, h.low.trans (hb.mono h.size)⟩
theorem Mk.grown {α : Type} {d : Enc α} {E : TypeId} {N : Nat} {w0 w w2 : World} {g g2 : Nat} {v v2 : Value} {xs ys : List α} {K : Nat → Prop} (h : Mk d E N w0 w g v xs) (hy : 0 < ys.length) (hs : d.Spine E K g2 w2 v2 (xs ++ ys)) (hK : ∀ b, ¬ K b) (he : Ext (fun b => b = g ∧ capOf v ≠ 0 ∧ xs.length + ys.length ≤ capOf v) w w2) (hg : Grew g w w2 v v2 g2) : Mk d E N w0 w2 g2 v2 (xs ++ ys) := by
  have h1 := h.size
  have hcap : xs.length + ys.length ≤ capOf v2 := by
    obtain ⟨A, c, rfl, h2, _⟩ := hs
    rw [List.length_append] at h2
    exact h2
  refine ⟨hs.step (fun _ hc => hc) (fun b hb _ => (hK b hb).elim), ?_, Nat.le_trans h.size he.size, h.low.trans (he.toBelow h.size (fun x hx e => ?_))⟩
  · rcases hg with ⟨e1, _, e3⟩ | ⟨e1, _⟩
    · rcases h.own with o | o
      · omega
      · exact .inr (by omega)
    · exact .inr (by omega)
  · rcases h.own with o | o
    · omega
    · omega
theorem Mk.full {α : Type} {d : Enc α} {E : TypeId} {N : Nat} {w0 w : World} {g L c : Nat} {A : Option Addr} {xs : List α} (h : Mk d E N w0 w g (.slice A L c) xs) (hl : xs.length = L) (hc : L ≤ c) : Mk d E N w0 w g (.slice A L L) xs := by
  have := h.sp.take L L (by omega) (Nat.le_refl _) hc
  rw [List.take_of_length_le (by omega)] at this
  exact ⟨this, .inl hl.symm, h.size, h.low⟩
/-- .. of a row that is full, from here on. -/
theorem Mk.start {α : Type} {d : Enc α} {E : TypeId} {w : World} {g L : Nat} {A : Option Addr} {xs : List α} (h : d.Spine E No g w (.slice A L L) xs) (hl : xs.length = L) : Mk d E w.heap.size w w g (.slice A L L) xs := ⟨h, .inl hl.symm, Nat.le_refl _, Below.refl _ _⟩
theorem Mk.of {α : Type} {d : Enc α} {E : TypeId} {N M : Nat} {w0 w w' : World} {g g' : Nat} {v v' : Value} {xs ys : List α} (h : Mk d E N w0 w g v xs) (k : Mk d E M w w' g' v' ys) (hM : M = w.heap.size) (hg : N ≤ g' ∨ capOf v' = ys.length) : Mk d E N w0 w' g' v' ys :=
  ⟨k.sp, hg.symm, Nat.le_trans h.size (by have := k.size; omega), h.low.trans (k.low.mono (by rw [hM]; exact h.size))⟩
end Go.Proofs.Ytgpcgndmdkgbdaa

/- Operations on bits, of numbers from 0 on. -/
namespace Go.Proofs.Ytgpcgndmdkgbdaa
open Go.RowKit

theorem ofInt_nat (n a : Nat) : BitVec.ofInt n (a : Int) = BitVec.ofNat n a := by
  apply BitVec.eq_of_toNat_eq
  simp
theorem bits_and_nat (k : IntKind) (a b : Nat) (ha : a < 2 ^ k.bits) (hb : b < 2 ^ k.bits) : bits .and k (a : Int) (b : Int) = k.wrap ((a &&& b : Nat) : Int) := by
  unfold bits
  simp only [ofInt_nat, BitVec.toNat_and, BitVec.toNat_ofNat, Nat.mod_eq_of_lt ha, Nat.mod_eq_of_lt hb]
theorem bits_or_nat (k : IntKind) (a b : Nat) (ha : a < 2 ^ k.bits) (hb : b < 2 ^ k.bits) : bits .or k (a : Int) (b : Int) = k.wrap ((a ||| b : Nat) : Int) := by
  unfold bits
  simp only [ofInt_nat, BitVec.toNat_or, BitVec.toNat_ofNat, Nat.mod_eq_of_lt ha, Nat.mod_eq_of_lt hb]
theorem bits_xor_nat (k : IntKind) (a b : Nat) (ha : a < 2 ^ k.bits) (hb : b < 2 ^ k.bits) : bits .xor k (a : Int) (b : Int) = k.wrap ((a ^^^ b : Nat) : Int) := by
  unfold bits
  simp only [ofInt_nat, BitVec.toNat_xor, BitVec.toNat_ofNat, Nat.mod_eq_of_lt ha, Nat.mod_eq_of_lt hb]
theorem wrap_i64 (n : Nat) (h : n < 9223372036854775808) : IntKind.i64.wrap (n : Int) = (n : Int) := IntWalk.i64_in _ (by omega)
theorem wrap_u8 (n : Nat) (h : n < 256) : IntKind.u8.wrap (n : Int) = (n : Int) := by
  unfold IntKind.wrap
  simp [IntKind.bits, IntKind.signed]
  omega
theorem wrap_u32 (n : Nat) (h : n < 4294967296) : IntKind.u32.wrap (n : Int) = (n : Int) := by
  unfold IntKind.wrap
  simp [IntKind.bits, IntKind.signed]
  omega
/-- 'm & 127'. -/
theorem and127 (m : Nat) (h : m < 9223372036854775808) : bits .and .i64 (m : Int) 127 = ((m % 128 : Nat) : Int) := by
  have e := bits_and_nat .i64 m 127 (by show m < 18446744073709551616; omega) (by decide)
  have h1 : m &&& 127 = m % 128 := Nat.and_two_pow_sub_one_eq_mod m 7
  rw [h1, wrap_i64 _ (by omega)] at e
  exact e
theorem and127b (m : Nat) (h : m < 256) : bits .and .u8 (m : Int) 127 = ((m % 128 : Nat) : Int) := by
  have e := bits_and_nat .u8 m 127 (by show m < 256; omega) (by decide)
  have h1 : m &&& 127 = m % 128 := Nat.and_two_pow_sub_one_eq_mod m 7
  rw [h1, wrap_u8 _ (by omega)] at e
  exact e
/-- 'c | 128'. -/
theorem or128 (c : Nat) (h : c < 128) : bits .or .i64 (c : Int) 128 = ((c + 128 : Nat) : Int) := by
  have e := bits_or_nat .i64 c 128 (by show c < 18446744073709551616; omega) (by decide)
  have h1 : c ||| 128 = c + 128 := by
    have := Nat.two_pow_add_eq_or_of_lt (i := 7) (b := c) (by omega) 1
    rw [Nat.mul_one] at this
    rw [Nat.or_comm, Nat.add_comm]
    exact this.symm
  rw [h1, wrap_i64 _ (by omega)] at e
  exact e
/-- 'n | c << 7 i', n below it. -/
theorem or_shl (n c i : Nat) (hn : n < 2 ^ (7 * i)) (hc : c * 2 ^ (7 * i) + n < 9223372036854775808) : bits .or .i64 (n : Int) ((c * 2 ^ (7 * i) : Nat) : Int) = ((n + c * 2 ^ (7 * i) : Nat) : Int) := by
  have e := bits_or_nat .i64 n (c * 2 ^ (7 * i)) (by show n < 18446744073709551616; omega) (by show _ < 18446744073709551616; omega)
  have h1 : n ||| c * 2 ^ (7 * i) = n + c * 2 ^ (7 * i) := by
    have := Nat.two_pow_add_eq_or_of_lt hn c
    rw [Nat.or_comm, Nat.add_comm, Nat.mul_comm c]
    exact this.symm
  rw [h1, wrap_i64 _ (by omega)] at e
  exact e
end Go.Proofs.Ytgpcgndmdkgbdaa

/- Numbers as bytes. -/
namespace Go.Proofs.Ytgpcgndmdkgbdaa
open Go.RowKit

abbrev byteE : Enc Int := Enc.int .u8
abbrev intE : Enc Int := Enc.int .i64
def isN (n : Int) : Bool := decide (0 ≤ n) && decide (n ≤ 1099511627776)
set_option maxHeartbeats 1000000 in
theorem is_any {w : World} {n : Int} : Calls Try.prog 91 #[.int .i64 n] w fun e w' => e = .returned (.bool (isN n)) ∧ w = w' := by
  unfold isN
  cases i1 : decide (0 ≤ n) with
  | false =>
    go_enter Try.func91, Try.ntmps91
    go_wp2
    go_ret
    exact ⟨rfl, rfl⟩
  | true =>
    go_enter Try.func91, Try.ntmps91
    go_wp2
    go_ret
    exact ⟨rfl, rfl⟩
theorem info5 : (Try.prog.info? 5).map (fun i => (i.zero, i.size, i.bytes)) = some (some (.int .u8 0), 1, 1) := by kernel_rfl
theorem app30 {K : Nat → Prop} {g : Nat} {w : World} {v x : Value} {xs ys : List Int} (h : byteE.Spine 5 K g w v xs) (hy : byteE.Src K w x ys) (hKg : ∀ b, K b → b < w.heap.size → b ≠ g) (hlen : xs.length + ys.length ≤ 4294967296) :
    ∃ v' w' g', (Builtin.append_ #[30, 30] 30 #[v, x]).run Try.prog w = .ok v' w' ∧ byteE.Spine 5 (fun b => K b ∧ b < w.heap.size) g' w' v' (xs ++ ys) ∧ Ext (fun b => b = g ∧ capOf v ≠ 0 ∧ xs.length + ys.length ≤ capOf v) w w' ∧ Grew g w w' v v' g' := by
  obtain ⟨i0, hi, hz0, hz1, hz2⟩ := info_parts info5
  exact h.appendR 30 30 30 i0 _ Try.underlying30 ⟨_, Try.underlying30⟩ hi hz0 hz1 rfl (by decide) hy hKg hlen (by rw [hz2]; decide)
theorem wpList_app30 {w : World} {ops : Array Oper} {rest : List Oper} {o : Oper} {a : Act} {Q : Exit → Act → World → Prop} {K : Nat → Prop} {g : Nat} {xs ys : List Int} {v x : Value}
    (hg : o.guard = none) (s x' : Operand) (hop : o.op = Op.call { callee := Callee.builtin Builtin.append, args := #[s, x'], argTypes := #[30, 30] }) (hty : o.type = 30)
    (hv : a.eval s = v) (hx : a.eval x' = x) (hs : byteE.Spine 5 K g w v xs) (hy : byteE.Src K w x ys) (hKg : ∀ b, K b → b < w.heap.size → b ≠ g) (hlen : xs.length + ys.length ≤ 4294967296)
    (h : ∀ v' w' g', byteE.Spine 5 (fun b => K b ∧ b < w.heap.size) g' w' v' (xs ++ ys) → Ext (fun b => b = g ∧ capOf v ≠ 0 ∧ xs.length + ys.length ≤ capOf v) w w' → Grew g w w' v v' g' → wpList Try.prog ops Q rest (a.put o.dst v') w') :
    wpList Try.prog ops Q (o :: rest) a w := by
  subst hv; subst hx
  obtain ⟨v', w', g', hrun, h1, h2, h3⟩ := app30 hs hy hKg hlen
  exact wpList_append_run hg s x' 30 30 hop (by rw [hty]; exact hrun) (h v' w' g' h1 h2 h3)
theorem alloc_blk {X : World} {o : Obj} {b : Nat} (h : b = X.heap.size) : (X.alloc o).heap[b]? = some o := by subst h; exact heap_alloc_new X o
/-- A number's bytes. -/
def oneL (n : Nat) : List Int := if _h : n < 128 then [(n : Int)] else ((n % 128 + 128 : Nat) : Int) :: oneL (n / 128)
termination_by n
decreasing_by omega
theorem oneL_len (k : Nat) : ∀ n, n < 128 ^ (k + 1) → (oneL n).length ≤ k + 1 := by
  induction k with
  | zero =>
    intro n h
    rw [oneL, dif_pos (by omega)]
    simp
  | succ k ih =>
    intro n h
    rw [oneL]
    split
    · simp
    · have := ih (n / 128) (by rw [Nat.pow_succ] at h; exact Nat.div_lt_of_lt_mul (by rw [Nat.mul_comm]; exact h))
      simp
      omega
theorem oneL_9 {n : Nat} (h : n < 9223372036854775808) : (oneL n).length ≤ 9 := oneL_len 8 n h
theorem oneL_small {n : Nat} (h : n < 128) : oneL n = [(n : Int)] := by rw [oneL, dif_pos h]
theorem oneL_more {n : Nat} (h : ¬ n < 128) : oneL n = ((n % 128 + 128 : Nat) : Int) :: oneL (n / 128) := by rw [oneL, dif_neg h]
/-- What a call gives back that puts bytes behind a row: the row, its own. -/
def PutR (N : Nat) (w0 : World) (xs : List Int) (e : Ending) (w' : World) : Prop := ∃ v' g', e = .returned v' ∧ Mk byteE 5 N w0 w' g' v' xs
set_option maxHeartbeats 4000000 in
theorem put_any {N : Nat} {w0 w : World} {v : Value} {g n : Nat} {xs : List Int} (h : Mk byteE 5 N w0 w g v xs) (hn : n < 9223372036854775808) (hl : xs.length ≤ 4000000000) : Calls Try.prog 92 #[v, .int .i64 n] w fun e w' => PutR N w0 (xs ++ oneL n) e w' := by
  have HH := hid h
  have HNN := hid hn
  have HL := hid hl
  clear h hn hl
  go_enter Try.func92, Try.ntmps92
  go_wp2
  go_loopg [0, 1] n (fun k vo vn wr => ∃ (m g' : Nat) (ys : List Int) (A : Option Addr) (L ca : Nat), m ≤ k ∧ m ≤ n ∧ vn = .int .i64 (m : Int) ∧ vo = .slice A L ca ∧ ys.length = L ∧ ys ++ oneL m = xs ++ oneL n ∧ Mk byteE 5 N w0 wr g' vo ys)
  case atStart =>
    obtain ⟨A, ca, rfl, _, _⟩ := HH.out.sp.form
    exact ⟨n, g, xs, A, xs.length, ca, Nat.le_refl _, Nat.le_refl _, rfl, rfl, rfl, rfl, HH.out⟩
  case round =>
    obtain ⟨m, g', ys, A, L, ca, hmk, hmn0, rfl, rfl, hyL, hy, ho⟩ := hrel
    have hlen := congrArg List.length hy
    rw [List.length_append, List.length_append] at hlen
    have h9 := oneL_9 HNN.out
    have hm1 : 1 ≤ (oneL m).length := by rw [oneL]; split <;> simp
    have HLEN : Hid (∀ c : Int, ys.length + [c].length ≤ 4294967296) := hid (fun c => by have := HL.out; simp; omega)
    have HO := hid ho
    have HY := hid hy
    have HYL := hid hyL
    have HMK := hid hmk
    have hmn : m < 9223372036854775808 := by have := HNN.out; omega
    have HMN := hid hmn0
    have HLE : Hid (∀ c : Int, (ys ++ [c]).length = L + 1) := hid (fun c => by rw [List.length_append, hyL]; rfl)
    clear ho hy hlen h9 hm1 hyL hmk hmn0
    by_cases hm : m < 128
    · have hm' : ¬ (128 : Int) ≤ m := by omega
      have hc : (m : Int) % 256 = (m : Int) := by omega
      have HM := hid hm
      obtain ⟨c, hce⟩ : ∃ c : Int, (m : Int) = c := ⟨_, rfl⟩
      have HC : Hid (oneL m = [c]) := hid (by rw [oneL_small HM.out, hce])
      rw [hce] at hm' hc ⊢
      clear hm hmn hce
      go_wp2_with (first | (at_builtin; refine wpList_app30 (ys := [c]) (by rfl) (.tmp 16) (.tmp 19) (by rfl) (by rfl) (by rfl) (by rfl) (HO.out.below (by repeat (first | (with_reducible exact Below.refl _ _) | (with_reducible exact bl_mm) | (with_reducible refine bl_dr ?_) | (with_reducible refine bl_drN ?_ _) | (with_reducible refine bl_al ?_ _) | (with_reducible refine bl_more ?_ _ _)))).sp (by exact Enc.Src.one_blk (cs := [.int .u8 c]) (alloc_blk (by simp [])) rfl) (fun _ h _ => h.elim) (HLEN.out c) ?_; intro v2 w2 g2 hs2 he2 hg2; obtain ⟨A2, c2, hv2, _, _⟩ := hs2.form; rw [HLE.out c] at hv2; subst hv2; have HS2 := hid hs2; have HE2 := hid he2; have HG2 := hid hg2; clear hs2 he2 hg2))
      go_ret
      have o2 := (HO.out.below (by repeat (first | (with_reducible exact Below.refl _ _) | (with_reducible exact bl_mm) | (with_reducible refine bl_dr ?_) | (with_reducible refine bl_drN ?_ _) | (with_reducible refine bl_al ?_ _) | (with_reducible refine bl_more ?_ _ _)))).grown (by simp) HS2.out (fun _ h => h.1) HE2.out HG2.out
      refine ⟨_, g2, rfl, ?_⟩
      rw [← HY.out, HC.out]
      exact o2
    · have hm' : (128 : Int) ≤ m := by omega
      have h1 := and127 m hmn
      have h2 := or128 (m % 128) (by omega)
      have h3 : ((m % 128 + 128 : Nat) : Int) % 256 = ((m % 128 + 128 : Nat) : Int) := by omega
      have h4 : (m : Int) / 128 = ((m / 128 : Nat) : Int) := rfl
      have HN := hid (oneL_more hm)
      have HM := hid hm
      obtain ⟨q, hq⟩ : ∃ q, m / 128 = q := ⟨_, rfl⟩
      obtain ⟨c0, hc0⟩ : ∃ c0, m % 128 = c0 := ⟨_, rfl⟩
      rw [hc0] at h1 h2 h3 HN
      rw [hq] at h4 HN
      obtain ⟨c1, hc1⟩ : ∃ c1, c0 + 128 = c1 := ⟨_, rfl⟩
      rw [hc1] at h2 h3 HN
      obtain ⟨c, hc⟩ : ∃ c : Int, (c1 : Int) = c := ⟨_, rfl⟩
      rw [hc] at h2 h3 HN
      have HQ := hid hq
      clear hm hmn hq hc0 hc1 hc
      go_wp2_with (first | (at_builtin; refine wpList_app30 (ys := [c]) (by rfl) (.tmp 9) (.tmp 14) (by rfl) (by rfl) (by rfl) (by rfl) (HO.out.below (by repeat (first | (with_reducible exact Below.refl _ _) | (with_reducible exact bl_mm) | (with_reducible refine bl_dr ?_) | (with_reducible refine bl_drN ?_ _) | (with_reducible refine bl_al ?_ _) | (with_reducible refine bl_more ?_ _ _)))).sp (by exact Enc.Src.one_blk (cs := [.int .u8 c]) (alloc_blk (by simp [])) rfl) (fun _ h _ => h.elim) (HLEN.out c) ?_; intro v2 w2 g2 hs2 he2 hg2; obtain ⟨A2, c2, hv2, _, _⟩ := hs2.form; rw [HLE.out c] at hv2; subst hv2; have HS2 := hid hs2; have HE2 := hid he2; have HG2 := hid hg2; clear hs2 he2 hg2))
      have o2 := (HO.out.below (by repeat (first | (with_reducible exact Below.refl _ _) | (with_reducible exact bl_mm) | (with_reducible refine bl_dr ?_) | (with_reducible refine bl_drN ?_ _) | (with_reducible refine bl_al ?_ _) | (with_reducible refine bl_more ?_ _ _)))).grown (by simp) HS2.out (fun _ h => h.1) HE2.out HG2.out
      go_roundg q
      case measure => have := HMK.out; have := HQ.out; have := HM.out; omega
      case rel => exact ⟨q, g2, ys ++ [c], A2, L + 1, c2, Nat.le_refl _, by have := HMN.out; have := HQ.out; omega, rfl, rfl, HLE.out c, by rw [← HY.out, HN.out, List.append_assoc]; rfl, o2⟩
end Go.Proofs.Ytgpcgndmdkgbdaa

/- Numbers put, and taken. -/
namespace Go.Proofs.Ytgpcgndmdkgbdaa
open Go.RowKit

/-- What a call gives back that puts bytes behind a row, and no error. -/
def Put2R (N : Nat) (w0 : World) (xs : List Int) (e : Ending) (w' : World) : Prop := ∃ v' g', e = .returned (.tuple #[v', .int .i64 0]) ∧ Mk byteE 5 N w0 w' g' v' xs
set_option maxHeartbeats 1000000 in
theorem wput_any {N : Nat} {w0 w : World} {v : Value} {g n : Nat} {xs : List Int} (h : Mk byteE 5 N w0 w g v xs) (hn : n ≤ 1099511627776) (hl : xs.length ≤ 4000000000) : Calls Try.prog 72 #[v, .int .i64 n] w fun e w' => Put2R N w0 (xs ++ oneL n) e w' := by
  obtain ⟨A, c, rfl, hc1, _⟩ := h.sp.form
  have HO := hid (h.full rfl hc1)
  have HIS : Hid (isN (n : Int) = true) := hid (by unfold isN; simp; omega)
  have HN : Hid (n < 9223372036854775808) := hid (by omega)
  have HL := hid hl
  have hc2 : (xs.length : Int) ≤ (c : Int) := by omega
  clear h hn hl hc1
  go_enter Try.func72, Try.ntmps72
  go_wp2_with (first | (go_at_call 91; refine is_any.mono ?_; rintro e w1 ⟨rfl, rfl⟩; rw [HIS.out]) | (go_at_call 92; refine (put_any HO.out HN.out HL.out).mono ?_; rintro e w2 ⟨v2, g2, rfl, ho2⟩; have HO2 := hid ho2; clear ho2))
  go_ret2
  exact ⟨v2, g2, rfl, HO2.out⟩
/-- The number at a place of bytes; k more bytes may be looked at. -/
def tkW (bs : List Int) (a : Nat) : Nat → Nat → Int × Int × Int
  | _, 0 => (0, 0, 4)
  | n, k + 1 => match bs[a + (5 - k)]? with
    | none => (0, 0, 3)
    | some c => if c < 128 then (if isN ((n + (c.toNat % 128) * 2 ^ (7 * (5 - k)) : Nat) : Int) = false ∨ (0 < 5 - k ∧ c = 0) then (0, 0, 4) else (((n + (c.toNat % 128) * 2 ^ (7 * (5 - k)) : Nat) : Int), ((a + (5 - k) + 1 : Nat) : Int), 0)) else tkW bs a (n + (c.toNat % 128) * 2 ^ (7 * (5 - k))) k
theorem tk_some {bs : List Int} {a n k i c m : Nat} (hik : 5 - k = i) (hg : bs[a + i]? = some (c : Int)) (hm : n + c % 128 * 2 ^ (7 * i) = m) : tkW bs a n (k + 1) = if c < 128 then (if isN (m : Int) = false ∨ (0 < i ∧ c = 0) then (0, 0, 4) else ((m : Int), ((a + i + 1 : Nat) : Int), 0)) else tkW bs a m k := by
  subst hik
  subst hm
  rw [tkW, hg]
  simp only [Int.toNat_natCast]
  by_cases h : c < 128
  · rw [if_pos h, if_pos (by omega)]
    by_cases hh : isN ((n + c % 128 * 2 ^ (7 * (5 - k)) : Nat) : Int) = false ∨ (0 < 5 - k ∧ c = 0)
    · rw [if_pos (hh.imp id (fun h => ⟨h.1, by omega⟩)), if_pos hh]
    · rw [if_neg (fun h => hh (h.imp id (fun h => ⟨h.1, by omega⟩))), if_neg hh]
  · rw [if_neg h, if_neg (by omega)]
theorem tk_none {bs : List Int} {a n k i : Nat} (hik : 5 - k = i) (hg : bs[a + i]? = none) : tkW bs a n (k + 1) = (0, 0, 3) := by
  subst hik
  rw [tkW, hg]
theorem row_byte {K : Nat → Prop} {w : World} {A : Option Addr} {n c : Nat} {xs : List Int} (h : byteE.Row K w (.slice A n c) xs) (i : Nat) (hi : i < xs.length) : ∃ b off, A = some ⟨b, off, none⟩ ∧ K b ∧ b < w.heap.size ∧ w.cell? ⟨b, off + i, none⟩ = some (.int .u8 (xs[i]'hi)) := by
  obtain ⟨b, off, cs, e, hk, hl, h1, h2⟩ := h.get i hi
  have h1 : cs = [.int .u8 (xs[i]'hi)] := h1
  have := h2 0 (.int .u8 (xs[i]'hi)) (by rw [h1]; rfl)
  rw [show byteE.sz = 1 from rfl, Nat.mul_one, Nat.add_zero] at this
  exact ⟨b, off, e, hk, hl, this⟩
set_option maxRecDepth 8000 in
set_option maxHeartbeats 4000000 in
theorem take_any {w : World} {v : Value} {a : Nat} {bs : List Int} {K : Nat → Prop} (h : byteE.Row K w v bs) (hbs : ∀ b ∈ bs, 0 ≤ b ∧ b < 256) (ha : a ≤ bs.length) (hl : bs.length ≤ 4000000000) : Calls Try.prog 86 #[v, .int .i64 a] w fun e w' => e = .returned (.tuple #[.int .i64 (tkW bs a 0 6).1, .int .i64 (tkW bs a 0 6).2.1, .int .i64 (tkW bs a 0 6).2.2]) ∧ Below w.heap.size w w' := by
  obtain ⟨A, c, rfl, hc1, _⟩ := h.form
  obtain ⟨i0, hi, _, hz1, _⟩ := info_parts info5
  obtain ⟨A1, hA1, hsl⟩ := run_slice_low (P := Try.prog) 30 5 1 Try.underlying30 hi hz1 A bs.length c a ha
  have hd := h.drop a ha hA1
  have HD := hid hd
  have HBS := hid hbs
  have ha1 : (a : Int) ≤ bs.length := by omega
  have ha0 : (0 : Int) ≤ a := by omega
  have hlx : (bs.length : Int) ≤ 4000000000 := by omega
  have HA := hid ha
  have hba : decide (bs.length < a) = false := by rw [decide_eq_false_iff_not]; omega
  have hba0 : decide ((a : Int) < 0) = false := by rw [decide_eq_false_iff_not]; omega
  clear h hbs hd hA1 hi hz1 hc1 ha hl
  go_enter Try.func86, Try.ntmps86
  go_wp2
  go_step3
  go_wp2
  go_step3
  go_wp2
  go_loopg [7, 22] 6 (fun k vn vi wr => ∃ (i n : Nat), i + k = 6 ∧ 1 ≤ k ∧ n < 2 ^ (7 * i) ∧ vn = .int .i64 (n : Int) ∧ vi = .int .i64 (i : Int) ∧ tkW bs a 0 6 = tkW bs a n k ∧ ∃ ex dx, wr = more w ex dx)
  case atStart => exact ⟨0, 0, rfl, by decide, by decide, rfl, rfl, rfl, more_of (Below.refl _ _)⟩
  case round =>
    obtain ⟨i, n, hk, hk1, hn, rfl, rfl, ht, ex, dx, rfl⟩ := hrel
    have HK := hid hk
    have HT := hid ht
    have hcs : i = 0 ∨ i = 1 ∨ i = 2 ∨ i = 3 ∨ i = 4 ∨ i = 5 := by omega
    rcases hcs with rfl | rfl | rfl | rfl | rfl | rfl
    · obtain rfl : gk = 6 := by omega
      have HR : Hid (tkW bs a 0 6 = tkW bs a n (5 + 1)) := hid ht
      by_cases hai : a + 0 < bs.length
      · obtain ⟨b, o, rfl, _, hlt, hcell⟩ := row_byte HD.out 0 (by rw [List.length_drop]; omega)
        rw [List.getElem_drop] at hcell
        have hcb := HBS.out _ (List.getElem_mem hai)
        have hg : bs[a + 0]? = some (bs[a + 0]'hai) := List.getElem?_eq_getElem hai
        obtain ⟨c, hc⟩ : ∃ c : Nat, (bs[a + 0]'hai) = (c : Int) := ⟨(bs[a + 0]'hai).toNat, by omega⟩
        rw [hc] at hcell hcb hg
        have hcell : w.cell? ⟨b, o, none⟩ = some (.int .u8 (c : Int)) := hcell
        have hc256 : c < 256 := by omega
        have h1 := and127b c hc256
        have hn' : n < 1 := hn
        have h2 := or_shl n (c % 128) 0 hn (by show c % 128 * 1 + n < _; omega)
        obtain ⟨m, hm⟩ : ∃ m, n + c % 128 * 1 = m := ⟨_, rfl⟩
        have HTK := hid (tk_some (n := n) (k := 5) (i := 0) (m := m) rfl hg hm)
        have hmn : m < 128 := by omega
        have HMN : Hid (m < 2 ^ (7 * (0 + 1))) := hid hmn
        obtain ⟨c0, hc0⟩ : ∃ c0, c % 128 = c0 := ⟨_, rfl⟩
        have hc1 : c0 < 128 := by omega
        rw [hc0] at h1 h2 hm
        have h2 : bits .or .i64 (n : Int) (c0 : Int) = (m : Int) := by rw [← hm]; rw [Nat.pow_zero, Nat.mul_one] at h2; rw [Nat.mul_one]; exact h2
        have hil : (0 : Int) < ((bs.length - a : Nat) : Int) := by omega
        have hca : (c0 : Int) < 128 := by omega
        have hcz : (0 : Int) ≤ c0 := by omega
        have hmz : (0 : Int) ≤ m := by omega
        have HAI := hid hai
        clear hk hk1 hn ht hai hcb hc hg hc0 hc1 hn' hm hmn
        by_cases hc8 : c < 128
        · have HC8 := hid hc8
          have hc8' : (c : Int) < 128 := by omega
          cases hv : isN (m : Int) with
          | false =>
            have HIS := hid hv
            have HE : Hid (tkW bs a 0 6 = (0, 0, 4)) := hid (by rw [HR.out, HTK.out, if_pos hc8, if_pos (.inl hv)])
            clear hc8 hv hc256
            go_wp2_with (first | (go_at_call 91; refine is_any.mono ?_; rintro e w1 ⟨rfl, rfl⟩; rw [HIS.out]))
            try rw [Exit.noGoto_ret]
            go_ret3
            exact ⟨by rw [HE.out]; rfl, (by repeat (first | (with_reducible exact Below.refl _ _) | (with_reducible exact bl_mm) | (with_reducible refine bl_dr ?_) | (with_reducible refine bl_drN ?_ _) | (with_reducible refine bl_al ?_ _) | (with_reducible refine bl_more ?_ _ _)))⟩
          | true =>
            have HIS := hid hv
            by_cases hz : 0 < 0 ∧ c = 0
            · exact absurd hz.1 (by decide)
            · have HE : Hid (tkW bs a 0 6 = ((m : Int), ((a + 1 : Nat) : Int), 0)) := hid (by rw [HR.out, HTK.out, if_pos hc8, if_neg (fun h => h.elim (fun h => by rw [hv] at h; cases h) hz)])
              skip
              clear hc8 hv hc256 hz
              go_wp2_with (first | (go_at_call 91; refine is_any.mono ?_; rintro e w1 ⟨rfl, rfl⟩; rw [HIS.out]))
              try rw [Exit.noGoto_ret]
              go_ret3
              refine ⟨?_, (by repeat (first | (with_reducible exact Below.refl _ _) | (with_reducible exact bl_mm) | (with_reducible refine bl_dr ?_) | (with_reducible refine bl_drN ?_ _) | (with_reducible refine bl_al ?_ _) | (with_reducible refine bl_more ?_ _ _)))⟩
              rw [HE.out]
              first | rfl | (push_cast; rfl) | (simp; done)
        · have hc8' : ¬ (c : Int) < 128 := by omega
          have HE : Hid (tkW bs a 0 6 = tkW bs a m 5) := hid (by rw [HR.out, HTK.out, if_neg hc8])
          clear hc8
          go_wp2_with (first | (go_at_call 91; refine is_any.mono ?_; rintro e w1 ⟨rfl, rfl⟩; rw [HIS.out]))
          go_roundg 5
          case measure => decide
          case rel => exact ⟨1, m, rfl, by decide, HMN.out, rfl, rfl, HE.out, more_of (by repeat (first | (with_reducible exact Below.refl _ _) | (with_reducible exact bl_mm) | (with_reducible refine bl_dr ?_) | (with_reducible refine bl_drN ?_ _) | (with_reducible refine bl_al ?_ _) | (with_reducible refine bl_more ?_ _ _)))⟩
      · have hil : ¬ (0 : Int) < ((bs.length - a : Nat) : Int) := by omega
        have hl6 : ¬ (6 : Int) ≤ (bs.length : Int) - a := by omega
        have HE : Hid (tkW bs a 0 6 = (0, 0, 3)) := hid (by rw [HR.out, tk_none (i := 0) rfl (List.getElem?_eq_none (by omega))])
        clear hk hk1 hn ht hai
        go_wp2_with (first | (go_at_call 91; refine is_any.mono ?_; rintro e w1 ⟨rfl, rfl⟩; rw [HIS.out]))
        try rw [Exit.noGoto_ret]
        go_ret3
        exact ⟨by rw [HE.out]; rfl, (by repeat (first | (with_reducible exact Below.refl _ _) | (with_reducible exact bl_mm) | (with_reducible refine bl_dr ?_) | (with_reducible refine bl_drN ?_ _) | (with_reducible refine bl_al ?_ _) | (with_reducible refine bl_more ?_ _ _)))⟩
    · obtain rfl : gk = 5 := by omega
      have HR : Hid (tkW bs a 0 6 = tkW bs a n (4 + 1)) := hid ht
      by_cases hai : a + 1 < bs.length
      · obtain ⟨b, o, rfl, _, hlt, hcell⟩ := row_byte HD.out 1 (by rw [List.length_drop]; omega)
        rw [List.getElem_drop] at hcell
        have hcb := HBS.out _ (List.getElem_mem hai)
        have hg : bs[a + 1]? = some (bs[a + 1]'hai) := List.getElem?_eq_getElem hai
        obtain ⟨c, hc⟩ : ∃ c : Nat, (bs[a + 1]'hai) = (c : Int) := ⟨(bs[a + 1]'hai).toNat, by omega⟩
        rw [hc] at hcell hcb hg
        have hcell : w.cell? ⟨b, o + 1, none⟩ = some (.int .u8 (c : Int)) := hcell
        have hc256 : c < 256 := by omega
        have h1 := and127b c hc256
        have hn' : n < 128 := hn
        have h2 := or_shl n (c % 128) 1 hn (by show c % 128 * 128 + n < _; omega)
        obtain ⟨m, hm⟩ : ∃ m, n + c % 128 * 128 = m := ⟨_, rfl⟩
        have HTK := hid (tk_some (n := n) (k := 4) (i := 1) (m := m) rfl hg hm)
        have hmn : m < 16384 := by omega
        have HMN : Hid (m < 2 ^ (7 * (1 + 1))) := hid hmn
        obtain ⟨c0, hc0⟩ : ∃ c0, c % 128 = c0 := ⟨_, rfl⟩
        have hc1 : c0 < 128 := by omega
        rw [hc0] at h1 h2 hm
        have h2 : bits .or .i64 (n : Int) ((c0 : Int) * 128) = (m : Int) := by rw [← hm];  exact h2
        have hil : (1 : Int) < ((bs.length - a : Nat) : Int) := by omega
        have hca : (c0 : Int) < 128 := by omega
        have hcz : (0 : Int) ≤ c0 := by omega
        have hmz : (0 : Int) ≤ m := by omega
        have HAI := hid hai
        clear hk hk1 hn ht hai hcb hc hg hc0 hc1 hn' hm hmn
        by_cases hc8 : c < 128
        · have HC8 := hid hc8
          have hc8' : (c : Int) < 128 := by omega
          cases hv : isN (m : Int) with
          | false =>
            have HIS := hid hv
            have HE : Hid (tkW bs a 0 6 = (0, 0, 4)) := hid (by rw [HR.out, HTK.out, if_pos hc8, if_pos (.inl hv)])
            clear hc8 hv hc256
            go_wp2_with (first | (go_at_call 91; refine is_any.mono ?_; rintro e w1 ⟨rfl, rfl⟩; rw [HIS.out]))
            try rw [Exit.noGoto_ret]
            go_ret3
            exact ⟨by rw [HE.out]; rfl, (by repeat (first | (with_reducible exact Below.refl _ _) | (with_reducible exact bl_mm) | (with_reducible refine bl_dr ?_) | (with_reducible refine bl_drN ?_ _) | (with_reducible refine bl_al ?_ _) | (with_reducible refine bl_more ?_ _ _)))⟩
          | true =>
            have HIS := hid hv
            by_cases hz : 0 < 1 ∧ c = 0
            · have HE : Hid (tkW bs a 0 6 = (0, 0, 4)) := hid (by rw [HR.out, HTK.out, if_pos hc8, if_pos (.inr hz)])
              have hz0 : ((c : Int) == 0) = true := by rw [beq_iff_eq]; omega
              clear hc8 hv hc256 hz
              go_wp2_with (first | (go_at_call 91; refine is_any.mono ?_; rintro e w1 ⟨rfl, rfl⟩; rw [HIS.out]))
              try rw [Exit.noGoto_ret]
              go_ret3
              exact ⟨by rw [HE.out]; rfl, (by repeat (first | (with_reducible exact Below.refl _ _) | (with_reducible exact bl_mm) | (with_reducible refine bl_dr ?_) | (with_reducible refine bl_drN ?_ _) | (with_reducible refine bl_al ?_ _) | (with_reducible refine bl_more ?_ _ _)))⟩
            · have HE : Hid (tkW bs a 0 6 = ((m : Int), ((a + 1 + 1 : Nat) : Int), 0)) := hid (by rw [HR.out, HTK.out, if_pos hc8, if_neg (fun h => h.elim (fun h => by rw [hv] at h; cases h) hz)])
              have hz0 : ((c : Int) == 0) = false := by rw [beq_eq_false_iff_ne]; omega
              clear hc8 hv hc256 hz
              go_wp2_with (first | (go_at_call 91; refine is_any.mono ?_; rintro e w1 ⟨rfl, rfl⟩; rw [HIS.out]))
              try rw [Exit.noGoto_ret]
              go_ret3
              refine ⟨?_, (by repeat (first | (with_reducible exact Below.refl _ _) | (with_reducible exact bl_mm) | (with_reducible refine bl_dr ?_) | (with_reducible refine bl_drN ?_ _) | (with_reducible refine bl_al ?_ _) | (with_reducible refine bl_more ?_ _ _)))⟩
              rw [HE.out]
              first | rfl | (push_cast; rfl) | (simp; done)
        · have hc8' : ¬ (c : Int) < 128 := by omega
          have HE : Hid (tkW bs a 0 6 = tkW bs a m 4) := hid (by rw [HR.out, HTK.out, if_neg hc8])
          clear hc8
          go_wp2_with (first | (go_at_call 91; refine is_any.mono ?_; rintro e w1 ⟨rfl, rfl⟩; rw [HIS.out]))
          go_roundg 4
          case measure => decide
          case rel => exact ⟨2, m, rfl, by decide, HMN.out, rfl, rfl, HE.out, more_of (by repeat (first | (with_reducible exact Below.refl _ _) | (with_reducible exact bl_mm) | (with_reducible refine bl_dr ?_) | (with_reducible refine bl_drN ?_ _) | (with_reducible refine bl_al ?_ _) | (with_reducible refine bl_more ?_ _ _)))⟩
      · have hil : ¬ (1 : Int) < ((bs.length - a : Nat) : Int) := by omega
        have hl6 : ¬ (6 : Int) ≤ (bs.length : Int) - a := by omega
        have HE : Hid (tkW bs a 0 6 = (0, 0, 3)) := hid (by rw [HR.out, tk_none (i := 1) rfl (List.getElem?_eq_none (by omega))])
        clear hk hk1 hn ht hai
        go_wp2_with (first | (go_at_call 91; refine is_any.mono ?_; rintro e w1 ⟨rfl, rfl⟩; rw [HIS.out]))
        try rw [Exit.noGoto_ret]
        go_ret3
        exact ⟨by rw [HE.out]; rfl, (by repeat (first | (with_reducible exact Below.refl _ _) | (with_reducible exact bl_mm) | (with_reducible refine bl_dr ?_) | (with_reducible refine bl_drN ?_ _) | (with_reducible refine bl_al ?_ _) | (with_reducible refine bl_more ?_ _ _)))⟩
    · obtain rfl : gk = 4 := by omega
      have HR : Hid (tkW bs a 0 6 = tkW bs a n (3 + 1)) := hid ht
      by_cases hai : a + 2 < bs.length
      · obtain ⟨b, o, rfl, _, hlt, hcell⟩ := row_byte HD.out 2 (by rw [List.length_drop]; omega)
        rw [List.getElem_drop] at hcell
        have hcb := HBS.out _ (List.getElem_mem hai)
        have hg : bs[a + 2]? = some (bs[a + 2]'hai) := List.getElem?_eq_getElem hai
        obtain ⟨c, hc⟩ : ∃ c : Nat, (bs[a + 2]'hai) = (c : Int) := ⟨(bs[a + 2]'hai).toNat, by omega⟩
        rw [hc] at hcell hcb hg
        have hcell : w.cell? ⟨b, o + 2, none⟩ = some (.int .u8 (c : Int)) := hcell
        have hc256 : c < 256 := by omega
        have h1 := and127b c hc256
        have hn' : n < 16384 := hn
        have h2 := or_shl n (c % 128) 2 hn (by show c % 128 * 16384 + n < _; omega)
        obtain ⟨m, hm⟩ : ∃ m, n + c % 128 * 16384 = m := ⟨_, rfl⟩
        have HTK := hid (tk_some (n := n) (k := 3) (i := 2) (m := m) rfl hg hm)
        have hmn : m < 2097152 := by omega
        have HMN : Hid (m < 2 ^ (7 * (2 + 1))) := hid hmn
        obtain ⟨c0, hc0⟩ : ∃ c0, c % 128 = c0 := ⟨_, rfl⟩
        have hc1 : c0 < 128 := by omega
        rw [hc0] at h1 h2 hm
        have h2 : bits .or .i64 (n : Int) ((c0 : Int) * 16384) = (m : Int) := by rw [← hm];  exact h2
        have hil : (2 : Int) < ((bs.length - a : Nat) : Int) := by omega
        have hca : (c0 : Int) < 128 := by omega
        have hcz : (0 : Int) ≤ c0 := by omega
        have hmz : (0 : Int) ≤ m := by omega
        have HAI := hid hai
        clear hk hk1 hn ht hai hcb hc hg hc0 hc1 hn' hm hmn
        by_cases hc8 : c < 128
        · have HC8 := hid hc8
          have hc8' : (c : Int) < 128 := by omega
          cases hv : isN (m : Int) with
          | false =>
            have HIS := hid hv
            have HE : Hid (tkW bs a 0 6 = (0, 0, 4)) := hid (by rw [HR.out, HTK.out, if_pos hc8, if_pos (.inl hv)])
            clear hc8 hv hc256
            go_wp2_with (first | (go_at_call 91; refine is_any.mono ?_; rintro e w1 ⟨rfl, rfl⟩; rw [HIS.out]))
            try rw [Exit.noGoto_ret]
            go_ret3
            exact ⟨by rw [HE.out]; rfl, (by repeat (first | (with_reducible exact Below.refl _ _) | (with_reducible exact bl_mm) | (with_reducible refine bl_dr ?_) | (with_reducible refine bl_drN ?_ _) | (with_reducible refine bl_al ?_ _) | (with_reducible refine bl_more ?_ _ _)))⟩
          | true =>
            have HIS := hid hv
            by_cases hz : 0 < 2 ∧ c = 0
            · have HE : Hid (tkW bs a 0 6 = (0, 0, 4)) := hid (by rw [HR.out, HTK.out, if_pos hc8, if_pos (.inr hz)])
              have hz0 : ((c : Int) == 0) = true := by rw [beq_iff_eq]; omega
              clear hc8 hv hc256 hz
              go_wp2_with (first | (go_at_call 91; refine is_any.mono ?_; rintro e w1 ⟨rfl, rfl⟩; rw [HIS.out]))
              try rw [Exit.noGoto_ret]
              go_ret3
              exact ⟨by rw [HE.out]; rfl, (by repeat (first | (with_reducible exact Below.refl _ _) | (with_reducible exact bl_mm) | (with_reducible refine bl_dr ?_) | (with_reducible refine bl_drN ?_ _) | (with_reducible refine bl_al ?_ _) | (with_reducible refine bl_more ?_ _ _)))⟩
            · have HE : Hid (tkW bs a 0 6 = ((m : Int), ((a + 2 + 1 : Nat) : Int), 0)) := hid (by rw [HR.out, HTK.out, if_pos hc8, if_neg (fun h => h.elim (fun h => by rw [hv] at h; cases h) hz)])
              have hz0 : ((c : Int) == 0) = false := by rw [beq_eq_false_iff_ne]; omega
              clear hc8 hv hc256 hz
              go_wp2_with (first | (go_at_call 91; refine is_any.mono ?_; rintro e w1 ⟨rfl, rfl⟩; rw [HIS.out]))
              try rw [Exit.noGoto_ret]
              go_ret3
              refine ⟨?_, (by repeat (first | (with_reducible exact Below.refl _ _) | (with_reducible exact bl_mm) | (with_reducible refine bl_dr ?_) | (with_reducible refine bl_drN ?_ _) | (with_reducible refine bl_al ?_ _) | (with_reducible refine bl_more ?_ _ _)))⟩
              rw [HE.out]
              first | rfl | (push_cast; rfl) | (simp; done)
        · have hc8' : ¬ (c : Int) < 128 := by omega
          have HE : Hid (tkW bs a 0 6 = tkW bs a m 3) := hid (by rw [HR.out, HTK.out, if_neg hc8])
          clear hc8
          go_wp2_with (first | (go_at_call 91; refine is_any.mono ?_; rintro e w1 ⟨rfl, rfl⟩; rw [HIS.out]))
          go_roundg 3
          case measure => decide
          case rel => exact ⟨3, m, rfl, by decide, HMN.out, rfl, rfl, HE.out, more_of (by repeat (first | (with_reducible exact Below.refl _ _) | (with_reducible exact bl_mm) | (with_reducible refine bl_dr ?_) | (with_reducible refine bl_drN ?_ _) | (with_reducible refine bl_al ?_ _) | (with_reducible refine bl_more ?_ _ _)))⟩
      · have hil : ¬ (2 : Int) < ((bs.length - a : Nat) : Int) := by omega
        have hl6 : ¬ (6 : Int) ≤ (bs.length : Int) - a := by omega
        have HE : Hid (tkW bs a 0 6 = (0, 0, 3)) := hid (by rw [HR.out, tk_none (i := 2) rfl (List.getElem?_eq_none (by omega))])
        clear hk hk1 hn ht hai
        go_wp2_with (first | (go_at_call 91; refine is_any.mono ?_; rintro e w1 ⟨rfl, rfl⟩; rw [HIS.out]))
        try rw [Exit.noGoto_ret]
        go_ret3
        exact ⟨by rw [HE.out]; rfl, (by repeat (first | (with_reducible exact Below.refl _ _) | (with_reducible exact bl_mm) | (with_reducible refine bl_dr ?_) | (with_reducible refine bl_drN ?_ _) | (with_reducible refine bl_al ?_ _) | (with_reducible refine bl_more ?_ _ _)))⟩
    · obtain rfl : gk = 3 := by omega
      have HR : Hid (tkW bs a 0 6 = tkW bs a n (2 + 1)) := hid ht
      by_cases hai : a + 3 < bs.length
      · obtain ⟨b, o, rfl, _, hlt, hcell⟩ := row_byte HD.out 3 (by rw [List.length_drop]; omega)
        rw [List.getElem_drop] at hcell
        have hcb := HBS.out _ (List.getElem_mem hai)
        have hg : bs[a + 3]? = some (bs[a + 3]'hai) := List.getElem?_eq_getElem hai
        obtain ⟨c, hc⟩ : ∃ c : Nat, (bs[a + 3]'hai) = (c : Int) := ⟨(bs[a + 3]'hai).toNat, by omega⟩
        rw [hc] at hcell hcb hg
        have hcell : w.cell? ⟨b, o + 3, none⟩ = some (.int .u8 (c : Int)) := hcell
        have hc256 : c < 256 := by omega
        have h1 := and127b c hc256
        have hn' : n < 2097152 := hn
        have h2 := or_shl n (c % 128) 3 hn (by show c % 128 * 2097152 + n < _; omega)
        obtain ⟨m, hm⟩ : ∃ m, n + c % 128 * 2097152 = m := ⟨_, rfl⟩
        have HTK := hid (tk_some (n := n) (k := 2) (i := 3) (m := m) rfl hg hm)
        have hmn : m < 268435456 := by omega
        have HMN : Hid (m < 2 ^ (7 * (3 + 1))) := hid hmn
        obtain ⟨c0, hc0⟩ : ∃ c0, c % 128 = c0 := ⟨_, rfl⟩
        have hc1 : c0 < 128 := by omega
        rw [hc0] at h1 h2 hm
        have h2 : bits .or .i64 (n : Int) ((c0 : Int) * 2097152) = (m : Int) := by rw [← hm];  exact h2
        have hil : (3 : Int) < ((bs.length - a : Nat) : Int) := by omega
        have hca : (c0 : Int) < 128 := by omega
        have hcz : (0 : Int) ≤ c0 := by omega
        have hmz : (0 : Int) ≤ m := by omega
        have HAI := hid hai
        clear hk hk1 hn ht hai hcb hc hg hc0 hc1 hn' hm hmn
        by_cases hc8 : c < 128
        · have HC8 := hid hc8
          have hc8' : (c : Int) < 128 := by omega
          cases hv : isN (m : Int) with
          | false =>
            have HIS := hid hv
            have HE : Hid (tkW bs a 0 6 = (0, 0, 4)) := hid (by rw [HR.out, HTK.out, if_pos hc8, if_pos (.inl hv)])
            clear hc8 hv hc256
            go_wp2_with (first | (go_at_call 91; refine is_any.mono ?_; rintro e w1 ⟨rfl, rfl⟩; rw [HIS.out]))
            try rw [Exit.noGoto_ret]
            go_ret3
            exact ⟨by rw [HE.out]; rfl, (by repeat (first | (with_reducible exact Below.refl _ _) | (with_reducible exact bl_mm) | (with_reducible refine bl_dr ?_) | (with_reducible refine bl_drN ?_ _) | (with_reducible refine bl_al ?_ _) | (with_reducible refine bl_more ?_ _ _)))⟩
          | true =>
            have HIS := hid hv
            by_cases hz : 0 < 3 ∧ c = 0
            · have HE : Hid (tkW bs a 0 6 = (0, 0, 4)) := hid (by rw [HR.out, HTK.out, if_pos hc8, if_pos (.inr hz)])
              have hz0 : ((c : Int) == 0) = true := by rw [beq_iff_eq]; omega
              clear hc8 hv hc256 hz
              go_wp2_with (first | (go_at_call 91; refine is_any.mono ?_; rintro e w1 ⟨rfl, rfl⟩; rw [HIS.out]))
              try rw [Exit.noGoto_ret]
              go_ret3
              exact ⟨by rw [HE.out]; rfl, (by repeat (first | (with_reducible exact Below.refl _ _) | (with_reducible exact bl_mm) | (with_reducible refine bl_dr ?_) | (with_reducible refine bl_drN ?_ _) | (with_reducible refine bl_al ?_ _) | (with_reducible refine bl_more ?_ _ _)))⟩
            · have HE : Hid (tkW bs a 0 6 = ((m : Int), ((a + 3 + 1 : Nat) : Int), 0)) := hid (by rw [HR.out, HTK.out, if_pos hc8, if_neg (fun h => h.elim (fun h => by rw [hv] at h; cases h) hz)])
              have hz0 : ((c : Int) == 0) = false := by rw [beq_eq_false_iff_ne]; omega
              clear hc8 hv hc256 hz
              go_wp2_with (first | (go_at_call 91; refine is_any.mono ?_; rintro e w1 ⟨rfl, rfl⟩; rw [HIS.out]))
              try rw [Exit.noGoto_ret]
              go_ret3
              refine ⟨?_, (by repeat (first | (with_reducible exact Below.refl _ _) | (with_reducible exact bl_mm) | (with_reducible refine bl_dr ?_) | (with_reducible refine bl_drN ?_ _) | (with_reducible refine bl_al ?_ _) | (with_reducible refine bl_more ?_ _ _)))⟩
              rw [HE.out]
              first | rfl | (push_cast; rfl) | (simp; done)
        · have hc8' : ¬ (c : Int) < 128 := by omega
          have HE : Hid (tkW bs a 0 6 = tkW bs a m 2) := hid (by rw [HR.out, HTK.out, if_neg hc8])
          clear hc8
          go_wp2_with (first | (go_at_call 91; refine is_any.mono ?_; rintro e w1 ⟨rfl, rfl⟩; rw [HIS.out]))
          go_roundg 2
          case measure => decide
          case rel => exact ⟨4, m, rfl, by decide, HMN.out, rfl, rfl, HE.out, more_of (by repeat (first | (with_reducible exact Below.refl _ _) | (with_reducible exact bl_mm) | (with_reducible refine bl_dr ?_) | (with_reducible refine bl_drN ?_ _) | (with_reducible refine bl_al ?_ _) | (with_reducible refine bl_more ?_ _ _)))⟩
      · have hil : ¬ (3 : Int) < ((bs.length - a : Nat) : Int) := by omega
        have hl6 : ¬ (6 : Int) ≤ (bs.length : Int) - a := by omega
        have HE : Hid (tkW bs a 0 6 = (0, 0, 3)) := hid (by rw [HR.out, tk_none (i := 3) rfl (List.getElem?_eq_none (by omega))])
        clear hk hk1 hn ht hai
        go_wp2_with (first | (go_at_call 91; refine is_any.mono ?_; rintro e w1 ⟨rfl, rfl⟩; rw [HIS.out]))
        try rw [Exit.noGoto_ret]
        go_ret3
        exact ⟨by rw [HE.out]; rfl, (by repeat (first | (with_reducible exact Below.refl _ _) | (with_reducible exact bl_mm) | (with_reducible refine bl_dr ?_) | (with_reducible refine bl_drN ?_ _) | (with_reducible refine bl_al ?_ _) | (with_reducible refine bl_more ?_ _ _)))⟩
    · obtain rfl : gk = 2 := by omega
      have HR : Hid (tkW bs a 0 6 = tkW bs a n (1 + 1)) := hid ht
      by_cases hai : a + 4 < bs.length
      · obtain ⟨b, o, rfl, _, hlt, hcell⟩ := row_byte HD.out 4 (by rw [List.length_drop]; omega)
        rw [List.getElem_drop] at hcell
        have hcb := HBS.out _ (List.getElem_mem hai)
        have hg : bs[a + 4]? = some (bs[a + 4]'hai) := List.getElem?_eq_getElem hai
        obtain ⟨c, hc⟩ : ∃ c : Nat, (bs[a + 4]'hai) = (c : Int) := ⟨(bs[a + 4]'hai).toNat, by omega⟩
        rw [hc] at hcell hcb hg
        have hcell : w.cell? ⟨b, o + 4, none⟩ = some (.int .u8 (c : Int)) := hcell
        have hc256 : c < 256 := by omega
        have h1 := and127b c hc256
        have hn' : n < 268435456 := hn
        have h2 := or_shl n (c % 128) 4 hn (by show c % 128 * 268435456 + n < _; omega)
        obtain ⟨m, hm⟩ : ∃ m, n + c % 128 * 268435456 = m := ⟨_, rfl⟩
        have HTK := hid (tk_some (n := n) (k := 1) (i := 4) (m := m) rfl hg hm)
        have hmn : m < 34359738368 := by omega
        have HMN : Hid (m < 2 ^ (7 * (4 + 1))) := hid hmn
        obtain ⟨c0, hc0⟩ : ∃ c0, c % 128 = c0 := ⟨_, rfl⟩
        have hc1 : c0 < 128 := by omega
        rw [hc0] at h1 h2 hm
        have h2 : bits .or .i64 (n : Int) ((c0 : Int) * 268435456) = (m : Int) := by rw [← hm];  exact h2
        have hil : (4 : Int) < ((bs.length - a : Nat) : Int) := by omega
        have hca : (c0 : Int) < 128 := by omega
        have hcz : (0 : Int) ≤ c0 := by omega
        have hmz : (0 : Int) ≤ m := by omega
        have HAI := hid hai
        clear hk hk1 hn ht hai hcb hc hg hc0 hc1 hn' hm hmn
        by_cases hc8 : c < 128
        · have HC8 := hid hc8
          have hc8' : (c : Int) < 128 := by omega
          cases hv : isN (m : Int) with
          | false =>
            have HIS := hid hv
            have HE : Hid (tkW bs a 0 6 = (0, 0, 4)) := hid (by rw [HR.out, HTK.out, if_pos hc8, if_pos (.inl hv)])
            clear hc8 hv hc256
            go_wp2_with (first | (go_at_call 91; refine is_any.mono ?_; rintro e w1 ⟨rfl, rfl⟩; rw [HIS.out]))
            try rw [Exit.noGoto_ret]
            go_ret3
            exact ⟨by rw [HE.out]; rfl, (by repeat (first | (with_reducible exact Below.refl _ _) | (with_reducible exact bl_mm) | (with_reducible refine bl_dr ?_) | (with_reducible refine bl_drN ?_ _) | (with_reducible refine bl_al ?_ _) | (with_reducible refine bl_more ?_ _ _)))⟩
          | true =>
            have HIS := hid hv
            by_cases hz : 0 < 4 ∧ c = 0
            · have HE : Hid (tkW bs a 0 6 = (0, 0, 4)) := hid (by rw [HR.out, HTK.out, if_pos hc8, if_pos (.inr hz)])
              have hz0 : ((c : Int) == 0) = true := by rw [beq_iff_eq]; omega
              clear hc8 hv hc256 hz
              go_wp2_with (first | (go_at_call 91; refine is_any.mono ?_; rintro e w1 ⟨rfl, rfl⟩; rw [HIS.out]))
              try rw [Exit.noGoto_ret]
              go_ret3
              exact ⟨by rw [HE.out]; rfl, (by repeat (first | (with_reducible exact Below.refl _ _) | (with_reducible exact bl_mm) | (with_reducible refine bl_dr ?_) | (with_reducible refine bl_drN ?_ _) | (with_reducible refine bl_al ?_ _) | (with_reducible refine bl_more ?_ _ _)))⟩
            · have HE : Hid (tkW bs a 0 6 = ((m : Int), ((a + 4 + 1 : Nat) : Int), 0)) := hid (by rw [HR.out, HTK.out, if_pos hc8, if_neg (fun h => h.elim (fun h => by rw [hv] at h; cases h) hz)])
              have hz0 : ((c : Int) == 0) = false := by rw [beq_eq_false_iff_ne]; omega
              clear hc8 hv hc256 hz
              go_wp2_with (first | (go_at_call 91; refine is_any.mono ?_; rintro e w1 ⟨rfl, rfl⟩; rw [HIS.out]))
              try rw [Exit.noGoto_ret]
              go_ret3
              refine ⟨?_, (by repeat (first | (with_reducible exact Below.refl _ _) | (with_reducible exact bl_mm) | (with_reducible refine bl_dr ?_) | (with_reducible refine bl_drN ?_ _) | (with_reducible refine bl_al ?_ _) | (with_reducible refine bl_more ?_ _ _)))⟩
              rw [HE.out]
              first | rfl | (push_cast; rfl) | (simp; done)
        · have hc8' : ¬ (c : Int) < 128 := by omega
          have HE : Hid (tkW bs a 0 6 = tkW bs a m 1) := hid (by rw [HR.out, HTK.out, if_neg hc8])
          clear hc8
          go_wp2_with (first | (go_at_call 91; refine is_any.mono ?_; rintro e w1 ⟨rfl, rfl⟩; rw [HIS.out]))
          go_roundg 1
          case measure => decide
          case rel => exact ⟨5, m, rfl, by decide, HMN.out, rfl, rfl, HE.out, more_of (by repeat (first | (with_reducible exact Below.refl _ _) | (with_reducible exact bl_mm) | (with_reducible refine bl_dr ?_) | (with_reducible refine bl_drN ?_ _) | (with_reducible refine bl_al ?_ _) | (with_reducible refine bl_more ?_ _ _)))⟩
      · have hil : ¬ (4 : Int) < ((bs.length - a : Nat) : Int) := by omega
        have hl6 : ¬ (6 : Int) ≤ (bs.length : Int) - a := by omega
        have HE : Hid (tkW bs a 0 6 = (0, 0, 3)) := hid (by rw [HR.out, tk_none (i := 4) rfl (List.getElem?_eq_none (by omega))])
        clear hk hk1 hn ht hai
        go_wp2_with (first | (go_at_call 91; refine is_any.mono ?_; rintro e w1 ⟨rfl, rfl⟩; rw [HIS.out]))
        try rw [Exit.noGoto_ret]
        go_ret3
        exact ⟨by rw [HE.out]; rfl, (by repeat (first | (with_reducible exact Below.refl _ _) | (with_reducible exact bl_mm) | (with_reducible refine bl_dr ?_) | (with_reducible refine bl_drN ?_ _) | (with_reducible refine bl_al ?_ _) | (with_reducible refine bl_more ?_ _ _)))⟩
    · obtain rfl : gk = 1 := by omega
      have HR : Hid (tkW bs a 0 6 = tkW bs a n (0 + 1)) := hid ht
      by_cases hai : a + 5 < bs.length
      · obtain ⟨b, o, rfl, _, hlt, hcell⟩ := row_byte HD.out 5 (by rw [List.length_drop]; omega)
        rw [List.getElem_drop] at hcell
        have hcb := HBS.out _ (List.getElem_mem hai)
        have hg : bs[a + 5]? = some (bs[a + 5]'hai) := List.getElem?_eq_getElem hai
        obtain ⟨c, hc⟩ : ∃ c : Nat, (bs[a + 5]'hai) = (c : Int) := ⟨(bs[a + 5]'hai).toNat, by omega⟩
        rw [hc] at hcell hcb hg
        have hcell : w.cell? ⟨b, o + 5, none⟩ = some (.int .u8 (c : Int)) := hcell
        have hc256 : c < 256 := by omega
        have h1 := and127b c hc256
        have hn' : n < 34359738368 := hn
        have h2 := or_shl n (c % 128) 5 hn (by show c % 128 * 34359738368 + n < _; omega)
        obtain ⟨m, hm⟩ : ∃ m, n + c % 128 * 34359738368 = m := ⟨_, rfl⟩
        have HTK := hid (tk_some (n := n) (k := 0) (i := 5) (m := m) rfl hg hm)
        have hmn : m < 4398046511104 := by omega
        have HMN : Hid (m < 2 ^ (7 * (5 + 1))) := hid hmn
        obtain ⟨c0, hc0⟩ : ∃ c0, c % 128 = c0 := ⟨_, rfl⟩
        have hc1 : c0 < 128 := by omega
        rw [hc0] at h1 h2 hm
        have h2 : bits .or .i64 (n : Int) ((c0 : Int) * 34359738368) = (m : Int) := by rw [← hm];  exact h2
        have hil : (5 : Int) < ((bs.length - a : Nat) : Int) := by omega
        have hca : (c0 : Int) < 128 := by omega
        have hcz : (0 : Int) ≤ c0 := by omega
        have hmz : (0 : Int) ≤ m := by omega
        have HAI := hid hai
        clear hk hk1 hn ht hai hcb hc hg hc0 hc1 hn' hm hmn
        by_cases hc8 : c < 128
        · have HC8 := hid hc8
          have hc8' : (c : Int) < 128 := by omega
          cases hv : isN (m : Int) with
          | false =>
            have HIS := hid hv
            have HE : Hid (tkW bs a 0 6 = (0, 0, 4)) := hid (by rw [HR.out, HTK.out, if_pos hc8, if_pos (.inl hv)])
            clear hc8 hv hc256
            go_wp2_with (first | (go_at_call 91; refine is_any.mono ?_; rintro e w1 ⟨rfl, rfl⟩; rw [HIS.out]))
            try rw [Exit.noGoto_ret]
            go_ret3
            exact ⟨by rw [HE.out]; rfl, (by repeat (first | (with_reducible exact Below.refl _ _) | (with_reducible exact bl_mm) | (with_reducible refine bl_dr ?_) | (with_reducible refine bl_drN ?_ _) | (with_reducible refine bl_al ?_ _) | (with_reducible refine bl_more ?_ _ _)))⟩
          | true =>
            have HIS := hid hv
            by_cases hz : 0 < 5 ∧ c = 0
            · have HE : Hid (tkW bs a 0 6 = (0, 0, 4)) := hid (by rw [HR.out, HTK.out, if_pos hc8, if_pos (.inr hz)])
              have hz0 : ((c : Int) == 0) = true := by rw [beq_iff_eq]; omega
              clear hc8 hv hc256 hz
              go_wp2_with (first | (go_at_call 91; refine is_any.mono ?_; rintro e w1 ⟨rfl, rfl⟩; rw [HIS.out]))
              try rw [Exit.noGoto_ret]
              go_ret3
              exact ⟨by rw [HE.out]; rfl, (by repeat (first | (with_reducible exact Below.refl _ _) | (with_reducible exact bl_mm) | (with_reducible refine bl_dr ?_) | (with_reducible refine bl_drN ?_ _) | (with_reducible refine bl_al ?_ _) | (with_reducible refine bl_more ?_ _ _)))⟩
            · have HE : Hid (tkW bs a 0 6 = ((m : Int), ((a + 5 + 1 : Nat) : Int), 0)) := hid (by rw [HR.out, HTK.out, if_pos hc8, if_neg (fun h => h.elim (fun h => by rw [hv] at h; cases h) hz)])
              have hz0 : ((c : Int) == 0) = false := by rw [beq_eq_false_iff_ne]; omega
              clear hc8 hv hc256 hz
              go_wp2_with (first | (go_at_call 91; refine is_any.mono ?_; rintro e w1 ⟨rfl, rfl⟩; rw [HIS.out]))
              try rw [Exit.noGoto_ret]
              go_ret3
              refine ⟨?_, (by repeat (first | (with_reducible exact Below.refl _ _) | (with_reducible exact bl_mm) | (with_reducible refine bl_dr ?_) | (with_reducible refine bl_drN ?_ _) | (with_reducible refine bl_al ?_ _) | (with_reducible refine bl_more ?_ _ _)))⟩
              rw [HE.out]
              first | rfl | (push_cast; rfl) | (simp; done)
        · have hc8' : ¬ (c : Int) < 128 := by omega
          have HE : Hid (tkW bs a 0 6 = tkW bs a m 0) := hid (by rw [HR.out, HTK.out, if_neg hc8])
          clear hc8
          have hl6 : (6 : Int) ≤ (bs.length : Int) - a := by have := HAI.out; omega
          go_wp2_with (first | (go_at_call 91; refine is_any.mono ?_; rintro e w1 ⟨rfl, rfl⟩; rw [HIS.out]))
          try rw [Exit.noGoto_ret]
          go_ret3
          exact ⟨by rw [HE.out]; rfl, (by repeat (first | (with_reducible exact Below.refl _ _) | (with_reducible exact bl_mm) | (with_reducible refine bl_dr ?_) | (with_reducible refine bl_drN ?_ _) | (with_reducible refine bl_al ?_ _) | (with_reducible refine bl_more ?_ _ _)))⟩
      · have hil : ¬ (5 : Int) < ((bs.length - a : Nat) : Int) := by omega
        have hl6 : ¬ (6 : Int) ≤ (bs.length : Int) - a := by omega
        have HE : Hid (tkW bs a 0 6 = (0, 0, 3)) := hid (by rw [HR.out, tk_none (i := 5) rfl (List.getElem?_eq_none (by omega))])
        clear hk hk1 hn ht hai
        go_wp2_with (first | (go_at_call 91; refine is_any.mono ?_; rintro e w1 ⟨rfl, rfl⟩; rw [HIS.out]))
        try rw [Exit.noGoto_ret]
        go_ret3
        exact ⟨by rw [HE.out]; rfl, (by repeat (first | (with_reducible exact Below.refl _ _) | (with_reducible exact bl_mm) | (with_reducible refine bl_dr ?_) | (with_reducible refine bl_drN ?_ _) | (with_reducible refine bl_al ?_ _) | (with_reducible refine bl_more ?_ _ _)))⟩
end Go.Proofs.Ytgpcgndmdkgbdaa

/- Lists of numbers put. -/
namespace Go.Proofs.Ytgpcgndmdkgbdaa
open Go.RowKit

def manyL (l : List Int) : List Int := l.flatMap (fun n => oneL n.toNat)
def putsL (l : List Int) : List Int := oneL l.length ++ manyL l
theorem manyL_snoc (l : List Int) (x : Int) : manyL (l ++ [x]) = manyL l ++ oneL x.toNat := by simp [manyL]
theorem manyL_len (l : List Int) (h : ∀ x ∈ l, x.toNat < 9223372036854775808) : (manyL l).length ≤ 9 * l.length := by
  induction l with
  | nil => simp [manyL]
  | cons x r ih =>
    have h1 := oneL_9 (h x (List.mem_cons_self ..))
    have h2 := ih (fun y hy => h y (List.mem_cons_of_mem _ hy))
    unfold manyL at h2 ⊢
    rw [List.flatMap_cons, List.length_append, List.length_cons]
    omega
theorem row_int {K : Nat → Prop} {w : World} {A : Option Addr} {n c : Nat} {xs : List Int} (h : intE.Row K w (.slice A n c) xs) (i : Nat) (hi : i < xs.length) : ∃ b off, A = some ⟨b, off, none⟩ ∧ K b ∧ b < w.heap.size ∧ w.cell? ⟨b, off + i, none⟩ = some (.int .i64 (xs[i]'hi)) := by
  obtain ⟨b, off, cs, e, hk, hl, h1, h2⟩ := h.get i hi
  have h1 : cs = [.int .i64 (xs[i]'hi)] := h1
  have := h2 0 (.int .i64 (xs[i]'hi)) (by rw [h1]; rfl)
  rw [show intE.sz = 1 from rfl, Nat.mul_one, Nat.add_zero] at this
  exact ⟨b, off, e, hk, hl, this⟩
set_option maxHeartbeats 4000000 in
theorem puts_any {N : Nat} {w0 w : World} {v vl : Value} {g : Nat} {xs l : List Int} {K : Nat → Prop} (h : Mk byteE 5 N w0 w g v xs) (hr : intE.Row K w0 vl l) (hK : ∀ b, K b → b < N) (hn : ∀ x ∈ l, isN x = true) (hll : l.length ≤ 255) (hl : xs.length ≤ 1000000000) :
    Calls Try.prog 93 #[v, vl] w fun e w' => Put2R N w0 (xs ++ putsL l) e w' := by
  obtain ⟨A, c, rfl, hc1, _⟩ := h.sp.form
  obtain ⟨B, cb, rfl, _, _⟩ := hr.form
  have HO := hid (h.full rfl hc1)
  have HR := hid hr
  have HKK := hid hK
  have HNN := hid hn
  have HN : Hid (l.length < 9223372036854775808) := hid (by omega)
  have HL : Hid (xs.length ≤ 4000000000) := hid (by omega)
  have HX := hid hl
  have hc2 : (xs.length : Int) ≤ (c : Int) := by omega
  have hl5 : (l.length : Int) ≤ 255 := by omega
  have Mput0 := hid trivial
  clear h hr hK hn hl hc1
  go_enter Try.func93, Try.ntmps93
  go_wp2_with (first | (go_at_call 92; clear Mput0; refine (put_any HO.out HN.out HL.out).mono ?_; rintro e w2 ⟨v2, g2, rfl, ho2⟩; have HO2 := hid ho2; clear ho2))
  go_loopg [6, 23] l.length (fun k vo vi wr => ∃ (j g' : Nat), j + k = l.length ∧ vi = .int .i64 (j : Int) ∧ Mk byteE 5 N w0 wr g' vo (xs ++ (oneL l.length ++ manyL (l.take j))))
  case atStart => exact ⟨0, g2, by omega, rfl, by rw [List.take_zero]; simpa [manyL] using HO2.out⟩
  case round =>
    obtain ⟨j, g', hk, rfl, ho⟩ := hrel
    have HK := hid hk
    have HO3 := hid ho
    by_cases hj : j < l.length
    · obtain ⟨b, o, rfl, _, hlt, hcell⟩ := row_int (HR.out.step (fun b hb _ => ho.low.block b (HKK.out b hb))) j hj
      have hx := HNN.out _ (List.getElem_mem hj)
      have HT := hid (List.take_succ_eq_append_getElem hj)
      have hml := manyL_len (l.take j) (fun x hx => by
        have := HNN.out x (List.mem_of_mem_take hx)
        simp only [isN, Bool.and_eq_true, decide_eq_true_eq] at this
        omega)
      have h9 := oneL_9 HN.out
      have HL3 : Hid ((xs ++ (oneL l.length ++ manyL (l.take j))).length ≤ 4000000000) := hid (by
        have := HX.out
        rw [List.length_take] at hml
        rw [List.length_append, List.length_append]
        omega)
      obtain ⟨n, hxn⟩ : ∃ n : Nat, (l[j]'hj) = (n : Int) := ⟨(l[j]'hj).toNat, by simp only [isN, Bool.and_eq_true, decide_eq_true_eq] at hx; omega⟩
      rw [hxn] at hx hcell HT
      have HIS := hid hx
      have HN3 : Hid (n < 9223372036854775808) := hid (by simp only [isN, Bool.and_eq_true, decide_eq_true_eq] at hx; omega)
      have hj0 : (0 : Int) ≤ j := by omega
      have hjx : (j : Int) < l.length := by omega
      have HJ := hid (And.intro hj trivial)
      clear hk ho hj hx hml h9 hxn
      go_wp2_with (first | (go_at_call 91; refine is_any.mono ?_; rintro e w1 ⟨rfl, rfl⟩; rw [HIS.out]) | (go_at_call 92; refine (put_any HO3.out HN3.out HL3.out).mono ?_; rintro e w4 ⟨v4, g4, rfl, ho4⟩; have HO4 := hid ho4; clear ho4))
      go_roundg (l.length - (j + 1))
      case measure => have := HK.out; have := HJ.out.1; omega
      case rel => exact ⟨j + 1, g4, by have := HJ.out.1; omega, by push_cast; rfl, by rw [HT.out, manyL_snoc]; have h := HO4.out; simpa [List.append_assoc] using h⟩
    · have hje : j = l.length := by omega
      subst hje
      rw [List.take_length] at ho
      have HO3 := hid ho
      have hnl : ¬ (l.length : Int) < l.length := by omega
      clear hk ho hj
      go_wp2
      go_ret2
      exact ⟨_, g', rfl, HO3.out⟩
end Go.Proofs.Ytgpcgndmdkgbdaa

/- Lists of numbers taken. -/
namespace Go.Proofs.Ytgpcgndmdkgbdaa
open Go.RowKit

theorem info3 : (Try.prog.info? 3).map (fun i => (i.zero, i.size, i.bytes)) = some (some (.int .i64 0), 1, 8) := by kernel_rfl
theorem app40 {K : Nat → Prop} {g : Nat} {w : World} {v x : Value} {xs ys : List Int} (h : intE.Spine 3 K g w v xs) (hy : intE.Src K w x ys) (hKg : ∀ b, K b → b < w.heap.size → b ≠ g) (hlen : xs.length + ys.length ≤ 4294967296) :
    ∃ v' w' g', (Builtin.append_ #[40, 40] 40 #[v, x]).run Try.prog w = .ok v' w' ∧ intE.Spine 3 (fun b => K b ∧ b < w.heap.size) g' w' v' (xs ++ ys) ∧ Ext (fun b => b = g ∧ capOf v ≠ 0) w w' ∧ Grew g w w' v v' g' := by
  obtain ⟨i0, hi, hz0, hz1, hz2⟩ := info_parts info3
  exact h.append 40 40 40 i0 _ Try.underlying40 ⟨_, Try.underlying40⟩ hi hz0 hz1 rfl (by decide) hy hKg hlen (by rw [hz2]; decide)
theorem wpList_app40 {w : World} {ops : Array Oper} {rest : List Oper} {o : Oper} {a : Act} {Q : Exit → Act → World → Prop} {K : Nat → Prop} {g : Nat} {xs ys : List Int} {v x : Value}
    (hg : o.guard = none) (s x' : Operand) (hop : o.op = Op.call { callee := Callee.builtin Builtin.append, args := #[s, x'], argTypes := #[40, 40] }) (hty : o.type = 40)
    (hv : a.eval s = v) (hx : a.eval x' = x) (hs : intE.Spine 3 K g w v xs) (hy : intE.Src K w x ys) (hKg : ∀ b, K b → b < w.heap.size → b ≠ g) (hlen : xs.length + ys.length ≤ 4294967296)
    (h : ∀ v' w' g', intE.Spine 3 (fun b => K b ∧ b < w.heap.size) g' w' v' (xs ++ ys) → Ext (fun b => b = g ∧ capOf v ≠ 0) w w' → Grew g w w' v v' g' → wpList Try.prog ops Q rest (a.put o.dst v') w') :
    wpList Try.prog ops Q (o :: rest) a w := by
  subst hv; subst hx
  obtain ⟨v', w', g', hrun, h1, h2, h3⟩ := app40 hs hy hKg hlen
  exact wpList_append_run hg s x' 40 40 hop (by rw [hty]; exact hrun) (h v' w' g' h1 h2 h3)
/-- A row that was made from block N on; what lay before is as it was. -/
structure Made {α : Type} (d : Enc α) (E : TypeId) (N : Nat) (w0 w : World) (g : Nat) (v : Value) (xs : List α) : Prop where
  sp : d.Spine E No g w v xs
  gN : N ≤ g
  size : N ≤ w.heap.size
  low : Below N w0 w
theorem Made.below {α : Type} {d : Enc α} {E : TypeId} {N : Nat} {w0 w w' : World} {g : Nat} {v : Value} {xs : List α} (h : Made d E N w0 w g v xs) (hb : Below w.heap.size w w') : Made d E N w0 w' g v xs :=
  ⟨h.sp.step (fun _ hc => (hb.block g (Array.getElem?_eq_some_iff.1 hc).1).trans hc) (fun _ hk _ => hk.elim), h.gN, Nat.le_trans h.size hb.size, h.low.trans (hb.mono h.size)⟩
theorem Made.grown {α : Type} {d : Enc α} {E : TypeId} {N : Nat} {w0 w w2 : World} {g g2 : Nat} {v v2 : Value} {xs ys : List α} {K : Nat → Prop} (h : Made d E N w0 w g v xs) (hs : d.Spine E K g2 w2 v2 ys) (hK : ∀ b, ¬ K b) (he : Ext (fun b => b = g ∧ capOf v ≠ 0) w w2) (hg : Grew g w w2 v v2 g2) : Made d E N w0 w2 g2 v2 ys := by
  have h1 := h.gN
  refine ⟨hs.step (fun _ hc => hc) (fun b hb _ => (hK b hb).elim), by have := h.size; rcases hg.two with e | e <;> omega, Nat.le_trans h.size he.size, h.low.trans (he.toBelow h.size (fun x hx e => by omega))⟩
theorem Made.nil {α : Type} (d : Enc α) (E : TypeId) (w : World) : Made d E w.heap.size w w w.heap.size (.slice none 0 0) [] := ⟨Enc.Spine.nil _ _ _ _ _, Nat.le_refl _, Nat.le_refl _, Below.refl _ _⟩
theorem Made.no {α : Type} (d : Enc α) (E : TypeId) {w w' : World} (h : Below w.heap.size w w') : Made d E w.heap.size w w' w.heap.size (.slice none 0 0) [] := ⟨Enc.Spine.nil _ _ _ _ _, Nat.le_refl _, h.size, h⟩
/-- What is taken lies within the bytes. -/
theorem tk_ok {bs : List Int} {a : Nat} : ∀ (k n : Nat) (x p : Int), tkW bs a n k = (x, p, 0) → isN x = true ∧ 0 ≤ p ∧ p ≤ bs.length := by
  intro k
  induction k with
  | zero => intro n x p h; rw [tkW] at h; cases h
  | succ k ih =>
    intro n x p h
    cases hg : bs[a + (5 - k)]? with
    | none => rw [tk_none rfl hg] at h; cases h
    | some c =>
      have hlt := (List.getElem?_eq_some_iff.1 hg).1
      rw [tkW, hg] at h
      simp only at h
      split at h
      · split at h
        · cases h
        · rename_i hv
          cases h
          refine ⟨?_, by omega, by omega⟩
          cases hi : isN ((n + (c.toNat % 128) * 2 ^ (7 * (5 - k)) : Nat) : Int) with
          | true => rfl
          | false => exact absurd (.inl hi) hv
      · exact ih _ _ _ h
/-- So many numbers from a place on. -/
def tkA (bs : List Int) : Nat → Nat → List Int → List Int × Int × Int
  | 0, a, out => (out, a, 0)
  | k + 1, a, out => if (tkW bs a 0 6).2.2 = 0 then tkA bs k (tkW bs a 0 6).2.1.toNat (out ++ [(tkW bs a 0 6).1]) else ([], 0, (tkW bs a 0 6).2.2)
def takesW (bs : List Int) (a : Nat) : List Int × Int × Int :=
  if (tkW bs a 0 6).2.2 = 0 then (if (tkW bs a 0 6).1 > 255 then ([], 0, 5) else tkA bs (tkW bs a 0 6).1.toNat (tkW bs a 0 6).2.1.toNat []) else ([], 0, (tkW bs a 0 6).2.2)
def TakesR (r : List Int × Int × Int) (w : World) (e : Ending) (w' : World) : Prop := ∃ v g, e = .returned (.tuple #[v, .int .i64 r.2.1, .int .i64 r.2.2]) ∧ Made intE 3 w.heap.size w w' g v r.1
set_option maxHeartbeats 4000000 in
theorem takes_any {w : World} {v : Value} {a : Nat} {bs : List Int} {K : Nat → Prop} (h : byteE.Row K w v bs) (hbs : ∀ b ∈ bs, 0 ≤ b ∧ b < 256) (ha : a ≤ bs.length) (hl : bs.length ≤ 4000000000) : Calls Try.prog 100 #[v, .int .i64 a] w fun e w' => TakesR (takesW bs a) w e w' := by
  obtain ⟨A, c, rfl, _, _⟩ := h.form
  have HR := hid h
  have HBS := hid hbs
  have HA := hid ha
  have HL := hid hl
  have Mtake0 := hid trivial
  obtain ⟨n, p, E, ht⟩ : ∃ n p E, tkW bs a 0 6 = (n, p, E) := ⟨_, _, _, rfl⟩
  have HT0 := hid ht
  clear h hbs ha hl
  by_cases hE : E = 0
  · subst hE
    obtain ⟨hn, hp0, hp1⟩ := tk_ok _ _ _ _ ht
    by_cases h255 : 255 < n
    · have HE : Hid (takesW bs a = ([], 0, 5)) := hid (by unfold takesW; rw [ht]; simp only [if_true]; rw [if_pos h255])
      clear ht hn hp0 hp1
      go_enter Try.func100, Try.ntmps100
      go_wp2_with (first | (go_at_call 86; clear Mtake0; refine (take_any HR.out HBS.out HA.out HL.out).mono ?_; rintro e w1 ⟨rfl, hb1⟩; obtain ⟨ex1, dx1, rfl⟩ := more_of hb1; clear hb1; rw [HT0.out]))
      go_ret3
      unfold TakesR
      rw [HE.out]
      exact ⟨.slice none 0 0, w.heap.size, rfl, Made.no _ _ (by repeat (first | (with_reducible exact Below.refl _ _) | (with_reducible exact bl_mm) | (with_reducible refine bl_dr ?_) | (with_reducible refine bl_drN ?_ _) | (with_reducible refine bl_al ?_ _) | (with_reducible refine bl_more ?_ _ _)))⟩
    · obtain ⟨m, rfl⟩ : ∃ m : Nat, n = (m : Int) := ⟨n.toNat, by simp only [isN, Bool.and_eq_true, decide_eq_true_eq] at hn; omega⟩
      obtain ⟨q, rfl⟩ : ∃ q : Nat, p = (q : Int) := ⟨p.toNat, by omega⟩
      have HE : Hid (takesW bs a = tkA bs m q []) := hid (by unfold takesW; rw [ht]; simp only [if_true]; rw [if_neg (show ¬ (m : Int) > 255 by omega), Int.toNat_natCast, Int.toNat_natCast])
      have hm5 : (m : Int) ≤ 255 := by omega
      have HQ : Hid (q ≤ bs.length) := hid (by omega)
      clear ht hn hp0 hp1 h255
      go_enter Try.func100, Try.ntmps100
      go_wp2_with (first | (go_at_call 86; clear Mtake0; refine (take_any HR.out HBS.out HA.out HL.out).mono ?_; rintro e w1 ⟨rfl, hb1⟩; obtain ⟨ex1, dx1, rfl⟩ := more_of hb1; clear hb1; rw [HT0.out]))
      go_loopg [1, 9, 28] m (fun k va vo vi wr => ∃ (j q' g : Nat) (A : Option Addr) (cb : Nat) (out : List Int), j + k = m ∧ vi = .int .i64 (j : Int) ∧ va = .int .i64 (q' : Int) ∧ vo = .slice A j cb ∧ out.length = j ∧ q' ≤ bs.length ∧ tkA bs m q [] = tkA bs k q' out ∧ Made intE 3 w.heap.size w wr g vo out)
      case atStart => exact ⟨0, q, w.heap.size, none, 0, [], by omega, rfl, rfl, rfl, rfl, HQ.out, rfl, (Made.nil _ _ w).below (by repeat (first | (with_reducible exact Below.refl _ _) | (with_reducible exact bl_mm) | (with_reducible refine bl_dr ?_) | (with_reducible refine bl_drN ?_ _) | (with_reducible refine bl_al ?_ _) | (with_reducible refine bl_more ?_ _ _)))⟩
      case round =>
        obtain ⟨j, q', g, B, cb, out, hk, rfl, rfl, rfl, hol, hq, htk, hm⟩ := hrel
        have HM := hid hm
        have HK := hid hk
        have HA1 := hid hq
        rcases Nat.eq_zero_or_pos gk with hgk | hgk
        · subst hgk
          have hje : j = m := by omega
          subst hje
          have HE2 : Hid (takesW bs a = (out, (q' : Int), 0)) := hid (by rw [HE.out, htk]; rfl)
          have hnl : ¬ (j : Int) < j := by omega
          clear hk hol hq htk hm
          go_wp2
          go_ret3
          unfold TakesR
          rw [HE2.out]
          exact ⟨_, g, rfl, HM.out⟩
        · obtain ⟨k, rfl⟩ : ∃ k, gk = k + 1 := ⟨gk - 1, by omega⟩
          have hjm : (j : Int) < m := by omega
          obtain ⟨x, p2, E2, ht1⟩ : ∃ x p2 E2, tkW bs q' 0 6 = (x, p2, E2) := ⟨_, _, _, rfl⟩
          have HT1 := hid ht1
          rw [tkA, ht1] at htk
          simp only at htk
          by_cases hE2 : E2 = 0
          · subst hE2
            obtain ⟨_, hp0, hp1⟩ := tk_ok _ _ _ _ ht1
            obtain ⟨q2, rfl⟩ : ∃ q2 : Nat, p2 = (q2 : Int) := ⟨p2.toNat, by omega⟩
            rw [if_pos rfl, Int.toNat_natCast] at htk
            have HTK := hid htk
            have HQ2 : Hid (q2 ≤ bs.length) := hid (by omega)
            have HLEN : Hid (out.length + [x].length ≤ 4294967296) := hid (by simp; omega)
            have HLE : Hid ((out ++ [x]).length = j + 1) := hid (by simp; omega)
            have hj0 : (0 : Int) ≤ j := by omega
            clear hk hol hq htk hm ht1 hp0 hp1 hgk
            go_wp2_with (first | (go_at_call 86; refine (take_any (HR.out.below HM.out.low) HBS.out HA1.out HL.out).mono ?_; rintro e w2 ⟨rfl, hb2⟩; obtain ⟨ex2, dx2, rfl⟩ := more_of hb2; clear hb2; rw [HT1.out]) | (at_builtin; refine wpList_app40 (ys := [x]) (by rfl) (.tmp 40) (.tmp 42) (by rfl) (by rfl) (by rfl) (by rfl) (HM.out.below (by repeat (first | (with_reducible exact Below.refl _ _) | (with_reducible exact bl_mm) | (with_reducible refine bl_dr ?_) | (with_reducible refine bl_drN ?_ _) | (with_reducible refine bl_al ?_ _) | (with_reducible refine bl_more ?_ _ _)))).sp (by exact Enc.Src.one_blk (cs := [.int .i64 x]) (alloc_blk (by simp [more_size])) rfl) (fun _ h _ => h.elim) HLEN.out ?_; intro v4 w4 g4 hs4 he4 hg4; obtain ⟨A4, c4, hv4, _, _⟩ := hs4.form; rw [HLE.out] at hv4; subst hv4; have HS4 := hid hs4; have HE4 := hid he4; have HG4 := hid hg4; clear hs4 he4 hg4))
            go_roundg k
            case measure => omega
            case rel =>
              exact ⟨j + 1, q2, g4, A4, c4, out ++ [x], by have := HK.out; omega, by push_cast; rfl, rfl, rfl, HLE.out, HQ2.out, HTK.out, (HM.out.below (by repeat (first | (with_reducible exact Below.refl _ _) | (with_reducible exact bl_mm) | (with_reducible refine bl_dr ?_) | (with_reducible refine bl_drN ?_ _) | (with_reducible refine bl_al ?_ _) | (with_reducible refine bl_more ?_ _ _)))).grown HS4.out (fun _ h => h.1) HE4.out HG4.out⟩
          · rw [if_neg hE2] at htk
            have HE3 : Hid (takesW bs a = ([], 0, E2)) := hid (by rw [HE.out, htk])
            have hE3 : (E2 != 0) = true := by simpa using hE2
            clear hk hol hq htk hm ht1 hgk hE2
            go_wp2_with (first | (go_at_call 86; refine (take_any (HR.out.below HM.out.low) HBS.out HA1.out HL.out).mono ?_; rintro e w2 ⟨rfl, hb2⟩; obtain ⟨ex2, dx2, rfl⟩ := more_of hb2; clear hb2; rw [HT1.out]))
            go_ret3
            unfold TakesR
            rw [HE3.out]
            exact ⟨.slice none 0 0, w.heap.size, rfl, Made.no _ _ (HM.out.low.trans ((show Below wr.heap.size wr _ from (by repeat (first | (with_reducible exact Below.refl _ _) | (with_reducible exact bl_mm) | (with_reducible refine bl_dr ?_) | (with_reducible refine bl_drN ?_ _) | (with_reducible refine bl_al ?_ _) | (with_reducible refine bl_more ?_ _ _)))).mono HM.out.size))⟩
  · have HE : Hid (takesW bs a = ([], 0, E)) := hid (by unfold takesW; rw [ht]; simp only; rw [if_neg hE])
    have hE1 : (E != 0) = true := by simpa using hE
    clear ht hE
    go_enter Try.func100, Try.ntmps100
    go_wp2_with (first | (go_at_call 86; clear Mtake0; refine (take_any HR.out HBS.out HA.out HL.out).mono ?_; rintro e w1 ⟨rfl, hb1⟩; obtain ⟨ex1, dx1, rfl⟩ := more_of hb1; clear hb1; rw [HT0.out]))
    go_ret3
    unfold TakesR
    rw [HE.out]
    exact ⟨.slice none 0 0, w.heap.size, rfl, Made.no _ _ (by repeat (first | (with_reducible exact Below.refl _ _) | (with_reducible exact bl_mm) | (with_reducible refine bl_dr ?_) | (with_reducible refine bl_drN ?_ _) | (with_reducible refine bl_al ?_ _) | (with_reducible refine bl_more ?_ _ _)))⟩
end Go.Proofs.Ytgpcgndmdkgbdaa

/- Stamps. -/
namespace Go.Proofs.Ytgpcgndmdkgbdaa
open Go.RowKit

set_option maxHeartbeats 1000000 in
theorem nbad_any {w : World} {n : Int} : Calls Try.prog 101 #[.int .i64 n] w fun e w' => e = .returned (.bool (!isN n)) ∧ w = w' := by
  unfold isN
  cases i1 : decide (0 ≤ n) with
  | false =>
    have i2 : decide (n < 0) = true := by rw [decide_eq_true_eq]; have := of_decide_eq_false i1; omega
    have i3 : n < 0 := of_decide_eq_true i2
    clear i1
    go_enter Try.func101, Try.ntmps101
    go_wp2
    go_ret
    exact ⟨rfl, rfl⟩
  | true =>
    have i3 : ¬ n < 0 := by have := of_decide_eq_true i1; omega
    cases i4 : decide (n ≤ 1099511627776) with
    | false =>
      have i5 : 1099511627776 < n := by have := of_decide_eq_false i4; omega
      clear i1 i4
      go_enter Try.func101, Try.ntmps101
      go_wp2
      go_ret
      exact ⟨rfl, rfl⟩
    | true =>
      have i5 : ¬ 1099511627776 < n := by have := of_decide_eq_true i4; omega
      clear i1 i4
      go_enter Try.func101, Try.ntmps101
      go_wp2
      go_ret
      exact ⟨rfl, rfl⟩
def rightS (l : List Int) : Bool := decide (1 ≤ l.length) && decide (l.length ≤ 64) && l.all isN
def IdxR (l : List Int) (w : World) (e : Ending) (w' : World) : Prop := ∃ r : Int, e = .returned (.int .i64 r) ∧ decide (0 ≤ r) = !(l.all isN) ∧ Below w.heap.size w w'
set_option maxHeartbeats 1000000 in
theorem idx_any {w : World} {v : Value} {l : List Int} {K : Nat → Prop} (h : intE.Row K w v l) (hl : l.length ≤ 4000000000) : Calls Try.prog 106 #[v, .func (Fn.func 101) #[] #[]] w fun e w' => IdxR l w e w' := by
  obtain ⟨A, c, rfl, _, _⟩ := h.form
  have HR := hid h
  have hlx : (l.length : Int) ≤ 4000000000 := by omega
  clear h hl
  go_enter Try.func106, Try.ntmps106
  go_wp2
  go_loopg [8] l.length (fun k vi wr => ∃ j : Nat, j + k = l.length ∧ vi = .int .i64 (j : Int) ∧ (∀ x ∈ l.take j, isN x = true) ∧ ∃ ex dx, wr = more w ex dx)
  case atStart => exact ⟨0, by omega, rfl, by simp, more_of (Below.refl _ _)⟩
  case round =>
    obtain ⟨j, hk, rfl, hall, ex, dx, rfl⟩ := hrel
    have HK := hid hk
    have HA := hid hall
    by_cases hj : j < l.length
    · obtain ⟨b, o, rfl, _, hlt, hcell⟩ := row_int HR.out j hj
      have hj0 : (0 : Int) ≤ j := by omega
      have hjx : (j : Int) < l.length := by omega
      have HJ := hid (And.intro hj trivial)
      have HT := hid (List.take_succ_eq_append_getElem hj)
      have HM := hid (List.getElem_mem hj)
      obtain ⟨x, hx⟩ : ∃ x, (l[j]'hj) = x := ⟨_, rfl⟩
      rw [hx] at hcell HT HM
      cases hn : isN x with
      | true =>
        have HX : Hid ((!isN x) = false) := hid (by rw [hn]; rfl)
        have HN := hid hn
        clear hk hall hj hx hn
        go_wp2_with (first | (go_at_call 101; refine nbad_any.mono ?_; rintro e w1 ⟨rfl, rfl⟩; rw [HX.out]))
        go_roundg (l.length - (j + 1))
        case measure => have := HK.out; have := HJ.out.1; omega
        case rel => exact ⟨j + 1, by have := HJ.out.1; omega, by push_cast; rfl, fun y hy => by
          rw [HT.out] at hy
          rcases List.mem_append.1 hy with h | h
          · exact HA.out y h
          · rw [List.mem_singleton.1 h]; exact HN.out, more_of (by repeat (first | (with_reducible exact Below.refl _ _) | (with_reducible exact bl_mm) | (with_reducible refine bl_dr ?_) | (with_reducible refine bl_drN ?_ _) | (with_reducible refine bl_al ?_ _) | (with_reducible refine bl_more ?_ _ _)))⟩
      | false =>
        have HX : Hid ((!isN x) = true) := hid (by rw [hn]; rfl)
        have HE : Hid (l.all isN = false) := hid (by
          cases ha : l.all isN with
          | false => rfl
          | true => have := List.all_eq_true.1 ha x HM.out; rw [hn] at this; cases this)
        clear hk hall hj hx hn
        go_wp2_with (first | (go_at_call 101; refine nbad_any.mono ?_; rintro e w1 ⟨rfl, rfl⟩; rw [HX.out]))
        go_ret
        exact ⟨(j : Int), rfl, by rw [HE.out, decide_eq_true (by omega)]; rfl, (by repeat (first | (with_reducible exact Below.refl _ _) | (with_reducible exact bl_mm) | (with_reducible refine bl_dr ?_) | (with_reducible refine bl_drN ?_ _) | (with_reducible refine bl_al ?_ _) | (with_reducible refine bl_more ?_ _ _)))⟩
    · have hje : j = l.length := by omega
      subst hje
      rw [List.take_length] at hall
      have HE : Hid (l.all isN = true) := hid (List.all_eq_true.2 hall)
      have hnl : ¬ (l.length : Int) < l.length := by omega
      clear hk hall hj
      go_wp2
      go_ret
      exact ⟨-1, rfl, by rw [HE.out]; rfl, (by repeat (first | (with_reducible exact Below.refl _ _) | (with_reducible exact bl_mm) | (with_reducible refine bl_dr ?_) | (with_reducible refine bl_drN ?_ _) | (with_reducible refine bl_al ?_ _) | (with_reducible refine bl_more ?_ _ _)))⟩
set_option maxHeartbeats 1000000 in
theorem cont_any {w : World} {v : Value} {l : List Int} {K : Nat → Prop} (h : intE.Row K w v l) (hl : l.length ≤ 4000000000) : Calls Try.prog 102 #[v, .func (Fn.func 101) #[] #[]] w fun e w' => e = .returned (.bool (!(l.all isN))) ∧ Below w.heap.size w w' := by
  obtain ⟨A, c, rfl, _, _⟩ := h.form
  have HR := hid h
  have HL := hid hl
  clear h hl
  cases ha : l.all isN with
  | true =>
    have HAL := hid ha
    clear ha
    go_enter Try.func102, Try.ntmps102
    go_wp2_with (first | (go_at_call 106; refine (idx_any HR.out HL.out).mono ?_; rintro e w1 ⟨r, rfl, hr1, hb1⟩; rw [HAL.out] at hr1; simp only [Bool.not_true] at hr1; obtain ⟨ex1, dx1, rfl⟩ := more_of hb1; clear hb1))
    go_ret
    exact ⟨rfl, (by repeat (first | (with_reducible exact Below.refl _ _) | (with_reducible exact bl_mm) | (with_reducible refine bl_dr ?_) | (with_reducible refine bl_drN ?_ _) | (with_reducible refine bl_al ?_ _) | (with_reducible refine bl_more ?_ _ _)))⟩
  | false =>
    have HAL := hid ha
    clear ha
    go_enter Try.func102, Try.ntmps102
    go_wp2_with (first | (go_at_call 106; refine (idx_any HR.out HL.out).mono ?_; rintro e w1 ⟨r, rfl, hr1, hb1⟩; rw [HAL.out] at hr1; simp only [Bool.not_false] at hr1; obtain ⟨ex1, dx1, rfl⟩ := more_of hb1; clear hb1))
    go_ret
    exact ⟨rfl, (by repeat (first | (with_reducible exact Below.refl _ _) | (with_reducible exact bl_mm) | (with_reducible refine bl_dr ?_) | (with_reducible refine bl_drN ?_ _) | (with_reducible refine bl_al ?_ _) | (with_reducible refine bl_more ?_ _ _)))⟩
set_option maxHeartbeats 1000000 in
theorem scheck_any {w : World} {v : Value} {l : List Int} {K : Nat → Prop} (h : intE.Row K w v l) (hl : l.length ≤ 4000000000) : Calls Try.prog 90 #[v] w fun e w' => e = .returned (.int .i64 (if rightS l = true then 0 else 2)) ∧ Below w.heap.size w w' := by
  obtain ⟨A, c, rfl, _, _⟩ := h.form
  have HR := hid h
  have HL := hid hl
  by_cases h1 : (l.length : Int) < 1
  · have hr : rightS l = false := by unfold rightS; rw [decide_eq_false (show ¬ 1 ≤ l.length by omega)]; rfl
    rw [hr, if_neg Bool.false_ne_true]
    clear h hl hr
    go_enter Try.func90, Try.ntmps90
    go_wp2
    go_ret
    exact ⟨rfl, (by repeat (first | (with_reducible exact Below.refl _ _) | (with_reducible exact bl_mm) | (with_reducible refine bl_dr ?_) | (with_reducible refine bl_drN ?_ _) | (with_reducible refine bl_al ?_ _) | (with_reducible refine bl_more ?_ _ _)))⟩
  by_cases h2 : (64 : Int) < (l.length : Int)
  · have hr : rightS l = false := by unfold rightS; rw [decide_eq_false (show ¬ l.length ≤ 64 by omega), Bool.and_false]; rfl
    rw [hr, if_neg Bool.false_ne_true]
    clear h hl hr
    go_enter Try.func90, Try.ntmps90
    go_wp2
    go_ret
    exact ⟨rfl, (by repeat (first | (with_reducible exact Below.refl _ _) | (with_reducible exact bl_mm) | (with_reducible refine bl_dr ?_) | (with_reducible refine bl_drN ?_ _) | (with_reducible refine bl_al ?_ _) | (with_reducible refine bl_more ?_ _ _)))⟩
  have hr : rightS l = l.all isN := by unfold rightS; rw [decide_eq_true (show 1 ≤ l.length by omega), decide_eq_true (show l.length ≤ 64 by omega)]; rfl
  rw [hr]
  clear h hl hr
  cases ha : l.all isN with
  | true =>
    have HAL := hid ha
    rw [if_pos rfl]
    clear ha
    go_enter Try.func90, Try.ntmps90
    go_wp2_with (first | (go_at_call 102; refine (cont_any HR.out HL.out).mono ?_; rintro e w1 ⟨rfl, hb1⟩; rw [HAL.out]; obtain ⟨ex1, dx1, rfl⟩ := more_of hb1; clear hb1))
    go_ret
    exact ⟨rfl, (by repeat (first | (with_reducible exact Below.refl _ _) | (with_reducible exact bl_mm) | (with_reducible refine bl_dr ?_) | (with_reducible refine bl_drN ?_ _) | (with_reducible refine bl_al ?_ _) | (with_reducible refine bl_more ?_ _ _)))⟩
  | false =>
    have HAL := hid ha
    rw [if_neg Bool.false_ne_true]
    clear ha
    go_enter Try.func90, Try.ntmps90
    go_wp2_with (first | (go_at_call 102; refine (cont_any HR.out HL.out).mono ?_; rintro e w1 ⟨rfl, hb1⟩; rw [HAL.out]; obtain ⟨ex1, dx1, rfl⟩ := more_of hb1; clear hb1))
    go_ret
    exact ⟨rfl, (by repeat (first | (with_reducible exact Below.refl _ _) | (with_reducible exact bl_mm) | (with_reducible refine bl_dr ?_) | (with_reducible refine bl_drN ?_ _) | (with_reducible refine bl_al ?_ _) | (with_reducible refine bl_more ?_ _ _)))⟩
set_option maxHeartbeats 1000000 in
theorem at_any {w : World} {v : Value} {l : List Int} {i : Int} {K : Nat → Prop} (h : intE.Row K w v l) : Calls Try.prog 63 #[v, .int .i64 i] w fun e w' => e = .returned (.int .i64 (if 0 ≤ i then l.getD i.toNat 0 else 0)) ∧ Below w.heap.size w w' := by
  obtain ⟨A, c, rfl, _, _⟩ := h.form
  by_cases h0 : i < 0
  · rw [if_neg (by omega)]
    clear h
    go_enter Try.func63, Try.ntmps63
    go_wp2
    go_ret
    exact ⟨rfl, (by repeat (first | (with_reducible exact Below.refl _ _) | (with_reducible exact bl_mm) | (with_reducible refine bl_dr ?_) | (with_reducible refine bl_drN ?_ _) | (with_reducible refine bl_al ?_ _) | (with_reducible refine bl_more ?_ _ _)))⟩
  · obtain ⟨j, rfl⟩ : ∃ j : Nat, i = (j : Int) := ⟨i.toNat, by omega⟩
    rw [if_pos (by omega), Int.toNat_natCast]
    by_cases hj : j < l.length
    · obtain ⟨b, o, rfl, _, hlt, hcell⟩ := row_int h j hj
      have e : l.getD j 0 = l[j]'hj := by simp [List.getD, hj]
      rw [e]
      have hj0 : (0 : Int) ≤ j := by omega
      have hjx : (j : Int) < l.length := by omega
      have hjn : ¬ (l.length : Int) ≤ j := by omega
      clear h e
      go_enter Try.func63, Try.ntmps63
      go_wp2
      go_ret
      exact ⟨rfl, (by repeat (first | (with_reducible exact Below.refl _ _) | (with_reducible exact bl_mm) | (with_reducible refine bl_dr ?_) | (with_reducible refine bl_drN ?_ _) | (with_reducible refine bl_al ?_ _) | (with_reducible refine bl_more ?_ _ _)))⟩
    · have e : l.getD j 0 = 0 := by simp [List.getD, show l.length ≤ j by omega]
      rw [e]
      have hj0 : (0 : Int) ≤ j := by omega
      have hjn : (l.length : Int) ≤ j := by omega
      clear h e hj
      go_enter Try.func63, Try.ntmps63
      go_wp2
      go_ret
      exact ⟨rfl, (by repeat (first | (with_reducible exact Below.refl _ _) | (with_reducible exact bl_mm) | (with_reducible refine bl_dr ?_) | (with_reducible refine bl_drN ?_ _) | (with_reducible refine bl_al ?_ _) | (with_reducible refine bl_more ?_ _ _)))⟩
end Go.Proofs.Ytgpcgndmdkgbdaa

/- Stamps put, and taken. -/
namespace Go.Proofs.Ytgpcgndmdkgbdaa
open Go.RowKit

theorem rightS_parts {l : List Int} (h : rightS l = true) : 1 ≤ l.length ∧ l.length ≤ 64 ∧ ∀ x ∈ l, isN x = true := by
  unfold rightS at h
  rw [Bool.and_eq_true, Bool.and_eq_true, decide_eq_true_eq, decide_eq_true_eq] at h
  exact ⟨h.1.1, h.1.2, List.all_eq_true.1 h.2⟩
set_option maxHeartbeats 1000000 in
theorem sbytes_any {N : Nat} {w0 w : World} {v vl : Value} {g : Nat} {xs l : List Int} {K : Nat → Prop} (h : Mk byteE 5 N w0 w g v xs) (hr : intE.Row K w0 vl l) (hK : ∀ b, K b → b < N) (hn : rightS l = true) (hl : xs.length ≤ 1000000000) :
    Calls Try.prog 73 #[v, vl] w fun e w' => Put2R N w0 (xs ++ putsL l) e w' := by
  obtain ⟨h1, h2, h3⟩ := rightS_parts hn
  have HO := hid h
  have HR := hid hr
  have HKB := hid hK
  have HIN := hid h3
  have HLM : Hid (l.length ≤ 255) := hid (by omega)
  have HLL : Hid (l.length ≤ 4000000000) := hid (by omega)
  have HX := hid hl
  have HRS := hid hn
  obtain ⟨B, cb, rfl, _, _⟩ := hr.form
  obtain ⟨A, ca, rfl, _, _⟩ := h.sp.form
  clear h hr hK hn hl h1 h2 h3
  go_enter Try.func73, Try.ntmps73
  go_wp2_with (first | (go_at_call 90; refine (scheck_any (K := K) (HR.out.step (fun b hb _ => HO.out.low.block b (HKB.out b hb))) HLL.out).mono ?_; rintro e w1 ⟨rfl, hb1⟩; rw [HRS.out, if_pos rfl]; obtain ⟨ex1, dx1, rfl⟩ := more_of hb1; clear hb1) | (go_at_call 93; refine (puts_any (K := K) (HO.out.below (by repeat (first | (with_reducible exact Below.refl _ _) | (with_reducible exact bl_mm) | (with_reducible refine bl_dr ?_) | (with_reducible refine bl_drN ?_ _) | (with_reducible refine bl_al ?_ _) | (with_reducible refine bl_more ?_ _ _)))) HR.out HKB.out HIN.out HLM.out HX.out).mono ?_; rintro e w2 ⟨v2, g2, rfl, ho2⟩; have HO2 := hid ho2; clear ho2))
  go_ret2
  exact ⟨v2, g2, rfl, HO2.out⟩
def sreadW (bs : List Int) (a : Nat) : List Int × Int × Int := if (takesW bs a).2.2 = 0 then (if rightS (takesW bs a).1 = true then takesW bs a else ([], 0, 2)) else ([], 0, (takesW bs a).2.2)
theorem tkA_len (bs : List Int) : ∀ (k a : Nat) (out : List Int), (tkA bs k a out).1.length ≤ k + out.length := by
  intro k
  induction k with
  | zero => intro a out; simp [tkA]
  | succ k ih =>
    intro a out
    rw [tkA]
    split
    · have := ih (tkW bs a 0 6).2.1.toNat (out ++ [(tkW bs a 0 6).1])
      simp at this
      omega
    · simp
theorem takes_len (bs : List Int) (a : Nat) : (takesW bs a).1.length ≤ 255 := by
  unfold takesW
  split
  · split
    · simp
    · have := tkA_len bs (tkW bs a 0 6).1.toNat (tkW bs a 0 6).2.1.toNat []
      simp at this
      omega
  · simp
set_option maxHeartbeats 1000000 in
theorem sread_any {w : World} {v : Value} {a : Nat} {bs : List Int} {K : Nat → Prop} (h : byteE.Row K w v bs) (hbs : ∀ b ∈ bs, 0 ≤ b ∧ b < 256) (ha : a ≤ bs.length) (hl : bs.length ≤ 4000000000) : Calls Try.prog 88 #[v, .int .i64 a] w fun e w' => TakesR (sreadW bs a) w e w' := by
  obtain ⟨A, c, rfl, _, _⟩ := h.form
  have HR := hid h
  have HBS := hid hbs
  have HA := hid ha
  have HL := hid hl
  have hlen := takes_len bs a
  obtain ⟨l, p, E, ht⟩ : ∃ l p E, takesW bs a = (l, p, E) := ⟨_, _, _, rfl⟩
  have HT := hid ht
  rw [ht] at hlen
  have HLL : Hid (l.length ≤ 4000000000) := hid (by have : l.length ≤ 255 := hlen; omega)
  clear h hbs ha hl hlen
  by_cases hE : E = 0
  · subst hE
    cases hr : rightS l with
    | true =>
      have HE : Hid (sreadW bs a = (l, p, 0)) := hid (by unfold sreadW; rw [ht]; simp only [if_true]; rw [hr, if_pos rfl])
      have HRS : Hid ((if rightS l = true then (0 : Int) else 2) = 0) := hid (by rw [hr]; rfl)
      clear ht hr
      go_enter Try.func88, Try.ntmps88
      go_wp2_with (first | (go_at_call 100; refine (takes_any (K := K) HR.out HBS.out HA.out HL.out).mono ?_; rintro e w1 ⟨v1, g1, rfl, hm1⟩; rw [HT.out] at hm1 ⊢; obtain ⟨A1, c1, rfl, _, _⟩ := hm1.sp.form; have HM1 := hid hm1; clear hm1) | (go_at_call 90; refine (scheck_any (K := fun _ => True) (HM1.out.sp.row (fun _ h _ => h.elim) trivial) HLL.out).mono ?_; rintro e w2 ⟨rfl, hb2⟩; rw [HRS.out]; obtain ⟨ex2, dx2, rfl⟩ := more_of hb2; clear hb2))
      go_ret3
      unfold TakesR
      rw [HE.out]
      exact ⟨_, g1, rfl, HM1.out.below (by repeat (first | (with_reducible exact Below.refl _ _) | (with_reducible exact bl_mm) | (with_reducible refine bl_dr ?_) | (with_reducible refine bl_drN ?_ _) | (with_reducible refine bl_al ?_ _) | (with_reducible refine bl_more ?_ _ _)))⟩
    | false =>
      have HE : Hid (sreadW bs a = ([], 0, 2)) := hid (by unfold sreadW; rw [ht]; simp only [if_true]; rw [hr, if_neg Bool.false_ne_true])
      have HRS : Hid ((if rightS l = true then (0 : Int) else 2) = 2) := hid (by rw [hr]; rfl)
      clear ht hr
      go_enter Try.func88, Try.ntmps88
      go_wp2_with (first | (go_at_call 100; refine (takes_any (K := K) HR.out HBS.out HA.out HL.out).mono ?_; rintro e w1 ⟨v1, g1, rfl, hm1⟩; rw [HT.out] at hm1 ⊢; obtain ⟨A1, c1, rfl, _, _⟩ := hm1.sp.form; have HM1 := hid hm1; clear hm1) | (go_at_call 90; refine (scheck_any (K := fun _ => True) (HM1.out.sp.row (fun _ h _ => h.elim) trivial) HLL.out).mono ?_; rintro e w2 ⟨rfl, hb2⟩; rw [HRS.out]; obtain ⟨ex2, dx2, rfl⟩ := more_of hb2; clear hb2))
      go_ret3
      unfold TakesR
      rw [HE.out]
      exact ⟨.slice none 0 0, w.heap.size, rfl, Made.no _ _ (HM1.out.low.trans ((show Below w1.heap.size w1 _ from (by repeat (first | (with_reducible exact Below.refl _ _) | (with_reducible exact bl_mm) | (with_reducible refine bl_dr ?_) | (with_reducible refine bl_drN ?_ _) | (with_reducible refine bl_al ?_ _) | (with_reducible refine bl_more ?_ _ _)))).mono HM1.out.size))⟩
  · have HE : Hid (sreadW bs a = ([], 0, E)) := hid (by unfold sreadW; rw [ht]; simp only; rw [if_neg hE])
    have hE1 : (E != 0) = true := by simpa using hE
    clear ht hE
    go_enter Try.func88, Try.ntmps88
    go_wp2_with (first | (go_at_call 100; refine (takes_any (K := K) HR.out HBS.out HA.out HL.out).mono ?_; rintro e w1 ⟨v1, g1, rfl, hm1⟩; rw [HT.out] at hm1 ⊢; obtain ⟨A1, c1, rfl, _, _⟩ := hm1.sp.form; have HM1 := hid hm1; clear hm1))
    go_ret3
    unfold TakesR
    rw [HE.out]
    exact ⟨.slice none 0 0, w.heap.size, rfl, Made.no _ _ HM1.out.low⟩
end Go.Proofs.Ytgpcgndmdkgbdaa

/- What an event is of. -/
namespace Go.Proofs.Ytgpcgndmdkgbdaa
open Go.RowKit

/-- What an event is of: a step, a try to undo one, nothing. -/
def ofV (k i t : Int) : Value :=
  if 0 < i ∧ i < 64 ∧ (k = 1 ∨ k = 2 ∨ k = 3) ∧ t = 0 then .iface 125 (.agg #[.int .i64 i])
  else if 0 < i ∧ i < 64 ∧ (k = 4 ∨ k = 5 ∨ k = 6) ∧ 0 ≤ t ∧ t ≤ 3 then .iface 128 (.agg #[.int .i64 i, .int .i64 t])
  else .iface 151 (.agg #[])
abbrev evV (k i t : Int) (v : Value) : Value := .agg #[.int .i64 k, .int .i64 i, .int .i64 t, v]
set_option maxHeartbeats 4000000 in
theorem of_any {w : World} {k i t : Int} {v : Value} (hv : ∃ A n c, v = .slice A n c) : Calls Try.prog 71 #[evV k i t v] w fun e w' => e = .returned (ofV k i t) ∧ Below w.heap.size w w' := by
  obtain ⟨A, n, c, rfl⟩ := hv
  have hcs : k = 1 ∨ k = 2 ∨ k = 3 ∨ k = 4 ∨ k = 5 ∨ k = 6 ∨ (k ≠ 1 ∧ k ≠ 2 ∧ k ≠ 3 ∧ k ≠ 4 ∧ k ≠ 5 ∧ k ≠ 6) := by omega
  rcases hcs with rfl | rfl | rfl | rfl | rfl | rfl | hk
  · by_cases i1 : 0 < i
    · by_cases i2 : i < 64
      · cases t0 : (t == 0) with
        | true =>
          have ht : t = 0 := by simpa using t0
          have e : ofV 1 i t = .iface 125 (.agg #[.int .i64 i]) := by unfold ofV; rw [if_pos (by omega)]
          rw [e]
          clear e ht
          go_enter Try.func71, Try.ntmps71
          go_wp2
          go_ret
          exact ⟨rfl, (by repeat (first | (with_reducible exact Below.refl _ _) | (with_reducible exact bl_mm) | (with_reducible refine bl_dr ?_) | (with_reducible refine bl_drN ?_ _) | (with_reducible refine bl_al ?_ _) | (with_reducible refine bl_more ?_ _ _)))⟩
        | false =>
          have ht : t ≠ 0 := by simpa using t0
          have e : ofV 1 i t = .iface 151 (.agg #[]) := by unfold ofV; rw [if_neg (by omega), if_neg (by omega)]
          rw [e]
          clear e ht
          go_enter Try.func71, Try.ntmps71
          go_wp2
          go_ret
          exact ⟨rfl, (by repeat (first | (with_reducible exact Below.refl _ _) | (with_reducible exact bl_mm) | (with_reducible refine bl_dr ?_) | (with_reducible refine bl_drN ?_ _) | (with_reducible refine bl_al ?_ _) | (with_reducible refine bl_more ?_ _ _)))⟩
      · have hno : True := trivial
        have e : ofV 1 i t = .iface 151 (.agg #[]) := by unfold ofV; rw [if_neg (by omega), if_neg (by omega)]
        rw [e]
        clear e  hno
        go_enter Try.func71, Try.ntmps71
        go_wp2
        go_ret
        exact ⟨rfl, (by repeat (first | (with_reducible exact Below.refl _ _) | (with_reducible exact bl_mm) | (with_reducible refine bl_dr ?_) | (with_reducible refine bl_drN ?_ _) | (with_reducible refine bl_al ?_ _) | (with_reducible refine bl_more ?_ _ _)))⟩
    · have hno : True := trivial
      have e : ofV 1 i t = .iface 151 (.agg #[]) := by unfold ofV; rw [if_neg (by omega), if_neg (by omega)]
      rw [e]
      clear e  hno
      go_enter Try.func71, Try.ntmps71
      go_wp2
      go_ret
      exact ⟨rfl, (by repeat (first | (with_reducible exact Below.refl _ _) | (with_reducible exact bl_mm) | (with_reducible refine bl_dr ?_) | (with_reducible refine bl_drN ?_ _) | (with_reducible refine bl_al ?_ _) | (with_reducible refine bl_more ?_ _ _)))⟩
  · by_cases i1 : 0 < i
    · by_cases i2 : i < 64
      · cases t0 : (t == 0) with
        | true =>
          have ht : t = 0 := by simpa using t0
          have e : ofV 2 i t = .iface 125 (.agg #[.int .i64 i]) := by unfold ofV; rw [if_pos (by omega)]
          rw [e]
          clear e ht
          go_enter Try.func71, Try.ntmps71
          go_wp2
          go_ret
          exact ⟨rfl, (by repeat (first | (with_reducible exact Below.refl _ _) | (with_reducible exact bl_mm) | (with_reducible refine bl_dr ?_) | (with_reducible refine bl_drN ?_ _) | (with_reducible refine bl_al ?_ _) | (with_reducible refine bl_more ?_ _ _)))⟩
        | false =>
          have ht : t ≠ 0 := by simpa using t0
          have e : ofV 2 i t = .iface 151 (.agg #[]) := by unfold ofV; rw [if_neg (by omega), if_neg (by omega)]
          rw [e]
          clear e ht
          go_enter Try.func71, Try.ntmps71
          go_wp2
          go_ret
          exact ⟨rfl, (by repeat (first | (with_reducible exact Below.refl _ _) | (with_reducible exact bl_mm) | (with_reducible refine bl_dr ?_) | (with_reducible refine bl_drN ?_ _) | (with_reducible refine bl_al ?_ _) | (with_reducible refine bl_more ?_ _ _)))⟩
      · have hno : True := trivial
        have e : ofV 2 i t = .iface 151 (.agg #[]) := by unfold ofV; rw [if_neg (by omega), if_neg (by omega)]
        rw [e]
        clear e  hno
        go_enter Try.func71, Try.ntmps71
        go_wp2
        go_ret
        exact ⟨rfl, (by repeat (first | (with_reducible exact Below.refl _ _) | (with_reducible exact bl_mm) | (with_reducible refine bl_dr ?_) | (with_reducible refine bl_drN ?_ _) | (with_reducible refine bl_al ?_ _) | (with_reducible refine bl_more ?_ _ _)))⟩
    · have hno : True := trivial
      have e : ofV 2 i t = .iface 151 (.agg #[]) := by unfold ofV; rw [if_neg (by omega), if_neg (by omega)]
      rw [e]
      clear e  hno
      go_enter Try.func71, Try.ntmps71
      go_wp2
      go_ret
      exact ⟨rfl, (by repeat (first | (with_reducible exact Below.refl _ _) | (with_reducible exact bl_mm) | (with_reducible refine bl_dr ?_) | (with_reducible refine bl_drN ?_ _) | (with_reducible refine bl_al ?_ _) | (with_reducible refine bl_more ?_ _ _)))⟩
  · by_cases i1 : 0 < i
    · by_cases i2 : i < 64
      · cases t0 : (t == 0) with
        | true =>
          have ht : t = 0 := by simpa using t0
          have e : ofV 3 i t = .iface 125 (.agg #[.int .i64 i]) := by unfold ofV; rw [if_pos (by omega)]
          rw [e]
          clear e ht
          go_enter Try.func71, Try.ntmps71
          go_wp2
          go_ret
          exact ⟨rfl, (by repeat (first | (with_reducible exact Below.refl _ _) | (with_reducible exact bl_mm) | (with_reducible refine bl_dr ?_) | (with_reducible refine bl_drN ?_ _) | (with_reducible refine bl_al ?_ _) | (with_reducible refine bl_more ?_ _ _)))⟩
        | false =>
          have ht : t ≠ 0 := by simpa using t0
          have e : ofV 3 i t = .iface 151 (.agg #[]) := by unfold ofV; rw [if_neg (by omega), if_neg (by omega)]
          rw [e]
          clear e ht
          go_enter Try.func71, Try.ntmps71
          go_wp2
          go_ret
          exact ⟨rfl, (by repeat (first | (with_reducible exact Below.refl _ _) | (with_reducible exact bl_mm) | (with_reducible refine bl_dr ?_) | (with_reducible refine bl_drN ?_ _) | (with_reducible refine bl_al ?_ _) | (with_reducible refine bl_more ?_ _ _)))⟩
      · have hno : True := trivial
        have e : ofV 3 i t = .iface 151 (.agg #[]) := by unfold ofV; rw [if_neg (by omega), if_neg (by omega)]
        rw [e]
        clear e  hno
        go_enter Try.func71, Try.ntmps71
        go_wp2
        go_ret
        exact ⟨rfl, (by repeat (first | (with_reducible exact Below.refl _ _) | (with_reducible exact bl_mm) | (with_reducible refine bl_dr ?_) | (with_reducible refine bl_drN ?_ _) | (with_reducible refine bl_al ?_ _) | (with_reducible refine bl_more ?_ _ _)))⟩
    · have hno : True := trivial
      have e : ofV 3 i t = .iface 151 (.agg #[]) := by unfold ofV; rw [if_neg (by omega), if_neg (by omega)]
      rw [e]
      clear e  hno
      go_enter Try.func71, Try.ntmps71
      go_wp2
      go_ret
      exact ⟨rfl, (by repeat (first | (with_reducible exact Below.refl _ _) | (with_reducible exact bl_mm) | (with_reducible refine bl_dr ?_) | (with_reducible refine bl_drN ?_ _) | (with_reducible refine bl_al ?_ _) | (with_reducible refine bl_more ?_ _ _)))⟩
  · by_cases i1 : 0 < i
    · by_cases i2 : i < 64
      · by_cases t1 : 0 ≤ t
        · by_cases t2 : t ≤ 3
          · have t1' : decide (0 ≤ t) = true := decide_eq_true t1
            have t2' : decide (t ≤ 3) = true := decide_eq_true t2
            have e : ofV 4 i t = .iface 128 (.agg #[.int .i64 i, .int .i64 t]) := by unfold ofV; rw [if_neg (by omega), if_pos (by omega)]
            rw [e]
            clear e 
            go_enter Try.func71, Try.ntmps71
            go_wp2
            go_ret
            exact ⟨rfl, (by repeat (first | (with_reducible exact Below.refl _ _) | (with_reducible exact bl_mm) | (with_reducible refine bl_dr ?_) | (with_reducible refine bl_drN ?_ _) | (with_reducible refine bl_al ?_ _) | (with_reducible refine bl_more ?_ _ _)))⟩
          · have t1' : decide (0 ≤ t) = true := decide_eq_true t1
            have t2' : decide (t ≤ 3) = false := decide_eq_false t2
            have e : ofV 4 i t = .iface 151 (.agg #[]) := by unfold ofV; rw [if_neg (by omega), if_neg (by omega)]
            rw [e]
            clear e 
            go_enter Try.func71, Try.ntmps71
            go_wp2
            go_ret
            exact ⟨rfl, (by repeat (first | (with_reducible exact Below.refl _ _) | (with_reducible exact bl_mm) | (with_reducible refine bl_dr ?_) | (with_reducible refine bl_drN ?_ _) | (with_reducible refine bl_al ?_ _) | (with_reducible refine bl_more ?_ _ _)))⟩
        · have t1' : decide (0 ≤ t) = false := decide_eq_false t1
          have e : ofV 4 i t = .iface 151 (.agg #[]) := by unfold ofV; rw [if_neg (by omega), if_neg (by omega)]
          rw [e]
          clear e 
          go_enter Try.func71, Try.ntmps71
          go_wp2
          go_ret
          exact ⟨rfl, (by repeat (first | (with_reducible exact Below.refl _ _) | (with_reducible exact bl_mm) | (with_reducible refine bl_dr ?_) | (with_reducible refine bl_drN ?_ _) | (with_reducible refine bl_al ?_ _) | (with_reducible refine bl_more ?_ _ _)))⟩
      · have hno : True := trivial
        have e : ofV 4 i t = .iface 151 (.agg #[]) := by unfold ofV; rw [if_neg (by omega), if_neg (by omega)]
        rw [e]
        clear e  hno
        go_enter Try.func71, Try.ntmps71
        go_wp2
        go_ret
        exact ⟨rfl, (by repeat (first | (with_reducible exact Below.refl _ _) | (with_reducible exact bl_mm) | (with_reducible refine bl_dr ?_) | (with_reducible refine bl_drN ?_ _) | (with_reducible refine bl_al ?_ _) | (with_reducible refine bl_more ?_ _ _)))⟩
    · have hno : True := trivial
      have e : ofV 4 i t = .iface 151 (.agg #[]) := by unfold ofV; rw [if_neg (by omega), if_neg (by omega)]
      rw [e]
      clear e  hno
      go_enter Try.func71, Try.ntmps71
      go_wp2
      go_ret
      exact ⟨rfl, (by repeat (first | (with_reducible exact Below.refl _ _) | (with_reducible exact bl_mm) | (with_reducible refine bl_dr ?_) | (with_reducible refine bl_drN ?_ _) | (with_reducible refine bl_al ?_ _) | (with_reducible refine bl_more ?_ _ _)))⟩
  · by_cases i1 : 0 < i
    · by_cases i2 : i < 64
      · by_cases t1 : 0 ≤ t
        · by_cases t2 : t ≤ 3
          · have t1' : decide (0 ≤ t) = true := decide_eq_true t1
            have t2' : decide (t ≤ 3) = true := decide_eq_true t2
            have e : ofV 5 i t = .iface 128 (.agg #[.int .i64 i, .int .i64 t]) := by unfold ofV; rw [if_neg (by omega), if_pos (by omega)]
            rw [e]
            clear e 
            go_enter Try.func71, Try.ntmps71
            go_wp2
            go_ret
            exact ⟨rfl, (by repeat (first | (with_reducible exact Below.refl _ _) | (with_reducible exact bl_mm) | (with_reducible refine bl_dr ?_) | (with_reducible refine bl_drN ?_ _) | (with_reducible refine bl_al ?_ _) | (with_reducible refine bl_more ?_ _ _)))⟩
          · have t1' : decide (0 ≤ t) = true := decide_eq_true t1
            have t2' : decide (t ≤ 3) = false := decide_eq_false t2
            have e : ofV 5 i t = .iface 151 (.agg #[]) := by unfold ofV; rw [if_neg (by omega), if_neg (by omega)]
            rw [e]
            clear e 
            go_enter Try.func71, Try.ntmps71
            go_wp2
            go_ret
            exact ⟨rfl, (by repeat (first | (with_reducible exact Below.refl _ _) | (with_reducible exact bl_mm) | (with_reducible refine bl_dr ?_) | (with_reducible refine bl_drN ?_ _) | (with_reducible refine bl_al ?_ _) | (with_reducible refine bl_more ?_ _ _)))⟩
        · have t1' : decide (0 ≤ t) = false := decide_eq_false t1
          have e : ofV 5 i t = .iface 151 (.agg #[]) := by unfold ofV; rw [if_neg (by omega), if_neg (by omega)]
          rw [e]
          clear e 
          go_enter Try.func71, Try.ntmps71
          go_wp2
          go_ret
          exact ⟨rfl, (by repeat (first | (with_reducible exact Below.refl _ _) | (with_reducible exact bl_mm) | (with_reducible refine bl_dr ?_) | (with_reducible refine bl_drN ?_ _) | (with_reducible refine bl_al ?_ _) | (with_reducible refine bl_more ?_ _ _)))⟩
      · have hno : True := trivial
        have e : ofV 5 i t = .iface 151 (.agg #[]) := by unfold ofV; rw [if_neg (by omega), if_neg (by omega)]
        rw [e]
        clear e  hno
        go_enter Try.func71, Try.ntmps71
        go_wp2
        go_ret
        exact ⟨rfl, (by repeat (first | (with_reducible exact Below.refl _ _) | (with_reducible exact bl_mm) | (with_reducible refine bl_dr ?_) | (with_reducible refine bl_drN ?_ _) | (with_reducible refine bl_al ?_ _) | (with_reducible refine bl_more ?_ _ _)))⟩
    · have hno : True := trivial
      have e : ofV 5 i t = .iface 151 (.agg #[]) := by unfold ofV; rw [if_neg (by omega), if_neg (by omega)]
      rw [e]
      clear e  hno
      go_enter Try.func71, Try.ntmps71
      go_wp2
      go_ret
      exact ⟨rfl, (by repeat (first | (with_reducible exact Below.refl _ _) | (with_reducible exact bl_mm) | (with_reducible refine bl_dr ?_) | (with_reducible refine bl_drN ?_ _) | (with_reducible refine bl_al ?_ _) | (with_reducible refine bl_more ?_ _ _)))⟩
  · by_cases i1 : 0 < i
    · by_cases i2 : i < 64
      · by_cases t1 : 0 ≤ t
        · by_cases t2 : t ≤ 3
          · have t1' : decide (0 ≤ t) = true := decide_eq_true t1
            have t2' : decide (t ≤ 3) = true := decide_eq_true t2
            have e : ofV 6 i t = .iface 128 (.agg #[.int .i64 i, .int .i64 t]) := by unfold ofV; rw [if_neg (by omega), if_pos (by omega)]
            rw [e]
            clear e 
            go_enter Try.func71, Try.ntmps71
            go_wp2
            go_ret
            exact ⟨rfl, (by repeat (first | (with_reducible exact Below.refl _ _) | (with_reducible exact bl_mm) | (with_reducible refine bl_dr ?_) | (with_reducible refine bl_drN ?_ _) | (with_reducible refine bl_al ?_ _) | (with_reducible refine bl_more ?_ _ _)))⟩
          · have t1' : decide (0 ≤ t) = true := decide_eq_true t1
            have t2' : decide (t ≤ 3) = false := decide_eq_false t2
            have e : ofV 6 i t = .iface 151 (.agg #[]) := by unfold ofV; rw [if_neg (by omega), if_neg (by omega)]
            rw [e]
            clear e 
            go_enter Try.func71, Try.ntmps71
            go_wp2
            go_ret
            exact ⟨rfl, (by repeat (first | (with_reducible exact Below.refl _ _) | (with_reducible exact bl_mm) | (with_reducible refine bl_dr ?_) | (with_reducible refine bl_drN ?_ _) | (with_reducible refine bl_al ?_ _) | (with_reducible refine bl_more ?_ _ _)))⟩
        · have t1' : decide (0 ≤ t) = false := decide_eq_false t1
          have e : ofV 6 i t = .iface 151 (.agg #[]) := by unfold ofV; rw [if_neg (by omega), if_neg (by omega)]
          rw [e]
          clear e 
          go_enter Try.func71, Try.ntmps71
          go_wp2
          go_ret
          exact ⟨rfl, (by repeat (first | (with_reducible exact Below.refl _ _) | (with_reducible exact bl_mm) | (with_reducible refine bl_dr ?_) | (with_reducible refine bl_drN ?_ _) | (with_reducible refine bl_al ?_ _) | (with_reducible refine bl_more ?_ _ _)))⟩
      · have hno : True := trivial
        have e : ofV 6 i t = .iface 151 (.agg #[]) := by unfold ofV; rw [if_neg (by omega), if_neg (by omega)]
        rw [e]
        clear e  hno
        go_enter Try.func71, Try.ntmps71
        go_wp2
        go_ret
        exact ⟨rfl, (by repeat (first | (with_reducible exact Below.refl _ _) | (with_reducible exact bl_mm) | (with_reducible refine bl_dr ?_) | (with_reducible refine bl_drN ?_ _) | (with_reducible refine bl_al ?_ _) | (with_reducible refine bl_more ?_ _ _)))⟩
    · have hno : True := trivial
      have e : ofV 6 i t = .iface 151 (.agg #[]) := by unfold ofV; rw [if_neg (by omega), if_neg (by omega)]
      rw [e]
      clear e  hno
      go_enter Try.func71, Try.ntmps71
      go_wp2
      go_ret
      exact ⟨rfl, (by repeat (first | (with_reducible exact Below.refl _ _) | (with_reducible exact bl_mm) | (with_reducible refine bl_dr ?_) | (with_reducible refine bl_drN ?_ _) | (with_reducible refine bl_al ?_ _) | (with_reducible refine bl_more ?_ _ _)))⟩
  · obtain ⟨q1, q2, q3, q4, q5, q6⟩ := hk
    have p1 : (k == 1) = false := by simpa using q1
    have p2 : (k == 2) = false := by simpa using q2
    have p3 : (k == 3) = false := by simpa using q3
    have p4 : (k == 4) = false := by simpa using q4
    have p5 : (k == 5) = false := by simpa using q5
    have p6 : (k == 6) = false := by simpa using q6
    by_cases i1 : 0 < i
    · by_cases i2 : i < 64
      · have hno : True := trivial
        have e : ofV k i t = .iface 151 (.agg #[]) := by unfold ofV; rw [if_neg (by omega), if_neg (by omega)]
        rw [e]
        clear e q1 q2 q3 q4 q5 q6 hno
        go_enter Try.func71, Try.ntmps71
        go_wp2
        go_ret
        exact ⟨rfl, (by repeat (first | (with_reducible exact Below.refl _ _) | (with_reducible exact bl_mm) | (with_reducible refine bl_dr ?_) | (with_reducible refine bl_drN ?_ _) | (with_reducible refine bl_al ?_ _) | (with_reducible refine bl_more ?_ _ _)))⟩
      · have hno : True := trivial
        have e : ofV k i t = .iface 151 (.agg #[]) := by unfold ofV; rw [if_neg (by omega), if_neg (by omega)]
        rw [e]
        clear e q1 q2 q3 q4 q5 q6 hno
        go_enter Try.func71, Try.ntmps71
        go_wp2
        go_ret
        exact ⟨rfl, (by repeat (first | (with_reducible exact Below.refl _ _) | (with_reducible exact bl_mm) | (with_reducible refine bl_dr ?_) | (with_reducible refine bl_drN ?_ _) | (with_reducible refine bl_al ?_ _) | (with_reducible refine bl_more ?_ _ _)))⟩
    · have hno : True := trivial
      have e : ofV k i t = .iface 151 (.agg #[]) := by unfold ofV; rw [if_neg (by omega), if_neg (by omega)]
      rw [e]
      clear e q1 q2 q3 q4 q5 q6 hno
      go_enter Try.func71, Try.ntmps71
      go_wp2
      go_ret
      exact ⟨rfl, (by repeat (first | (with_reducible exact Below.refl _ _) | (with_reducible exact bl_mm) | (with_reducible refine bl_dr ?_) | (with_reducible refine bl_drN ?_ _) | (with_reducible refine bl_al ?_ _) | (with_reducible refine bl_more ?_ _ _)))⟩
end Go.Proofs.Ytgpcgndmdkgbdaa

/- Events checked, and put. -/
namespace Go.Proofs.Ytgpcgndmdkgbdaa
open Go.RowKit

def rightI (k i t : Int) : Bool := (decide (0 < i) && decide (i < 64)) && (((decide (k = 1) || decide (k = 2) || decide (k = 3)) && decide (t = 0)) || ((decide (k = 4) || decide (k = 5) || decide (k = 6)) && decide (0 ≤ t) && decide (t ≤ 3)))
/-- Is an event right? -/
def rightE (k i t : Int) (st : List Int) : Bool := rightI k i t && rightS st
theorem of_cases (k i t : Int) : (rightI k i t = true ∧ k ≤ 3 ∧ 1 ≤ k ∧ 0 < i ∧ i < 64 ∧ t = 0 ∧ ofV k i t = .iface 125 (.agg #[.int .i64 i])) ∨ (rightI k i t = true ∧ 3 < k ∧ k ≤ 6 ∧ 0 < i ∧ i < 64 ∧ 0 ≤ t ∧ t ≤ 3 ∧ ofV k i t = .iface 128 (.agg #[.int .i64 i, .int .i64 t])) ∨ (rightI k i t = false ∧ ofV k i t = .iface 151 (.agg #[])) := by
  unfold ofV
  by_cases h1 : 0 < i ∧ i < 64 ∧ (k = 1 ∨ k = 2 ∨ k = 3) ∧ t = 0
  · left
    rw [if_pos h1]
    refine ⟨?_, by omega, by omega, h1.1, h1.2.1, h1.2.2.2, rfl⟩
    unfold rightI
    simp only [Bool.and_eq_true, Bool.or_eq_true, decide_eq_true_eq]
    omega
  · right
    rw [if_neg h1]
    by_cases h2 : 0 < i ∧ i < 64 ∧ (k = 4 ∨ k = 5 ∨ k = 6) ∧ 0 ≤ t ∧ t ≤ 3
    · left
      rw [if_pos h2]
      refine ⟨?_, by omega, by omega, h2.1, h2.2.1, h2.2.2.2.1, h2.2.2.2.2, rfl⟩
      unfold rightI
      simp only [Bool.and_eq_true, Bool.or_eq_true, decide_eq_true_eq]
      omega
    · right
      rw [if_neg h2]
      refine ⟨?_, rfl⟩
      cases hr : rightI k i t with
      | false => rfl
      | true =>
        unfold rightI at hr
        simp only [Bool.and_eq_true, Bool.or_eq_true, decide_eq_true_eq] at hr
        omega
@[go_sem] theorem as125_125 (v : Value) (w : World) : (Instr.typeAssert (.iface 125 v) 122 125 true).run Try.prog w = .ok (.tuple #[v, .bool true]) w := by kernel_rfl
@[go_sem] theorem as125_128 (v : Value) (w : World) : (Instr.typeAssert (.iface 125 v) 122 128 true).run Try.prog w = .ok (.tuple #[.agg #[.int .i64 0, .int .i64 0], .bool false]) w := by kernel_rfl
@[go_sem] theorem as125_151 (v : Value) (w : World) : (Instr.typeAssert (.iface 125 v) 122 151 true).run Try.prog w = .ok (.tuple #[.agg #[], .bool false]) w := by kernel_rfl
@[go_sem] theorem as128_125 (v : Value) (w : World) : (Instr.typeAssert (.iface 128 v) 122 125 true).run Try.prog w = .ok (.tuple #[.agg #[.int .i64 0], .bool false]) w := by kernel_rfl
@[go_sem] theorem as128_128 (v : Value) (w : World) : (Instr.typeAssert (.iface 128 v) 122 128 true).run Try.prog w = .ok (.tuple #[v, .bool true]) w := by kernel_rfl
@[go_sem] theorem as128_151 (v : Value) (w : World) : (Instr.typeAssert (.iface 128 v) 122 151 true).run Try.prog w = .ok (.tuple #[.agg #[], .bool false]) w := by kernel_rfl
@[go_sem] theorem as151_125 (v : Value) (w : World) : (Instr.typeAssert (.iface 151 v) 122 125 true).run Try.prog w = .ok (.tuple #[.agg #[.int .i64 0], .bool false]) w := by kernel_rfl
@[go_sem] theorem as151_128 (v : Value) (w : World) : (Instr.typeAssert (.iface 151 v) 122 128 true).run Try.prog w = .ok (.tuple #[.agg #[.int .i64 0, .int .i64 0], .bool false]) w := by kernel_rfl
@[go_sem] theorem as151_151 (v : Value) (w : World) : (Instr.typeAssert (.iface 151 v) 122 151 true).run Try.prog w = .ok (.tuple #[v, .bool true]) w := by kernel_rfl
set_option maxRecDepth 10000 in
set_option maxHeartbeats 4000000 in
theorem echeck_any {w : World} {k i t : Int} {v : Value} {st : List Int} {K : Nat → Prop} (h : intE.Row K w v st) (hl : st.length ≤ 4000000000) : Calls Try.prog 70 #[evV k i t v] w fun e w' => e = .returned (.int .i64 (if rightE k i t st = true then 0 else 2)) ∧ Below w.heap.size w w' := by
  obtain ⟨A, c, rfl, _, _⟩ := h.form
  have HR := hid h
  have HLL := hid hl
  clear h hl
  rcases of_cases k i t with ⟨hr, -, -, -, -, -, hv⟩ | ⟨hr, -, -, -, -, -, -, hv⟩ | ⟨hr, hv⟩
  · have HV := hid hv
    have he : rightE k i t st = rightS st := by unfold rightE; rw [hr, Bool.true_and]
    rw [he]
    cases hs : rightS st with
    | true =>
      have HRS : Hid ((if rightS st = true then (0 : Int) else 2) = 0) := hid (by rw [hs]; rfl)
      rw [if_pos rfl]
      clear hr hv he hs
      go_enter Try.func70, Try.ntmps70
      go_wp2_with (first | (go_at_call 71; refine (of_any ⟨_, _, _, rfl⟩).mono ?_; rintro e w1 ⟨rfl, hb1⟩; rw [HV.out]; obtain ⟨ex1, dx1, rfl⟩ := more_of hb1; clear hb1) | (go_at_call 90; refine (scheck_any (K := K) (HR.out.below (by repeat (first | (with_reducible exact Below.refl _ _) | (with_reducible exact bl_mm) | (with_reducible refine bl_dr ?_) | (with_reducible refine bl_drN ?_ _) | (with_reducible refine bl_al ?_ _) | (with_reducible refine bl_more ?_ _ _)))) HLL.out).mono ?_; rintro e w2 ⟨rfl, hb2⟩; rw [HRS.out]; obtain ⟨ex2, dx2, rfl⟩ := more_of hb2; clear hb2))
      go_ret
      exact ⟨rfl, (by repeat (first | (with_reducible exact Below.refl _ _) | (with_reducible exact bl_mm) | (with_reducible refine bl_dr ?_) | (with_reducible refine bl_drN ?_ _) | (with_reducible refine bl_al ?_ _) | (with_reducible refine bl_more ?_ _ _)))⟩
    | false =>
      have HRS : Hid ((if rightS st = true then (0 : Int) else 2) = 2) := hid (by rw [hs]; rfl)
      rw [if_neg Bool.false_ne_true]
      clear hr hv he hs
      go_enter Try.func70, Try.ntmps70
      go_wp2_with (first | (go_at_call 71; refine (of_any ⟨_, _, _, rfl⟩).mono ?_; rintro e w1 ⟨rfl, hb1⟩; rw [HV.out]; obtain ⟨ex1, dx1, rfl⟩ := more_of hb1; clear hb1) | (go_at_call 90; refine (scheck_any (K := K) (HR.out.below (by repeat (first | (with_reducible exact Below.refl _ _) | (with_reducible exact bl_mm) | (with_reducible refine bl_dr ?_) | (with_reducible refine bl_drN ?_ _) | (with_reducible refine bl_al ?_ _) | (with_reducible refine bl_more ?_ _ _)))) HLL.out).mono ?_; rintro e w2 ⟨rfl, hb2⟩; rw [HRS.out]; obtain ⟨ex2, dx2, rfl⟩ := more_of hb2; clear hb2))
      go_ret
      exact ⟨rfl, (by repeat (first | (with_reducible exact Below.refl _ _) | (with_reducible exact bl_mm) | (with_reducible refine bl_dr ?_) | (with_reducible refine bl_drN ?_ _) | (with_reducible refine bl_al ?_ _) | (with_reducible refine bl_more ?_ _ _)))⟩
  · have HV := hid hv
    have he : rightE k i t st = rightS st := by unfold rightE; rw [hr, Bool.true_and]
    rw [he]
    cases hs : rightS st with
    | true =>
      have HRS : Hid ((if rightS st = true then (0 : Int) else 2) = 0) := hid (by rw [hs]; rfl)
      rw [if_pos rfl]
      clear hr hv he hs
      go_enter Try.func70, Try.ntmps70
      go_wp2_with (first | (go_at_call 71; refine (of_any ⟨_, _, _, rfl⟩).mono ?_; rintro e w1 ⟨rfl, hb1⟩; rw [HV.out]; obtain ⟨ex1, dx1, rfl⟩ := more_of hb1; clear hb1) | (go_at_call 90; refine (scheck_any (K := K) (HR.out.below (by repeat (first | (with_reducible exact Below.refl _ _) | (with_reducible exact bl_mm) | (with_reducible refine bl_dr ?_) | (with_reducible refine bl_drN ?_ _) | (with_reducible refine bl_al ?_ _) | (with_reducible refine bl_more ?_ _ _)))) HLL.out).mono ?_; rintro e w2 ⟨rfl, hb2⟩; rw [HRS.out]; obtain ⟨ex2, dx2, rfl⟩ := more_of hb2; clear hb2))
      go_ret
      exact ⟨rfl, (by repeat (first | (with_reducible exact Below.refl _ _) | (with_reducible exact bl_mm) | (with_reducible refine bl_dr ?_) | (with_reducible refine bl_drN ?_ _) | (with_reducible refine bl_al ?_ _) | (with_reducible refine bl_more ?_ _ _)))⟩
    | false =>
      have HRS : Hid ((if rightS st = true then (0 : Int) else 2) = 2) := hid (by rw [hs]; rfl)
      rw [if_neg Bool.false_ne_true]
      clear hr hv he hs
      go_enter Try.func70, Try.ntmps70
      go_wp2_with (first | (go_at_call 71; refine (of_any ⟨_, _, _, rfl⟩).mono ?_; rintro e w1 ⟨rfl, hb1⟩; rw [HV.out]; obtain ⟨ex1, dx1, rfl⟩ := more_of hb1; clear hb1) | (go_at_call 90; refine (scheck_any (K := K) (HR.out.below (by repeat (first | (with_reducible exact Below.refl _ _) | (with_reducible exact bl_mm) | (with_reducible refine bl_dr ?_) | (with_reducible refine bl_drN ?_ _) | (with_reducible refine bl_al ?_ _) | (with_reducible refine bl_more ?_ _ _)))) HLL.out).mono ?_; rintro e w2 ⟨rfl, hb2⟩; rw [HRS.out]; obtain ⟨ex2, dx2, rfl⟩ := more_of hb2; clear hb2))
      go_ret
      exact ⟨rfl, (by repeat (first | (with_reducible exact Below.refl _ _) | (with_reducible exact bl_mm) | (with_reducible refine bl_dr ?_) | (with_reducible refine bl_drN ?_ _) | (with_reducible refine bl_al ?_ _) | (with_reducible refine bl_more ?_ _ _)))⟩
  · have HV := hid hv
    have he : rightE k i t st = false := by unfold rightE; rw [hr, Bool.false_and]
    rw [he, if_neg Bool.false_ne_true]
    clear hr hv he
    go_enter Try.func70, Try.ntmps70
    go_wp2_with (first | (go_at_call 71; refine (of_any ⟨_, _, _, rfl⟩).mono ?_; rintro e w1 ⟨rfl, hb1⟩; rw [HV.out]; obtain ⟨ex1, dx1, rfl⟩ := more_of hb1; clear hb1))
    go_ret
    exact ⟨rfl, (by repeat (first | (with_reducible exact Below.refl _ _) | (with_reducible exact bl_mm) | (with_reducible refine bl_dr ?_) | (with_reducible refine bl_drN ?_ _) | (with_reducible refine bl_al ?_ _) | (with_reducible refine bl_more ?_ _ _)))⟩
end Go.Proofs.Ytgpcgndmdkgbdaa
