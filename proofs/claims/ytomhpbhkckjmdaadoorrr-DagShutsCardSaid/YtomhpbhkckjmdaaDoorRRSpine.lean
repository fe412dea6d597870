/- A row that may be appended to: its block is the owner's. -/
import Derived.Test.YtomhpbhkckjmdaaDoorRRLib
namespace Go.Proofs.YtomhpbhkckjmdaaDoorRR
open Go.RowKit

theorem wpList_append_run {P : Program} {w w' : World} {ops : Array Oper} {rest : List Oper} {o : Oper} {a : Act} {Q : Exit → Act → World → Prop} {v' : Value}
    (hg : o.guard = none) (s x : Operand) (t t' : TypeId) (hop : o.op = Op.call { callee := Callee.builtin Builtin.append, args := #[s, x], argTypes := #[t, t'] })
    (hrun : (Builtin.append_ #[t, t'] o.type #[a.eval s, a.eval x]).run P w = .ok v' w')
    (h : wpList P ops Q rest (a.put o.dst v') w') : wpList P ops Q (o :: rest) a w := by
  refine wpList_plain hg fun K hK' => ?_
  unfold Oper.wp
  simp [execOp, hop, resolve, invoke, builtin, hrun, Result.andThen]
  exact hK' _ _ h

def capOf : Value → Nat | .slice _ _ c => c | _ => 0
/-- Where a row lies behind an append. -/
def Grew (g : Nat) (w w' : World) (v v' : Value) (g' : Nat) : Prop := (g' = g ∧ w'.heap.size = w.heap.size ∧ capOf v' = capOf v) ∨ (g' = w.heap.size ∧ w'.heap.size = w.heap.size + 1)
theorem Grew.two {g : Nat} {w w' : World} {v v' : Value} {g' : Nat} (h : Grew g w w' v v' g') : (g' = g ∧ w'.heap.size = w.heap.size) ∨ (g' = w.heap.size ∧ w'.heap.size = w.heap.size + 1) := h.imp (fun h => ⟨h.1, h.2.1⟩) id
namespace Enc
def Spine {α : Type} (d : Enc α) (E : TypeId) (K : Nat → Prop) (g : Nat) (w : World) (v : Value) (xs : List α) : Prop :=
  ∃ A c, v = .slice A xs.length c ∧ xs.length ≤ c ∧ c ≤ maxLen ∧
    (c ≠ 0 → ∃ off cur cs, A = some ⟨g, off, none⟩ ∧ w.heap[g]? = some (.cells cur E (0, 0)) ∧ off + c * d.sz ≤ cur.size ∧ d.Flat K w xs cs ∧ ∀ j u, cs[j]? = some u → cur[off + j]? = some u)

theorem Spine.type {α : Type} {d : Enc α} {E : TypeId} {K : Nat → Prop} {g : Nat} {w : World} {v : Value} {xs : List α} (h : d.Spine E K g w v xs) (hc : capOf v ≠ 0) : ∃ cur, w.heap[g]? = some (.cells cur E (0, 0)) := by
  obtain ⟨A, c, rfl, h2, h3, h4⟩ := h
  obtain ⟨off, cur, cs, _, hg, _⟩ := h4 hc
  exact ⟨cur, hg⟩
theorem Spine.nil {α : Type} (d : Enc α) (E : TypeId) (K : Nat → Prop) (g : Nat) (w : World) : d.Spine E K g w (.slice none 0 0) [] :=
  ⟨none, 0, rfl, Nat.le_refl _, Nat.zero_le _, fun h => absurd rfl h⟩
theorem Spine.bare {α : Type} (d : Enc α) (E : TypeId) (K : Nat → Prop) (g : Nat) (w : World) (A : Option Addr) : d.Spine E K g w (.slice A 0 0) [] :=
  ⟨A, 0, rfl, Nat.le_refl _, Nat.zero_le _, fun h => absurd rfl h⟩

theorem Spine.form {α : Type} {d : Enc α} {E : TypeId} {K : Nat → Prop} {g : Nat} {w : World} {v : Value} {xs : List α} (h : d.Spine E K g w v xs) :
    ∃ A c, v = .slice A xs.length c ∧ xs.length ≤ c ∧ c ≤ maxLen := by
  obtain ⟨A, c, h1, h2, h3, _⟩ := h
  exact ⟨A, c, h1, h2, h3⟩
theorem Spine.lt {α : Type} {d : Enc α} {E : TypeId} {K : Nat → Prop} {g : Nat} {w : World} {v : Value} {xs : List α} (h : d.Spine E K g w v xs) (hx : xs ≠ []) : g < w.heap.size := by
  obtain ⟨A, c, _, h2, _, h4⟩ := h
  have : c ≠ 0 := fun h0 => hx (List.eq_nil_of_length_eq_zero (by omega))
  obtain ⟨off, cur, cs, _, hg, _⟩ := h4 this
  exact (Array.getElem?_eq_some_iff.1 hg).1

theorem cell_of_cur {w : World} {g off : Nat} {cur : Array Value} {E : TypeId} (hg : w.heap[g]? = some (.cells cur E (0, 0))) {j : Nat} {u : Value} (hj : cur[off + j]? = some u) :
    w.cell? ⟨g, off + j, none⟩ = some u := by simp [World.cell?, hg, hj]

/-- A spine is read as any row (where its block is let in). -/
theorem Spine.row {α : Type} {d : Enc α} {E : TypeId} {K K' : Nat → Prop} {g : Nat} {w : World} {v : Value} {xs : List α} (h : d.Spine E K g w v xs) (hk : ∀ b, K b → b < w.heap.size → K' b) (hg : K' g) : d.Row K' w v xs := by
  obtain ⟨A, c, rfl, h2, h3, h4⟩ := h
  refine ⟨A, c, rfl, h2, h3, fun hx => ?_⟩
  have : c ≠ 0 := fun h0 => hx (List.eq_nil_of_length_eq_zero (by omega))
  obtain ⟨off, cur, cs, rfl, hb, hle, hf, hc⟩ := h4 this
  exact ⟨g, off, rfl, hg, (Array.getElem?_eq_some_iff.1 hb).1, (hf.mono hk).at_ (fun j u hj => cell_of_cur hb (hc j u hj))⟩

/-- A spine over worlds in which its block and what its elements lead to lie as they lay. -/
theorem Spine.step {α : Type} {d : Enc α} {E : TypeId} {K K' : Nat → Prop} {g : Nat} {w w' : World} {v : Value} {xs : List α} (h : d.Spine E K g w v xs)
    (hg : ∀ cur, w.heap[g]? = some (.cells cur E (0, 0)) → w'.heap[g]? = some (.cells cur E (0, 0))) (hk : ∀ b, K b → b < w.heap.size → K' b ∧ w'.heap[b]? = w.heap[b]?) : d.Spine E K' g w' v xs := by
  obtain ⟨A, c, rfl, h2, h3, h4⟩ := h
  refine ⟨A, c, rfl, h2, h3, fun hc0 => ?_⟩
  obtain ⟨off, cur, cs, rfl, hb, hle, hf, hc⟩ := h4 hc0
  exact ⟨off, cur, cs, rfl, hg cur hb, hle, (hf.mono (fun b hb hl => show K' b ∧ w'.heap[b]? = w.heap[b]? from hk b hb hl)).step (fun b hb _ => hb.2) |>.mono (fun b hb _ => hb.1), hc⟩

theorem Spine.stepC {α : Type} {d : Enc α} {E : TypeId} {K : Nat → Prop} {g : Nat} {w w' : World} {v : Value} {xs : List α} (h : d.Spine E K g w v xs) (hs : w.heap.size ≤ w'.heap.size)
    (hg : isC w g → w'.heap[g]? = w.heap[g]?) (hk : ∀ b, K b → isC w b → w'.heap[b]? = w.heap[b]?) : d.Spine E K g w' v xs := by
  obtain ⟨A, c, rfl, h2, h3, h4⟩ := h
  refine ⟨A, c, rfl, h2, h3, fun hc0 => ?_⟩
  obtain ⟨off, cur, cs, rfl, hb, hle, hf, hc⟩ := h4 hc0
  exact ⟨off, cur, cs, rfl, (hg ⟨_, _, _, hb⟩).trans hb, hle, hf.stepC hs hk, hc⟩
theorem Spine.mono {α : Type} {d : Enc α} {E : TypeId} {K K' : Nat → Prop} {g : Nat} {w : World} {v : Value} {xs : List α} (h : d.Spine E K g w v xs) (hk : ∀ b, K b → b < w.heap.size → K' b) : d.Spine E K' g w v xs :=
  h.step (fun _ hc => hc) (fun b hb hl => ⟨hk b hb hl, rfl⟩)

/-- The first of it. -/
theorem Spine.take {α : Type} {d : Enc α} {E : TypeId} {K : Nat → Prop} {g : Nat} {w : World} {A : Option Addr} {n c : Nat} {xs : List α} (h : d.Spine E K g w (.slice A n c) xs) (i c' : Nat) (hi : i ≤ xs.length) (hic : i ≤ c') (hc' : c' ≤ c) :
    d.Spine E K g w (.slice A i c') (xs.take i) := by
  obtain ⟨A', c1, he, h2, h3, h4⟩ := h
  obtain ⟨rfl, rfl, rfl⟩ := Value.slice.inj he
  refine ⟨A, c', by rw [List.length_take, Nat.min_eq_left hi], by rw [List.length_take]; omega, by omega, fun hc0 => ?_⟩
  obtain ⟨off, cur, cs, rfl, hb, hle, hf, hc⟩ := h4 (by omega)
  refine ⟨off, cur, cs.take (i * d.sz), rfl, hb, by have := Nat.mul_le_mul_right d.sz hc'; omega, ⟨?_, fun u hu => hf.2.1 u (List.mem_of_mem_take hu), fun k hk => ?_⟩, fun j u hj => ?_⟩
  · rw [List.length_take, List.length_take, Nat.min_eq_left hi, hf.1]
    exact Nat.min_eq_left (Nat.mul_le_mul_right _ hi)
  · rw [List.length_take] at hk
    have hk1 : k < i := by omega
    have := hf.2.2 k (by omega)
    rw [List.getElem_take]
    have hle2 : k * d.sz + d.sz ≤ i * d.sz := by rw [← Nat.succ_mul]; exact Nat.mul_le_mul_right _ hk1
    rw [List.drop_take, List.take_take, Nat.min_eq_left (by omega)]
    exact this
  · rw [List.getElem?_take] at hj
    split at hj
    · exact hc j u hj
    · cases hj

/-- Cells to be read: wherever they lie; what they lead to lies in K. -/
def Src {α : Type} (d : Enc α) (K : Nat → Prop) (w : World) (v : Value) (xs : List α) : Prop :=
  ∃ A c, v = .slice A xs.length c ∧ xs.length ≤ c ∧ c ≤ maxLen ∧ (xs ≠ [] → ∃ b off, A = some ⟨b, off, none⟩ ∧ d.At K w b off xs)
theorem Row.src {α : Type} {d : Enc α} {K : Nat → Prop} {w : World} {v : Value} {xs : List α} (h : d.Row K w v xs) : d.Src K w v xs := by
  obtain ⟨A, c, rfl, h1, h2, h3⟩ := h
  exact ⟨A, c, rfl, h1, h2, fun hx => by obtain ⟨b, off, e, _, _, ha⟩ := h3 hx; exact ⟨b, off, e, ha⟩⟩
theorem At.drop {α : Type} {d : Enc α} {K : Nat → Prop} {w : World} {b off : Nat} {xs : List α} (h : d.At K w b off xs) (i : Nat) : d.At K w b (off + i * d.sz) (xs.drop i) := by
  intro j hj
  rw [List.length_drop] at hj
  obtain ⟨cs, h1, h2⟩ := h (i + j) (by omega)
  refine ⟨cs, by rw [List.getElem_drop]; exact h1, fun k u hk => ?_⟩
  have := h2 k u hk
  rwa [Nat.add_mul, ← Nat.add_assoc] at this
theorem Spine.at_ {α : Type} {d : Enc α} {E : TypeId} {K : Nat → Prop} {g : Nat} {w : World} {A : Option Addr} {n c : Nat} {xs : List α} (h : d.Spine E K g w (.slice A n c) xs) (hc : c ≠ 0) : ∃ off, A = some ⟨g, off, none⟩ ∧ d.At K w g off xs := by
  obtain ⟨A', c1, he, h2, h3, h4⟩ := h
  obtain ⟨rfl, rfl, rfl⟩ := Value.slice.inj he
  obtain ⟨off, cur, cs, rfl, hb, hle, hf, hcc⟩ := h4 hc
  exact ⟨off, rfl, hf.at_ (fun j u hj => cell_of_cur hb (hcc j u hj))⟩
theorem Spine.drop_src {α : Type} {d : Enc α} {E : TypeId} {K : Nat → Prop} {g : Nat} {w : World} {A A' : Option Addr} {n c : Nat} {xs : List α} (h : d.Spine E K g w (.slice A n c) xs) (i : Nat) (hi : i ≤ xs.length) (hA : c ≠ i → A' = A.map (·.add (i * d.sz))) :
    d.Src K w (.slice A' (n - i) (c - i)) (xs.drop i) := by
  have hn : n = xs.length ∧ n ≤ c ∧ c ≤ maxLen := by
    obtain ⟨A', c1, he, h2, h3, h4⟩ := h
    obtain ⟨rfl, rfl, rfl⟩ := Value.slice.inj he
    exact ⟨rfl, h2, h3⟩
  obtain ⟨rfl, h2, h3⟩ := hn
  refine ⟨A', c - i, by rw [List.length_drop], by rw [List.length_drop]; omega, by omega, fun hx => ?_⟩
  have hlt : i < xs.length := by
    rcases Nat.lt_or_ge i xs.length with h | h
    · exact h
    · exact absurd (List.drop_eq_nil_of_le h) hx
  obtain ⟨off, rfl, ha⟩ := h.at_ (by omega)
  refine ⟨g, off + i * d.sz, ?_, ha.drop i⟩
  rw [hA (by omega)]
  simp [Addr.add_lit]

theorem getElem?_set_range (cur : Array Value) (k : Nat) (news : List Value) (hfit : k + news.length ≤ cur.size) (j : Nat) :
    (cur.toList.take k ++ news ++ cur.toList.drop (k + news.length)).toArray[j]? = if j < k then cur[j]? else if j < k + news.length then news[j - k]? else cur[j]? := by
  have hl : (cur.toList.take k).length = k := by rw [List.length_take, Array.length_toList]; omega
  rw [List.getElem?_toArray]
  split
  · rename_i h
    rw [List.append_assoc, List.getElem?_append_left (by omega), List.getElem?_take, if_pos h, Array.getElem?_toList]
  · rename_i h
    split
    · rename_i h2
      rw [List.getElem?_append_left (by rw [List.length_append, hl]; exact h2), List.getElem?_append_right (by omega), hl]
    · rename_i h2
      rw [List.getElem?_append_right (by rw [List.length_append, hl]; omega), List.length_append, hl, List.getElem?_drop, Array.getElem?_toList]
      congr 1; omega

theorem run_append_grow_any {P : Program} {w : World} (t t' ty e : TypeId) (i : TypeInfo) (z : Value) (ht : P.underlying t = some (.slice e)) {E' : TypeId} (ht' : P.underlying t' = some (.slice E')) (hi : P.info? e = some i) (hz : i.zero = some z)
    (A : Option Addr) (n c : Nat) (olds : List Value) (B : Option Addr) (m cy : Nat) (news : List Value)
    (ho : (Builtin.firstCells i.size n (.slice A n c)).run P w.drew = .ok olds.toArray w.drew) (hn : (Builtin.firstCells i.size m (.slice B m cy)).run P w.drew = .ok news.toArray w.drew)
    (hg : c < n + m) (h63 : ((n + m : Nat) : Int) ≤ 9223372036854775807) (hfit : Builtin.nextslicecap (n + m) c * i.bytes ≤ 281474976710656) :
    (Builtin.append_ #[t, t'] ty #[.slice A n c, .slice B m cy]).run P w =
      .ok (.slice (some ⟨w.heap.size, 0, none⟩) (n + m) (grownCap w (n + m) c e))
        (w.drew.alloc (.cells (olds.toArray ++ news.toArray ++ Builtin.zeroCells z.cells (grownCap w (n + m) c e - (n + m))) e)) := by
  have hn1 : ¬ (n + m ≤ c) := by omega
  have h63' : ¬ (9223372036854775807 < ((n : Int) + (m : Int))) := by omega
  have h48' : ¬ (281474976710656 < Builtin.nextslicecap (n + m) c * i.bytes) := by omega
  simp [Builtin.append_, run_underlying ht, run_underlying ht', sizeOf, typeInfo, zeroValue, hi, hz, Builtin.lenOf, hn1, h63', h48', Question.forced, ho, hn, newRow, grownCap]
  congr 2
  apply Array.ext'
  simp

/-- append, onto a spine. -/
theorem Spine.append {P : Program} {α : Type} {d : Enc α} {E : TypeId} {K : Nat → Prop} {g : Nat} {w : World} {v : Value} {xs : List α} (h : d.Spine E K g w v xs)
    (t t' ty : TypeId) (i : TypeInfo) (z : Value) (ht : P.underlying t = some (.slice E)) (ht' : ∃ E', P.underlying t' = some (.slice E')) (hi : P.info? E = some i) (hz : i.zero = some z) (hsize : i.size = d.sz) (hzs : z.cells.size = d.sz) (_hpos : 0 < d.sz)
    {x : Value} {ys : List α} (hy : d.Src K w x ys) (hKg : ∀ b, K b → b < w.heap.size → b ≠ g) (hlen : xs.length + ys.length ≤ 4294967296) (hby : i.bytes ≤ 32768) :
    ∃ v' w' g', (Builtin.append_ #[t, t'] ty #[v, x]).run P w = .ok v' w' ∧ d.Spine E (fun b => K b ∧ b < w.heap.size) g' w' v' (xs ++ ys) ∧ Ext (fun b => b = g ∧ capOf v ≠ 0) w w' ∧ Grew g w w' v v' g' := by
  obtain ⟨E', ht'⟩ := ht'
  obtain ⟨A, c, rfl, h2, h3, h4⟩ := h
  obtain ⟨B, cy, rfl, k2, k3, k4⟩ := hy
  have hbytes : (xs.length + ys.length) * i.bytes ≤ 140737488355328 := Nat.le_trans (Nat.mul_le_mul hlen hby) (by decide)
  -- the cells that are read
  obtain ⟨news, hnf, hnr⟩ : ∃ news, d.Flat K w ys news ∧ ∀ m, (Builtin.firstCells d.sz ys.length (.slice B ys.length cy)).run P (w.drewN m) = .ok news.toArray (w.drewN m) := by
    by_cases hys : ys = []
    · subst hys
      refine ⟨[], Flat.nil d K w, fun m => ?_⟩
      cases B <;> simp [Builtin.firstCells, loadCells, loadCellsFrom]
    · obtain ⟨b, off, rfl, ha⟩ := k4 hys
      obtain ⟨cs, hf, hc⟩ := ha.flat
      exact ⟨cs, hf, fun m => run_firstCells_some (w.drewN m) d.sz ys.length ⟨b, off, none⟩ ys.length cy cs hf.1 (fun j u hj => by rw [Addr.add_lit]; exact hc j u hj)⟩
  have hnl := hnf.1
  by_cases hroom : xs.length + ys.length ≤ c
  · -- within the capacity
    by_cases hc0 : c = 0
    · have hx0 : xs = [] := List.eq_nil_of_length_eq_zero (by omega)
      have hy0 : ys = [] := List.eq_nil_of_length_eq_zero (by omega)
      subst hx0; subst hy0; subst hc0
      have : news = [] := List.eq_nil_of_length_eq_zero (by simpa using hnl)
      subst this
      refine ⟨.slice A 0 0, w, g, ?_, Spine.bare d E _ g w A, Ext.refl _ _, .inl ⟨rfl, rfl, rfl⟩⟩
      have hnr' : (Builtin.firstCells i.size 0 (.slice B 0 cy)).run P w = .ok #[] w := by rw [hsize]; exact hnr 0
      cases A <;> simp [Builtin.append_, run_underlying ht, run_underlying ht', sizeOf, typeInfo, hi, Builtin.lenOf, hnr', storeCells]
    · obtain ⟨off, cur, cs, rfl, hb, hle, hf, hc⟩ := h4 hc0
      have hfit : off + xs.length * d.sz + news.length ≤ cur.size := by
        rw [hnl, Nat.add_assoc, ← Nat.add_mul]
        have := Nat.mul_le_mul_right d.sz hroom
        omega
      have hst := run_storeCells_at P g (off + xs.length * d.sz) E news 0 cur w hb (by simpa using hfit) hnf.2.1
      simp only [Nat.add_zero] at hst
      refine ⟨.slice (some ⟨g, off, none⟩) (xs.length + ys.length) c, w.setRow g (cur.toList.take (off + xs.length * d.sz) ++ news ++ cur.toList.drop (off + xs.length * d.sz + news.length)).toArray, g, ?_, ?_, ?_, .inl ⟨rfl, by simp [World.setRow], rfl⟩⟩
      · have hnr0 : (Builtin.firstCells d.sz ys.length (.slice B ys.length cy)).run P w = .ok news.toArray w := hnr 0
        simp [Builtin.append_, run_underlying ht, run_underlying ht', sizeOf, typeInfo, hi, Builtin.lenOf, hroom, hnr0, Addr.add_lit, hst, hsize]
      · have hgl : g < w.heap.size := (Array.getElem?_eq_some_iff.1 hb).1
        have hrow : (w.setRow g (cur.toList.take (off + xs.length * d.sz) ++ news ++ cur.toList.drop (off + xs.length * d.sz + news.length)).toArray).heap[g]? = some (.cells (cur.toList.take (off + xs.length * d.sz) ++ news ++ cur.toList.drop (off + xs.length * d.sz + news.length)).toArray E (0, 0)) := by
          exact setRow_heap w g cur _ E (0, 0) hb
        have hoth : ∀ b, K b → b < w.heap.size → (w.setRow g (cur.toList.take (off + xs.length * d.sz) ++ news ++ cur.toList.drop (off + xs.length * d.sz + news.length)).toArray).heap[b]? = w.heap[b]? := by
          intro b hKb hbl
          have := hKg b hKb hbl
          simp only [World.setRow, Array.getElem?_modify]
          rw [if_neg (by omega)]
        refine ⟨_, c, by rw [List.length_append], by rw [List.length_append]; exact hroom, h3, fun _ => ⟨off, _, cs ++ news, rfl, hrow, ?_, ?_, ?_⟩⟩
        · simp only [List.size_toArray, List.length_append, List.length_take, List.length_drop, Array.length_toList]; omega
        · exact ((hf.append hnf).mono (fun b hb hl => ⟨hb, hl⟩)).step (fun b hb _ => hoth b hb.1 hb.2)
        · intro j u hj
          rw [getElem?_set_range _ _ _ hfit]
          by_cases hj1 : j < cs.length
          · rw [List.getElem?_append_left hj1] at hj
            rw [if_pos (by rw [← hf.1]; omega)]
            exact hc j u hj
          · rw [List.getElem?_append_right (by omega)] at hj
            have hj2 : j - cs.length < news.length := (List.getElem?_eq_some_iff.1 hj).1
            rw [if_neg (by rw [← hf.1]; omega), if_pos (by rw [← hf.1]; omega), ← hj, ← hf.1]
            congr 1; omega
      · refine ⟨rfl, rfl, rfl, by simp [World.setRow], fun k hk hn => ?_⟩
        simp only [World.setRow, Array.getElem?_modify]
        rw [if_neg (fun e => hn ⟨e.symm, hc0⟩)]
  · -- a new block
    obtain ⟨olds, hof, hor⟩ : ∃ olds, d.Flat K w xs olds ∧ (Builtin.firstCells d.sz xs.length (.slice A xs.length c)).run P w.drew = .ok olds.toArray w.drew := by
      by_cases hc0 : c = 0
      · have hx0 : xs = [] := List.eq_nil_of_length_eq_zero (by omega)
        subst hx0
        refine ⟨[], Flat.nil d K w, ?_⟩
        cases A <;> simp [Builtin.firstCells, loadCells, loadCellsFrom]
      · obtain ⟨off, cur, cs, rfl, hb, hle, hf, hc⟩ := h4 hc0
        exact ⟨cs, hf, run_firstCells_some w.drew d.sz xs.length ⟨g, off, none⟩ xs.length c cs hf.1 (fun j u hj => by rw [Addr.add_lit]; exact cell_of_cur hb (hc j u hj))⟩
    have hol := hof.1
    let cap := grownCap w (xs.length + ys.length) c E
    have hge : xs.length + ys.length ≤ cap := grownCap_ge w (xs.length + ys.length) c E
    have hcm : cap ≤ maxLen := grownCap_le_maxLen w (xs.length + ys.length) c E (by simp only [maxLen]; omega)
    have hfits := growslice_fits (Nat.lt_of_not_le hroom) hbytes
    refine ⟨.slice (some ⟨w.heap.size, 0, none⟩) (xs.length + ys.length) cap, w.drew.alloc (.cells (olds.toArray ++ news.toArray ++ Builtin.zeroCells z.cells (cap - (xs.length + ys.length))) E), w.heap.size, ?_, ?_, ?_, .inr ⟨rfl, by simp⟩⟩
    · exact run_append_grow_any (P := P) (w := w) t t' ty E i z ht ht' hi hz A xs.length c olds B ys.length cy news (by rw [hsize]; exact hor) (by rw [hsize]; exact hnr 1) (Nat.lt_of_not_le hroom) (by omega) hfits
    · have hnew : (w.drew.alloc (.cells (olds.toArray ++ news.toArray ++ Builtin.zeroCells z.cells (cap - (xs.length + ys.length))) E)).heap[w.heap.size]? = some (.cells (olds.toArray ++ news.toArray ++ Builtin.zeroCells z.cells (cap - (xs.length + ys.length))) E (0, 0)) := heap_alloc_new w.drew _
      refine ⟨_, cap, by rw [List.length_append], by rw [List.length_append]; exact hge, hcm, fun _ => ⟨0, _, olds ++ news, rfl, hnew, ?_, ?_, ?_⟩⟩
      · simp only [Array.size_append, List.size_toArray, size_zeroCells, hzs, hol, hnl, Nat.zero_add, ← Nat.add_mul]
        exact Nat.le_of_eq (by congr 1; omega)
      · exact ((hof.append hnf).mono (fun b hb hl => ⟨hb, hl⟩)).step (fun b hb _ => Below.heap_alloc w.drew _ b hb.2)
      · intro j u hj
        have hjl := (List.getElem?_eq_some_iff.1 hj).1
        rw [Nat.zero_add, Array.getElem?_append_left (by simpa using hjl)]
        simpa using hj
    · exact ⟨rfl, rfl, rfl, by simp, fun k hk _ => Below.heap_alloc w.drew _ k hk⟩
theorem run_append_none {P : Program} {w : World} (t t' ty e : TypeId) (i : TypeInfo) (ht : P.underlying t = some (.slice e)) {E' : TypeId} (ht' : P.underlying t' = some (.slice E')) (hi : P.info? e = some i) (A : Option Addr) (n c : Nat) (hle : n ≤ c) (B : Option Addr) (cy : Nat) :
    (Builtin.append_ #[t, t'] ty #[.slice A n c, .slice B 0 cy]).run P w = .ok (.slice A n c) w := by
  have hf : (Builtin.firstCells i.size 0 (.slice B 0 cy)).run P w = .ok #[] w := by cases B <;> simp [Builtin.firstCells, loadCells, loadCellsFrom]
  cases A <;> simp [Builtin.append_, run_underlying ht, run_underlying ht', sizeOf, typeInfo, hi, Builtin.lenOf, hle, hf, storeCells]

theorem Src.mono {α : Type} {e : Enc α} {K K' : Nat → Prop} {w : World} {v : Value} {xs : List α} (h : e.Src K w v xs) (hk : ∀ b, K b → b < w.heap.size → K' b) : e.Src K' w v xs := by
  obtain ⟨A, c, rfl, h1, h2, h3⟩ := h
  exact ⟨A, c, rfl, h1, h2, fun hx => by obtain ⟨b, off, e, ha⟩ := h3 hx; exact ⟨b, off, e, ha.mono hk⟩⟩
theorem Spine.empty {α : Type} {e : Enc α} {E : TypeId} {K K' : Nat → Prop} {g g' : Nat} {w w' : World} {v : Value} {xs : List α} (h : e.Spine E K g w v xs) (hc : capOf v = 0) : e.Spine E K' g' w' v xs := by
  obtain ⟨A, c, rfl, h1, h2, _⟩ := h
  exact ⟨A, c, rfl, h1, h2, fun h => absurd hc h⟩

/-- A row that a function builds: its blocks lie from hi on; its own block may lie below lo while nothing was appended. -/
structure Out {α : Type} (d : Enc α) (E : TypeId) (lo hi g : Nat) (w : World) (v : Value) (xs : List α) : Prop where
  sp : d.Spine E (fun b => hi ≤ b ∧ b ≠ g) g w v xs
  lt : g < w.heap.size
  off : g < lo ∨ hi ≤ g
  cap : capOf v ≠ 0 → hi ≤ g
theorem Out.start {α : Type} (d : Enc α) (E : TypeId) {lo hi g : Nat} {w : World} (hl : lo ≤ w.heap.size) (hg : g < lo) : d.Out E lo hi g w (.slice none 0 0) [] :=
  ⟨Spine.nil _ _ _ _ _, by omega, .inl hg, fun h => absurd rfl h⟩
theorem Out.step {α : Type} {d : Enc α} {E : TypeId} {lo hi g : Nat} {w w' : World} {v : Value} {xs : List α} (h : d.Out E lo hi g w v xs) (hb : ∀ b, hi ≤ b → b < w.heap.size → w'.heap[b]? = w.heap[b]?) (hs : w.heap.size ≤ w'.heap.size) : d.Out E lo hi g w' v xs := by
  refine ⟨?_, by have := h.lt; omega, h.off, h.cap⟩
  by_cases hc : capOf v = 0
  · exact h.sp.empty hc
  · exact h.sp.step (fun cur hcur => (hb g (h.cap hc) h.lt).trans hcur) (fun b hk hl => ⟨hk, hb b hk.1 hl⟩)
theorem Out.below {α : Type} {d : Enc α} {E : TypeId} {lo hi g : Nat} {w w' : World} {v : Value} {xs : List α} (h : d.Out E lo hi g w v xs) (hb : Below w.heap.size w w') : d.Out E lo hi g w' v xs :=
  h.step (fun b _ hl => hb.block b hl) hb.size
theorem Out.next {α : Type} {d : Enc α} {E : TypeId} {lo hi g g2 : Nat} {w w2 : World} {v v2 : Value} {xs zs : List α} (h : d.Out E lo hi g w v xs) (hs : d.Spine E (fun b => (hi ≤ b ∧ b ≠ g) ∧ b < w.heap.size) g2 w2 v2 zs)
    (hg : Grew g w w2 v v2 g2) (hi' : hi ≤ w.heap.size) : d.Out E lo hi g2 w2 v2 zs := by
  have hl := h.lt
  rcases hg with ⟨rfl, h2, h3⟩ | ⟨rfl, h2⟩
  · exact ⟨hs.mono (fun b hb _ => hb.1), by omega, h.off, fun hc => h.cap (by rwa [h3] at hc)⟩
  · exact ⟨hs.mono (fun b hb _ => ⟨hb.1.1, by omega⟩), by omega, .inr hi', fun _ => hi'⟩
theorem Out.row {α : Type} {d : Enc α} {E : TypeId} {lo hi g : Nat} {w : World} {v : Value} {xs : List α} (h : d.Out E lo hi g w v xs) : d.Row (fun b => hi ≤ b) w v xs := by
  by_cases hc : capOf v = 0
  · obtain ⟨A, c, rfl, h1, h2, _⟩ := h.sp
    have hc' : c = 0 := hc
    exact ⟨A, c, rfl, h1, h2, fun hx => absurd (List.eq_nil_of_length_eq_zero (by omega)) hx⟩
  · exact h.sp.row (fun b hb _ => hb.1) (h.cap hc)
end Enc
end Go.Proofs.YtomhpbhkckjmdaaDoorRR
