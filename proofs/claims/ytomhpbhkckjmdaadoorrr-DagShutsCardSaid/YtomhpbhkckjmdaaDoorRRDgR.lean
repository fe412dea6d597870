/- The arcs sorted. -/
import Derived.Test.YtomhpbhkckjmdaaDoorRRDgO
import Derived.Test.YtomhpbhkckjmdaaDoorRRShelf
namespace Go.Proofs.YtomhpbhkckjmdaaDoorRR
open Go.RowKit Go.Shelf Go.Lib Go.Sort

abbrev FA := Fin 64 × Fin 64
def encA (x : FA) : List Value := [.int .i64 (x.1.val : Int), .int .i64 (x.2.val : Int)]
def toA (x : FA) : Int × Int := ((x.1.val : Int), (x.2.val : Int))
def cfA (x y : FA) : Int := (x.1.val : Int) * 64 + (x.2.val : Int) - (y.1.val : Int) * 64 - (y.2.val : Int)
def keyI (a : Int × Int) : Int := a.1 * 64 + a.2
def sortA (xs : Arcs) : Arcs := xs.mergeSort (fun a b => decide (keyI a ≤ keyI b))
set_option maxHeartbeats 1000000 in
theorem cmp_any (x y : FA) (W : World) : Calls Tryd.prog 27 #[.agg (encA x).toArray, .agg (encA y).toArray] W fun e w' => e = .returned (.int .i64 (cfA x y)) ∧ ∃ q os', w' = grow (W.drewN q) os' := by
  obtain ⟨⟨a, ha⟩, ⟨b, hb⟩⟩ := x
  obtain ⟨⟨c, hc⟩, ⟨d, hd⟩⟩ := y
  unfold cfA encA
  simp only []
  have a0 : (0 : Int) ≤ a := by omega
  have b0 : (0 : Int) ≤ b := by omega
  have c0 : (0 : Int) ≤ c := by omega
  have d0 : (0 : Int) ≤ d := by omega
  have a1 : (a : Int) < 64 := by omega
  have b1 : (b : Int) < 64 := by omega
  have c1 : (c : Int) < 64 := by omega
  have d1 : (d : Int) < 64 := by omega
  clear ha hb hc hd
  go_enter Tryd.func27, Tryd.ntmps27
  go_wp2
  go_ret
  exact ⟨rfl, 0, _, by rw [alloc_eq_grow, alloc_eq_grow, grow_grow]; rfl⟩
theorem cmp_lays (blk off size : Nat) (w : World) : CmpLays Tryd.prog 27 #[] encA 2 cfA blk off size w := fun _ _ _ _ x y => cmp_any x y _
theorem swoA : SWO (ltOf cfA) where
  irrefl x := by unfold ltOf cfA; simp; omega
  trans x y z h1 h2 := by
    unfold ltOf cfA at *
    simp only [decide_eq_true_eq] at *
    omega
  ntrans x y z h1 h2 := by
    unfold ltOf cfA at *
    simp only [decide_eq_false_iff_not] at *
    omega
theorem totA (x y : FA) (h1 : ltOf cfA x y = false) (h2 : ltOf cfA y x = false) : x = y := by
  unfold ltOf cfA at *
  simp only [decide_eq_false_iff_not] at *
  have := x.2.isLt
  have := y.2.isLt
  refine Prod.ext (Fin.ext ?_) (Fin.ext ?_) <;> omega
theorem fin_of : ∀ (xs : Arcs), (∀ a ∈ xs, okArc 64 a) → ∃ ds : List FA, xs = ds.map toA
  | [], _ => ⟨[], rfl⟩
  | a :: xs, h => by
    obtain ⟨ds, rfl⟩ := fin_of xs (fun b hb => h b (List.mem_cons_of_mem _ hb))
    obtain ⟨h1, h2, h3, h4⟩ := h a (List.mem_cons_self ..)
    refine ⟨(⟨a.1.toNat, by omega⟩, ⟨a.2.toNat, by omega⟩) :: ds, ?_⟩
    rw [List.map_cons]
    congr 1
    unfold toA
    exact Prod.ext (by simp; omega) (by simp; omega)
theorem sort_map (ds : List FA) : (ds.mergeSort (fun x y => !ltOf cfA y x)).map toA = sortA (ds.map toA) := by
  unfold sortA
  refine List.map_mergeSort (fun a _ b _ => ?_)
  unfold ltOf cfA keyI toA
  rw [Bool.eq_iff_iff]
  simp
  omega
theorem ext_sortWorld {α : Type} [Inhabited α] (enc : α → List Value) (k : Nat) (w : World) (blk off n : Nat) (d : Array α) (os : Array Obj) : Ext (fun b => b = blk) w (sortWorldK enc k w blk off n d os) := by
  refine ⟨rfl, rfl, rfl, ?_, fun b hb hn => ?_⟩
  · simp [sortWorldK, grow, putRowK, putRow, mapBlock, ahead]
  · simp only [sortWorldK, grow, putRowK, putRow, mapBlock]
    rw [Array.getElem?_append_left (by simpa [ahead] using hb), Array.getElem?_modify, if_neg (fun e => hn e.symm)]
    rfl
theorem sort_any {W : World} {K : Nat → Prop} {g : Nat} {v : Value} {xs : Arcs} (hs : arcE.Spine 46 K g W v xs) (hr : ∀ a ∈ xs, okArc 64 a) (hl : xs.length ≤ 100000) :
    Calls Tryd.prog 26 #[v, .func (.func 27) #[] #[]] W fun e w' => e = .returned (.tuple #[]) ∧ Ext (fun b => b = g ∧ capOf v ≠ 0) W w' ∧ arcE.Row (fun b => b = g ∧ capOf v ≠ 0) w' v (sortA xs) := by
  have hrow := hs
  obtain ⟨A, c, rfl, h2, h3, h4⟩ := hs
  by_cases hx : xs = []
  · subst hx
    have hcon := AnyF.slices_SortFunc_none Tryd.sortA A c (.func (.func 27) #[] #[]) W
    refine Calls.mono hcon ?_
    rintro e w' ⟨rfl, rfl⟩
    refine ⟨rfl, Ext.refl _ _, ?_⟩
    have e : sortA [] = [] := by simp [sortA]
    rw [e]
    exact ⟨A, c, rfl, h2, h3, fun h => absurd rfl h⟩
  · have hpos : 0 < xs.length := List.length_pos_iff.2 hx
    obtain ⟨off, cur, cs, rfl, hb, hfit, hf, hcs⟩ := h4 (by omega)
    obtain ⟨ds, rfl⟩ := fin_of xs hr
    rw [List.length_map] at hpos hl h2 ⊢
    have hat := (hrow.at_ (by omega))
    obtain ⟨off', he', hat⟩ := hat
    cases he'
    have hcell : ∀ i (hi : i < ds.length), W.cell? ⟨g, off + i * 2, none⟩ = some (.int .i64 (ds[i].1.val : Int)) ∧ W.cell? ⟨g, off + i * 2 + 1, none⟩ = some (.int .i64 (ds[i].2.val : Int)) := by
      intro i hi
      obtain ⟨cs', h5, h6⟩ := hat i (by simpa using hi)
      have h5 := arcE_open h5
      subst h5
      rw [List.getElem_map] at h6
      exact ⟨h6 0 _ rfl, h6 1 _ rfl⟩
    have hH : HoldsK encA 2 W g off ds.toArray := by
      intro t ht
      have ht' : t < ds.length * 2 := by simpa using ht
      refine ⟨?_, frz_blk hb _⟩
      rw [get_flatK _ _ _ _ (by simpa using ht')]
      have hi : t / 2 < ds.length := by omega
      obtain ⟨h5, h6⟩ := hcell (t / 2) hi
      have e1 : ds.toArray[t / 2]! = ds[t / 2] := by rw [getElem!_pos ds.toArray (t / 2) (by simpa using hi)]; simp
      rw [e1]
      rcases Nat.mod_two_eq_zero_or_one t with hm | hm
      · rw [hm, show off + t = off + t / 2 * 2 by omega, h5]; rfl
      · rw [hm, show off + t = off + t / 2 * 2 + 1 by omega, h6]; rfl
    have eg : ∀ args w, (callFunc 27 args).run Tryd.prog w = .ok (.enter 27 args) w := enters_of Tryd.func27 (by kernel_rfl) rfl
    have hcon := AnyQ.slices_SortFunc_total Tryd.sortA 2 Tryd.isAgg46 Tryd.sizeOf46 encA (fun _ => rfl) (fun x v hv => by simp [encA] at hv; rcases hv with rfl | rfl <;> rfl) cfA swoA 27 #[] g off c ds.toArray W eg (cmp_lays g off _ W) hH (Array.getElem?_eq_some_iff.1 hb).1 (by simp; omega) totA
    change Calls Tryd.prog 26 _ _ _ at hcon
    rw [List.size_toArray] at hcon
    refine hcon.mono ?_
    rintro e w' ⟨rfl, n, os, rfl⟩
    have he := ext_sortWorld encA 2 W g off n (ds.toArray.toList.mergeSort fun x y => !(ltOf cfA) y x).toArray os
    refine ⟨rfl, he.mono (fun x _ h => ⟨h, by show c ≠ 0; omega⟩), ?_⟩
    have hgl := (Array.getElem?_eq_some_iff.1 hb).1
    rw [← sort_map]
    obtain ⟨es, hes⟩ : ∃ es, ds.mergeSort (fun x y => !ltOf cfA y x) = es := ⟨_, rfl⟩
    have hel : es.length = ds.length := by rw [← hes]; exact List.length_mergeSort ds
    have hH' : HoldsK encA 2 (sortWorldK encA 2 W g off n es.toArray os) g off es.toArray := by
      unfold sortWorldK
      refine holdsK_grow _ _ _ _ _ _ _ (by simpa [putRowK, putRow, mapBlock, ahead] using hgl) (holdsK_putRowK _ _ _ _ _ ds.toArray _ (holdsK_ahead _ _ _ _ _ _ _ hH) (by simp [hel]))
    simp only [hes]
    refine ⟨some ⟨g, off, none⟩, c, by rw [List.length_map, hel], by rw [List.length_map, hel]; exact h2, h3, fun _ => ⟨g, off, rfl, ⟨rfl, by show c ≠ 0; omega⟩, ?_, fun i hi => ?_⟩⟩
    · exact Nat.lt_of_lt_of_le hgl (ext_sortWorld encA 2 W g off n es.toArray os).size
    · rw [List.length_map] at hi
      refine ⟨encA es[i], ?_, fun j u hj => ?_⟩
      · rw [List.getElem_map]
        exact ⟨[_], [_], rfl, rfl, rfl⟩
      · have hj2 : j < 2 := get_len hj
        have h7 := (hH' (i * 2 + j) (by simp; omega)).1
        rw [get_flatK _ _ _ _ (by simp; omega)] at h7
        have e2 : (i * 2 + j) / 2 = i := by omega
        have e3 : (i * 2 + j) % 2 = j := by omega
        rw [e2, e3] at h7
        have e1 : es.toArray[i]! = es[i] := by rw [getElem!_pos es.toArray i (by simpa using hi)]; simp
        rw [e1] at h7
        show _ = some u
        have e4 : (encA es[i])[j]! = u := by
          rw [List.getElem!_eq_getElem?_getD, hj]; rfl
        rw [e4] at h7
        have h8 : arcE.sz = 2 := rfl
        rw [h8, Nat.add_assoc]
        exact h7
end Go.Proofs.YtomhpbhkckjmdaaDoorRR
