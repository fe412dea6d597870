/- A call of both: dropping, pushing. -/
import Derived.Test.YtfadoejoanffoaaDqV
import Derived.Test.YtfadoejoanffoaaDqS
namespace Go.Proofs.Ytfadoejoanffoaa
open Go.RowKit

theorem wpList_app30 {w : World} {ops : Array Oper} {rest : List Oper} {o : Oper} {a : Act} {Q : Exit → Act → World → Prop} {K : Nat → Prop} {g : Nat} {xs ys : List Int} {v x : Value}
    (hg : o.guard = none) (s x' : Operand) (hop : o.op = Op.call { callee := Callee.builtin Builtin.append, args := #[s, x'], argTypes := #[30, 30] }) (hty : o.type = 30)
    (hv : a.eval s = v) (hx : a.eval x' = x) (hs : intE.Spine 3 K g w v xs) (hy : intE.Src K w x ys) (hKg : ∀ b, K b → b < w.heap.size → b ≠ g) (hlen : xs.length + ys.length ≤ 4294967296)
    (h : ∀ v' w' g', intE.Spine 3 (fun b => K b ∧ b < w.heap.size) g' w' v' (xs ++ ys) → Ext (fun b => b = g ∧ capOf v ≠ 0) w w' → Grew g w w' v v' g' → wpList Try.prog ops Q rest (a.put o.dst v') w') :
    wpList Try.prog ops Q (o :: rest) a w := by
  subst hv; subst hx
  obtain ⟨v', w', g', hrun, h1, h2, h3⟩ := app30 hs hy hKg hlen
  exact wpList_append_run hg s x' 30 30 hop (by rw [hty]; exact hrun) (h v' w' g' h1 h2 h3)
theorem Kt_or {d g n b : Nat} (hd : d < n) (hg : g < n) (h : Kt d g b ∨ n ≤ b) : Kt d g b := h.elim id (fun h => ⟨trivial, by omega, by omega⟩)
set_option maxHeartbeats 2000000 in
set_option maxRecDepth 8000 in
theorem step_drop {w0 w : World} {d g : Nat} {rv v : Value} {l : List Job} {a : Acts} (h : Two w0 w d g rv l) (hk : a.kind = 3) :
    Calls Try.prog 15 #[.pointer (some ⟨d, 0, none⟩), rv, actV a v] w (Stepped w0 d (l.filter (fun x => !isKey a.j.item a.j.undo a.j.try_ x))) := by
  obtain ⟨A, c, rfl, _, _⟩ := h.row.form
  have HD := hid h.st
  have HR := hid h.row
  have HF := hid h.st.dq.few
  clear h
  have k1 : (a.kind == 1) = false := by rw [hk]; rfl
  have k2 : (a.kind == 2) = false := by rw [hk]; rfl
  have k3 : (a.kind == 3) = true := by rw [hk]; rfl
  clear hk
  go_enter Try.func15, Try.ntmps15
  go_wp2_with (first | (go_at_call 29; refine (ref_drop (HR.out.below (by repeat (first | (with_reducible exact Below.refl _ _) | (with_reducible refine bl_dr ?_) | (with_reducible refine bl_drN ?_ _) | (with_reducible refine bl_al ?_ _) | (with_reducible refine bl_more ?_ _ _)))) (by have := HF.out; omega)).mono ?_; rintro e w2 ⟨rv1, rfl, hr2, hb2⟩; obtain ⟨A2, c2, rfl, _, _⟩ := hr2.form; obtain ⟨ex2, dx2, rfl⟩ := more_of hb2; have HR2 := hid hr2; clear hr2 hb2) | (go_at_call 19; refine (drop_any (HD.out.below (by repeat (first | (with_reducible exact Below.refl _ _) | (with_reducible refine bl_dr ?_) | (with_reducible refine bl_drN ?_ _) | (with_reducible refine bl_al ?_ _) | (with_reducible refine bl_more ?_ _ _)))).dq).mono ?_; rintro e w3 ⟨g', rfl, hq3, hu3⟩; have HQ := hid (And.intro hq3 hu3); clear hq3 hu3))
  obtain ⟨q1, q2⟩ := HQ.out
  obtain ⟨p1, p2⟩ := HD.out.lt
  refine bodyPost_ret (v := .tuple #[.slice A2 (l.filter (fun x => !isKey a.j.item a.j.undo a.j.try_ x)).length c2, .bool true]) (by simp [results, Try.results15]) rfl ⟨_, _, rfl, (HD.out.below (by repeat (first | (with_reducible exact Below.refl _ _) | (with_reducible refine bl_dr ?_) | (with_reducible refine bl_drN ?_ _) | (with_reducible refine bl_al ?_ _) | (with_reducible refine bl_more ?_ _ _)))).up q1 q2, q2.row ((HR2.out.mono (fun b hb _ => ?_)).below (by repeat (first | (with_reducible exact Below.refl _ _) | (with_reducible refine bl_dr ?_) | (with_reducible refine bl_drN ?_ _) | (with_reducible refine bl_al ?_ _) | (with_reducible refine bl_more ?_ _ _))))⟩
  simp only [World.size_alloc] at hb
  exact Kt_or (n := w.heap.size + 1) (by omega) (by omega) hb
end Go.Proofs.Ytfadoejoanffoaa
