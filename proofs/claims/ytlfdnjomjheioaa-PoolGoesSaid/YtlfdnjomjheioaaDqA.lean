/- A deque's data, and what its inner functions do. -/
import Derived.Test.YtlfdnjomjheioaaMore
namespace Go.Proofs.Ytlfdnjomjheioaa
open Go.RowKit

theorem info3 : (Try.prog.info? 3).map (fun i => (i.zero, i.size, i.bytes)) = some (some (.int .i64 0), 1, 8) := by kernel_rfl
theorem info32 : (Try.prog.info? 33).map (fun i => (i.zero, i.size, i.bytes)) = some (some (.agg #[(.int .i64 0), (.bool false), (.int .i64 0), (.bool false), (.int .i64 0), (.slice none 0 0)]), 6, 64) := by kernel_rfl

structure Job where
  item : Int
  undo : Bool
  try_ : Int
  begun : Bool
  token : Int
  stamp : List Int
  deriving DecidableEq

abbrev intE : Enc Int := Enc.int .i64
def jobE : Enc Job := Enc.iso (Enc.pair intE (Enc.pair Enc.bool (Enc.pair intE (Enc.pair Enc.bool (Enc.pair intE (Enc.slice intE)))))) (fun j => (j.item, j.undo, j.try_, j.begun, j.token, j.stamp))

def jobCells (j : Job) (v : Value) : List Value := [.int .i64 j.item, .bool j.undo, .int .i64 j.try_, .bool j.begun, .int .i64 j.token, v]
theorem jobE_sz : jobE.sz = 6 := rfl
theorem jobE_open {K : Nat → Prop} {w : World} {j : Job} {cs : List Value} (h : jobE.rd K w j cs) : ∃ v, cs = jobCells j v ∧ intE.Row K w v j.stamp := by
  obtain ⟨_, _, rfl, rfl, _, _, rfl, rfl, _, _, rfl, rfl, _, _, rfl, rfl, _, _, rfl, rfl, v, rfl, h⟩ := h
  exact ⟨v, rfl, h⟩
theorem jobE_mk {K : Nat → Prop} {w : World} {j : Job} {v : Value} (h : intE.Row K w v j.stamp) : jobE.rd K w j (jobCells j v) :=
  ⟨[_], _, rfl, rfl, [_], _, rfl, rfl, [_], _, rfl, rfl, [_], _, rfl, rfl, [_], _, rfl, rfl, v, rfl, h⟩

theorem app30 {K : Nat → Prop} {g : Nat} {w : World} {v x : Value} {xs ys : List Int} (h : intE.Spine 3 K g w v xs) (hy : intE.Src K w x ys) (hKg : ∀ b, K b → b < w.heap.size → b ≠ g) (hlen : xs.length + ys.length ≤ 4294967296) :
    ∃ v' w' g', (Builtin.append_ #[24, 24] 24 #[v, x]).run Try.prog w = .ok v' w' ∧ intE.Spine 3 (fun b => K b ∧ b < w.heap.size) g' w' v' (xs ++ ys) ∧ Ext (fun b => b = g ∧ capOf v ≠ 0) w w' ∧ Grew g w w' v v' g' := by
  obtain ⟨i0, hi, hz0, hz1, hz2⟩ := info_parts info3
  exact h.append 24 24 24 i0 _ Try.underlying24 ⟨_, Try.underlying24⟩ hi hz0 hz1 rfl (by decide) hy hKg hlen (by rw [hz2]; decide)
theorem app40 {K : Nat → Prop} {g : Nat} {w : World} {v x : Value} {xs ys : List Job} (h : jobE.Spine 33 K g w v xs) (hy : jobE.Src K w x ys) (hKg : ∀ b, K b → b < w.heap.size → b ≠ g) (hlen : xs.length + ys.length ≤ 4294967296) :
    ∃ v' w' g', (Builtin.append_ #[61, 61] 61 #[v, x]).run Try.prog w = .ok v' w' ∧ jobE.Spine 33 (fun b => K b ∧ b < w.heap.size) g' w' v' (xs ++ ys) ∧ Ext (fun b => b = g ∧ capOf v ≠ 0) w w' ∧ Grew g w w' v v' g' := by
  obtain ⟨i0, hi, hz0, hz1, hz2⟩ := info_parts info32
  exact h.append 61 61 61 i0 _ Try.underlying61 ⟨_, Try.underlying61⟩ hi hz0 hz1 rfl (by decide) hy hKg hlen (by rw [hz2]; decide)

theorem wpList_app40 {w : World} {ops : Array Oper} {rest : List Oper} {o : Oper} {a : Act} {Q : Exit → Act → World → Prop} {K : Nat → Prop} {g : Nat} {xs ys : List Job} {v x : Value}
    (hg : o.guard = none) (s x' : Operand) (hop : o.op = Op.call { callee := Callee.builtin Builtin.append, args := #[s, x'], argTypes := #[61, 61] }) (hty : o.type = 61)
    (hv : a.eval s = v) (hx : a.eval x' = x) (hs : jobE.Spine 33 K g w v xs) (hy : jobE.Src K w x ys) (hKg : ∀ b, K b → b < w.heap.size → b ≠ g) (hlen : xs.length + ys.length ≤ 4294967296)
    (h : ∀ v' w' g', jobE.Spine 33 (fun b => K b ∧ b < w.heap.size) g' w' v' (xs ++ ys) → Ext (fun b => b = g ∧ capOf v ≠ 0) w w' → Grew g w w' v v' g' → wpList Try.prog ops Q rest (a.put o.dst v') w') :
    wpList Try.prog ops Q (o :: rest) a w := by
  subst hv; subst hx
  obtain ⟨v', w', g', hrun, h1, h2, h3⟩ := app40 hs hy hKg hlen
  exact wpList_append_run hg s x' 61 61 hop (by rw [hty]; exact hrun) (h v' w' g' h1 h2 h3)

set_option maxHeartbeats 1000000 in
theorem clone_ints {K : Nat → Prop} {w : World} {v : Value} {xs : List Int} (h : intE.Row K w v xs) (hlen : xs.length ≤ 4294967296) :
    Calls Try.prog 45 #[v] w fun e w' => ∃ v', e = .returned v' ∧ intE.Row (fun b => w.heap.size ≤ b) w' v' xs ∧ Below w.heap.size w w' := by
  obtain ⟨A, c, rfl, h1, h2⟩ := h.form
  have kn := fun (wx : World) (a : Option Addr) (n c : Nat) => Lib.run_eql_slice_nil (P := Try.prog) wx 24 3 a n c 0 0 Try.underlying24
  cases A with
  | none =>
    obtain rfl := h.nil_of_none
    go_enter Try.func45, Try.ntmps45
    go_wp2
    go_ret
    exact ⟨_, rfl, Enc.Row.nil _ _ _, Below.refl _ _⟩
  | some a =>
    have hy := ((h.bound).alloc (.cells #[] 3)).src
    obtain ⟨v', w', g', hrun, hsp, hext, hg'⟩ := app30 (Enc.Spine.bare intE 3 (fun b => K b ∧ b < w.heap.size) w.heap.size (w.alloc (.cells #[] 3)) (some ⟨w.heap.size, 0, none⟩)) hy (fun b hb _ => by omega) (by simpa using hlen)
    go_enter Try.func45, Try.ntmps45
    go_wp2_with (at_builtin; refine wpList_append_run rfl (.tmp 5) (.tmp 6) 24 24 rfl hrun ?_)
    go_ret
    refine ⟨_, rfl, ?_, ?_⟩
    · have hsp' : intE.Spine 3 (fun _ => False) g' w' v' ([] ++ xs) := hsp
      refine hsp'.row (fun b hb _ => hb.elim) ?_
      rcases hg' with ⟨h, _⟩ | ⟨h, _⟩
      · show _ ≤ _; omega
      · simp only [World.size_alloc] at h; show _ ≤ _; omega
    · exact ((Below.refl _ _).alloc (Nat.le_refl _) _).trans (hext.toBelow (by simp) (fun x hx h => by have := h.1; omega))


abbrev jobV (j : Job) (v : Value) : Value := .agg #[.int .i64 j.item, .bool j.undo, .int .i64 j.try_, .bool j.begun, .int .i64 j.token, v]

set_option maxHeartbeats 1000000 in
theorem own_any {K : Nat → Prop} {w : World} {j : Job} {v : Value} (h : intE.Row K w v j.stamp) (hlen : j.stamp.length ≤ 4294967296) :
    Calls Try.prog 55 #[jobV j v] w fun e w' => ∃ v', e = .returned (jobV j v') ∧ intE.Row (fun b => w.heap.size ≤ b) w' v' j.stamp ∧ Below w.heap.size w w' := by
  obtain ⟨A, c, rfl, h1, h2⟩ := h.form
  go_enter Try.func55, Try.ntmps55
  go_wp2_with (go_at_call 45; refine (clone_ints ((h.alloc _).alloc _) hlen).mono ?_; rintro e w1 ⟨v', rfl, hr, hb⟩; obtain ⟨A', c', rfl, _, _⟩ := hr.form; obtain ⟨ex, dx, rfl⟩ := more_of hb; clear hb)
  refine bodyPost_ret (v := jobV j (.slice A' j.stamp.length c')) (by simp [results, Try.results55, go_sem]) rfl ⟨_, rfl, ?_, ?_⟩
  · exact ((hr.swap (by simp) (fun b hb => hb)).le (by simp; omega))
  · exact below_more (below_al (below_al (Below.refl _ _) _ (Nat.le_refl _)) _ (by simp)) (by simp; omega) _ _

set_option maxHeartbeats 1000000 in
theorem clone_jobs {K : Nat → Prop} {w : World} {v : Value} {xs : List Job} (h : jobE.Row K w v xs) (hlen : xs.length ≤ 4294967296) :
    Calls Try.prog 59 #[v] w fun e w' => ∃ v' g', e = .returned v' ∧ jobE.Spine 33 (fun b => K b ∧ b < w.heap.size) g' w' v' xs ∧ w.heap.size ≤ g' ∧ Below w.heap.size w w' := by
  obtain ⟨A, c, rfl, h1, h2⟩ := h.form
  have kn := fun (wx : World) (a : Option Addr) (n c : Nat) => Lib.run_eql_slice_nil (P := Try.prog) wx 61 33 a n c 0 0 Try.underlying61
  cases A with
  | none =>
    obtain rfl := h.nil_of_none
    go_enter Try.func59, Try.ntmps59
    go_wp2
    go_ret
    exact ⟨_, w.heap.size, rfl, Enc.Spine.nil _ _ _ _ _, Nat.le_refl _, Below.refl _ _⟩
  | some a =>
    have hy := ((h.bound).alloc (.cells #[] 33)).src
    obtain ⟨v', w', g', hrun, hsp, hext, hg'⟩ := app40 (Enc.Spine.bare jobE 33 (fun b => K b ∧ b < w.heap.size) w.heap.size (w.alloc (.cells #[] 33)) (some ⟨w.heap.size, 0, none⟩)) hy (fun b hb _ => by omega) (by simpa using hlen)
    go_enter Try.func59, Try.ntmps59
    go_wp2_with (at_builtin; refine wpList_append_run rfl (.tmp 5) (.tmp 6) 61 61 rfl hrun ?_)
    go_ret
    refine ⟨_, g', rfl, hsp.step (fun _ h => h) (fun b hb _ => ⟨hb.1, rfl⟩), ?_, ?_⟩
    · rcases hg' with ⟨h, _⟩ | ⟨h, _⟩
      · omega
      · simp only [World.size_alloc] at h; omega
    · exact ((Below.refl _ _).alloc (Nat.le_refl _) _).trans (hext.toBelow (by simp) (fun x hx h => by have := h.1; omega))
end Go.Proofs.Ytlfdnjomjheioaa
