/- A saga's tokens; the program's 'put'. -/
import Derived.Test.YtidilpciolladaaGf
/- A saga's tokens; the program's 'put'. -/
namespace Go.Proofs.Ytidilpciolladaa
open Go.RowKit

abbrev cLb : ByteArray := { data := #[123] }
abbrev cRb : ByteArray := { data := #[125] }
abbrev cL : ByteArray := { data := #[40] }
abbrev cR : ByteArray := { data := #[41] }
abbrev cSm : ByteArray := { data := #[59] }
abbrev cCm : ByteArray := { data := #[44] }
def hdT (nm : ByteArray) (sb vt : Bool) : List ByteArray := if vt then [wd5, wd2, nm] else if sb then [wd6, wd2, nm] else [wd1, nm]
def undoT (un : ByteArray) : List ByteArray := if un.size = 0 then [] else [wd3, un]
def aftO : List ByteArray → List ByteArray
  | [] => []
  | s :: l => cCm :: s :: aftO l
def aftT : List ByteArray → List ByteArray
  | [] => []
  | s :: l => wd4 :: s :: aftO l
mutual
/-- A node's tokens. -/
def tkN : Nd → List ByteArray
  | .mk nm un af sb vt al => hdT nm sb vt ++ (undoT un ++ (aftT af ++ (if sb then cLb :: (tkR al ++ [cRb]) else [cSm])))
/-- Bodies' tokens. -/
def tkR : List (List Nd) → List ByteArray
  | [] => []
  | b :: l => cL :: (tkL b ++ cR :: tkO l)
/-- .. of the next ones. -/
def tkO : List (List Nd) → List ByteArray
  | [] => []
  | b :: l => wd7 :: cL :: (tkL b ++ cR :: tkO l)
def tkL : List Nd → List ByteArray
  | [] => []
  | n :: l => tkN n ++ tkL l
end
def tkA (l : List (List Nd)) : List ByteArray := cLb :: (tkR l ++ [cRb])
theorem tkN_eq (n : Nd) : tkN n = hdT n.name n.sub n.vital ++ (undoT n.undo ++ (aftT n.after ++ (if n.sub then tkA n.alts else [cSm]))) := by cases n; rw [tkN]; rfl
theorem aftO_app (a b : List ByteArray) : aftO (a ++ b) = aftO a ++ aftO b := by
  induction a with
  | nil => rfl
  | cons x a ih => rw [List.cons_append, aftO, aftO, ih]; rfl
theorem aftT_next {l : List ByteArray} {i : Nat} {x : ByteArray} (h : l[i]? = some x) : aftT (l.take (i + 1)) = aftT (l.take i) ++ [if i = 0 then wd4 else cCm, x] := by
  rw [List.take_succ_eq_append_getElem (get_len h), (List.getElem?_eq_some_iff.1 h).2]
  cases l with
  | nil => simp at h
  | cons y l =>
    cases i with
    | zero => rfl
    | succ i => rw [List.take_succ_cons, List.cons_append, aftT, aftT, aftO_app, if_neg (by omega)]; rfl
theorem tkL_app (a b : List Nd) : tkL (a ++ b) = tkL a ++ tkL b := by
  induction a with
  | nil => rfl
  | cons x a ih => rw [List.cons_append, tkL, tkL, ih, List.append_assoc]
theorem tkL_next {l : List Nd} {i : Nat} {x : Nd} (h : l[i]? = some x) : tkL (l.take (i + 1)) = tkL (l.take i) ++ tkN x := by
  rw [List.take_succ_eq_append_getElem (get_len h), tkL_app, (List.getElem?_eq_some_iff.1 h).2]
  simp [tkL]
theorem tkO_app (a b : List (List Nd)) : tkO (a ++ b) = tkO a ++ tkO b := by
  induction a with
  | nil => rfl
  | cons x a ih => rw [List.cons_append, tkO, tkO, ih]; simp
/-- The texts ahead of a body. -/
def orT (i : Nat) : List ByteArray := if i = 0 then [] else [wd7]
theorem tkR_next {l : List (List Nd)} {i : Nat} {x : List Nd} (h : l[i]? = some x) : tkR (l.take (i + 1)) = tkR (l.take i) ++ orT i ++ [cL] ++ tkL x ++ [cR] := by
  rw [List.take_succ_eq_append_getElem (get_len h), (List.getElem?_eq_some_iff.1 h).2]
  cases l with
  | nil => simp at h
  | cons y l =>
    cases i with
    | zero => simp [tkR, tkO, orT]
    | succ i => rw [List.take_succ_cons, List.cons_append, tkR, tkR, tkO_app]; simp [tkO, orT]
theorem tkR_take (l : List (List Nd)) (i : Nat) : (tkR (l.take i)).length ≤ (tkR l).length := by
  induction hk : l.length - i generalizing i with
  | zero => rw [List.take_of_length_le (by omega)]; exact Nat.le_refl _
  | succ n ih =>
    obtain ⟨x, hx⟩ := get_lt (l := l) (i := i) (by omega)
    have h1 := ih (i + 1) (by omega)
    rw [tkR_next hx] at h1
    simp only [List.length_append] at h1
    omega
theorem tkL_take (l : List Nd) (i : Nat) : (tkL (l.take i)).length ≤ (tkL l).length := by
  have h := tkL_app (l.take i) (l.drop i)
  rw [List.take_append_drop] at h
  rw [h, List.length_append]; omega
theorem aftT_take (l : List ByteArray) (i : Nat) : (aftT (l.take i)).length ≤ (aftT l).length := by
  induction hk : l.length - i generalizing i with
  | zero => rw [List.take_of_length_le (by omega)]; exact Nat.le_refl _
  | succ n ih =>
    obtain ⟨x, hx⟩ := get_lt (l := l) (i := i) (by omega)
    have h1 := ih (i + 1) (by omega)
    rw [aftT_next hx] at h1
    simp only [List.length_append] at h1
    omega
/-- Texts that are put behind one another, and a box that stays. -/
structure PN (w0 : World) (bx : Nat) (cs : Array Value) (ty : TypeId) (w : World) (g : Nat) (v : Value) (xs : List ByteArray) : Prop where
  st : Strs w0.heap.size w0 w g v xs
  box : w.heap[bx]? = some (.cells cs ty (0, 0))
  ne : capOf v ≠ 0 → g ≠ bx
theorem PN.below {w0 : World} {bx : Nat} {cs : Array Value} {ty : TypeId} {w w' : World} {g : Nat} {v : Value} {xs : List ByteArray} (h : PN w0 bx cs ty w g v xs) (hb : Below w.heap.size w w') : PN w0 bx cs ty w' g v xs :=
  ⟨h.st.below hb, (hb.block bx (Array.getElem?_eq_some_iff.1 h.box).1).trans h.box, h.ne⟩
theorem PN.lt {w0 : World} {bx : Nat} {cs : Array Value} {ty : TypeId} {w : World} {g : Nat} {v : Value} {xs : List ByteArray} (h : PN w0 bx cs ty w g v xs) : bx < w.heap.size := (Array.getElem?_eq_some_iff.1 h.box).1
theorem src_strs {w : World} {b : Nat} {ys : List ByteArray} {K : Nat → Prop} (hy : w.heap[b]? = some (.cells (ys.map Value.string).toArray 9 (0, 0))) (hl : ys.length ≤ 4294967296) : Enc.str.Src K w (.slice (some ⟨b, 0, none⟩) ys.length ys.length) ys := by
  refine ⟨_, ys.length, rfl, Nat.le_refl _, by unfold maxLen; omega, fun _ => ⟨b, 0, rfl, fun i hi => ⟨[.string ys[i]], rfl, fun j u hj => ?_⟩⟩⟩
  have hj0 : j = 0 := by have := (List.getElem?_eq_some_iff.1 hj).1; simp at this; omega
  subst hj0
  have hu : u = .string ys[i] := by simpa using hj.symm
  subst hu
  show w.cell? ⟨b, 0 + i * 1 + 0, none⟩ = _
  simp only [World.cell?, hy]
  simp [hi]
theorem wpList_strs {w0 W w : World} {ops : Array Oper} {rest : List Oper} {o : Oper} {a : Act} {Q : Exit → Act → World → Prop} {g b : Nat} {xs ys : List ByteArray} {v : Value}
    (hg : o.guard = none) (s x' : Operand) (hop : o.op = Op.call { callee := Callee.builtin Builtin.append, args := #[s, x'], argTypes := #[65, 65] }) (hty : o.type = 65)
    (hv : a.eval s = v) (hx : a.eval x' = .slice (some ⟨b, 0, none⟩) ys.length ys.length) (hs : Strs w0.heap.size w0 W g v xs) (hW : Below W.heap.size W w) (hy : w.heap[b]? = some (.cells (ys.map Value.string).toArray 9 (0, 0)))
    (hlen : xs.length + ys.length ≤ 4294967296)
    (h : ∀ v' w' g', Strs w0.heap.size w0 w' g' v' (xs ++ ys) → wpList Try.prog ops Q rest (a.put o.dst v') w') :
    wpList Try.prog ops Q (o :: rest) a w := by
  have hs' := hs.below hW
  exact wpList_app33 hg s x' hop hty hv hx hs'.sp (src_strs hy (by omega)) (fun _ h _ => h.elim) hlen (fun v2 w2 g2 h1 h2 h3 => h v2 w2 g2 (hs'.grown h1 (fun _ h => h.1) h2 h3))
theorem wpList_pn {w0 W w : World} {bx : Nat} {cs : Array Value} {ty : TypeId} {ops : Array Oper} {rest : List Oper} {o : Oper} {a : Act} {Q : Exit → Act → World → Prop} {g b : Nat} {xs ys : List ByteArray} {v : Value}
    (hg : o.guard = none) (s x' : Operand) (hop : o.op = Op.call { callee := Callee.builtin Builtin.append, args := #[s, x'], argTypes := #[65, 65] }) (hty : o.type = 65)
    (hv : a.eval s = v) (hx : a.eval x' = .slice (some ⟨b, 0, none⟩) ys.length ys.length) (hs : PN w0 bx cs ty W g v xs) (hW : Below W.heap.size W w) (hy : w.heap[b]? = some (.cells (ys.map Value.string).toArray 9 (0, 0)))
    (hlen : xs.length + ys.length ≤ 4294967296)
    (h : ∀ v' w' g', PN w0 bx cs ty w' g' v' (xs ++ ys) → wpList Try.prog ops Q rest (a.put o.dst v') w') :
    wpList Try.prog ops Q (o :: rest) a w := by
  have hs' := hs.below hW
  refine wpList_app33 hg s x' hop hty hv hx hs'.st.sp (src_strs hy (by omega)) (fun _ h _ => h.elim) hlen (fun v2 w2 g2 h1 h2 h3 => h v2 w2 g2 ⟨hs'.st.grown h1 (fun _ h => h.1) h2 h3, ?_, ?_⟩)
  · exact (h2.block bx hs'.lt (fun h => hs'.ne h.2 h.1.symm)).trans hs'.box
  · have := hs'.lt
    rcases h3 with ⟨rfl, _, hc⟩ | ⟨rfl, _⟩
    · intro h; exact hs'.ne (by rwa [← hc])
    · intro _; omega
/-- What 'put' tells. -/
structure PutQ (w0 : World) (ys : List ByteArray) (e : Ending) (w' : World) : Prop where
  ex : ∃ v' g', e = .returned v' ∧ Strs w0.heap.size w0 w' g' v' ys
def PutP (m : Nat) : Prop := ∀ (w0 w : World) (g : Nat) (v lv : Value) (xs : List ByteArray) (K : Nat → Prop) (l : List (List Nd)), Strs w0.heap.size w0 w g v xs → (bodyE m).Row K w0 lv l → xs.length + (tkA l).length + 16 ≤ 4294967296 →
  Calls Try.prog 31 #[v, lv] w (PutQ w0 (xs ++ tkA l))
end Go.Proofs.Ytidilpciolladaa

/- The program's 'putNode'. -/
namespace Go.Proofs.Ytidilpciolladaa
open Go.RowKit

theorem PutP.at {m : Nat} (h : PutP m) {w0 w : World} {g : Nat} {v lv : Value} {xs : List ByteArray} {K : Nat → Prop} {l : List (List Nd)} (hs : Strs w0.heap.size w0 w g v xs) (hr : (bodyE m).Row K w0 lv l) (hl : xs.length + (tkA l).length + 16 ≤ 4294967296) :
    Calls Try.prog 31 #[v, lv] w (PutQ w0 (xs ++ tkA l)) := h w0 w g v lv xs K l hs hr hl
theorem PN.first {w0 w : World} {g : Nat} {v : Value} {xs : List ByteArray} (h : Strs w0.heap.size w0 w g v xs) (cs : Array Value) (ty : TypeId) : PN w0 w.heap.size cs ty (w.alloc (.cells cs ty)) g v xs := by
  refine ⟨h.below ((Below.refl _ _).alloc (Nat.le_refl _) _), alloc_blk rfl, fun hc => ?_⟩
  obtain ⟨cur, hg⟩ := h.sp.type hc
  have := (Array.getElem?_eq_some_iff.1 hg).1
  omega
theorem Strs.eqL {N : Nat} {w0 w : World} {g : Nat} {v : Value} {xs ys : List ByteArray} (h : Strs N w0 w g v xs) (e : ys = xs) : Strs N w0 w g v ys := e ▸ h
theorem PN.cells6 {w0 : World} {bx : Nat} {c0 c1 c2 c3 c4 c5 : Value} {ty : TypeId} {w : World} {g : Nat} {v : Value} {xs : List ByteArray} (h : PN w0 bx #[c0, c1, c2, c3, c4, c5] ty w g v xs) :
    bx < w.heap.size ∧ w.cell? ⟨bx, 0, none⟩ = some c0 ∧ w.cell? ⟨bx, 1, none⟩ = some c1 ∧ w.cell? ⟨bx, 2, none⟩ = some c2 ∧ w.cell? ⟨bx, 3, none⟩ = some c3 ∧ w.cell? ⟨bx, 4, none⟩ = some c4 ∧ w.cell? ⟨bx, 5, none⟩ = some c5 :=
  ⟨h.lt, cell_blk h.box 0, cell_blk h.box 1, cell_blk h.box 2, cell_blk h.box 3, cell_blk h.box 4, cell_blk h.box 5⟩
set_option maxRecDepth 8000 in
set_option maxHeartbeats 4000000 in
theorem node_of {m : Nat} (hP : PutP m) {w0 w : World} {g : Nat} {v : Value} {xs : List ByteArray} {K : Nat → Prop} {nm un : ByteArray} {af : List ByteArray} {sb vt : Bool} {al : List (List Nd)} {A1 A2 : Option Addr} {n1 c1 n2 c2 : Nat}
    (hs : Strs w0.heap.size w0 w g v xs) (h1 : Enc.str.Row K w0 (.slice A1 n1 c1) af) (h2 : (bodyE m).Row K w0 (.slice A2 n2 c2) al) (hl : xs.length + (tkN (.mk nm un af sb vt al)).length + 16 ≤ 4294967296) :
    Calls Try.prog 53 #[v, .agg #[.string nm, .string un, .slice A1 n1 c1, .bool sb, .bool vt, .slice A2 n2 c2]] w (PutQ w0 (xs ++ tkN (.mk nm un af sb vt al))) := by
  obtain ⟨_, _, he2, _, _⟩ := h2.form
  obtain ⟨rfl, _, _⟩ := (Value.slice.inj he2).2
  obtain ⟨_, _, he1, hz1, hz2⟩ := h1.form
  obtain ⟨rfl, _, _⟩ := (Value.slice.inj he1).2
  have hax : (af.length : Int) ≤ 9223372036854775807 := by unfold maxLen at hz2; omega
  rw [tkN_eq] at hl ⊢
  have hl : xs.length + (hdT nm sb vt ++ (undoT un ++ (aftT af ++ (if sb then tkA al else [cSm])))).length + 16 ≤ 4294967296 := hl
  show Calls Try.prog 53 _ w (PutQ w0 (xs ++ (hdT nm sb vt ++ (undoT un ++ (aftT af ++ (if sb then tkA al else [cSm]))))))
  simp only [List.length_append] at hl
  obtain ⟨A0, c0, rfl, _, _⟩ := hs.sp.form
  have HP := hid hP
  have HR1 := hid h1
  have HR2 := hid h2
  have HL := hid hl
  have HS := hid (PN.first hs #[.string nm, .string un, .slice A1 af.length c1, .bool sb, .bool vt, .slice A2 al.length c2] 73)
  clear hP h1 h2 hl hs he1 he2 hz1 hz2
  have x0 := trivial
  have x1 := trivial
  have x2 := trivial
  have x3 := trivial
  have x4 := trivial
  have x5 := trivial
  have xl := trivial
  cases vt with
  | true =>
    cases sb with
    | true =>
      by_cases hu : un.size = 0
      · have hs := emp_t hu
        have hs2 : un.toList = [] := List.isEmpty_iff.1 (by cases h : un.toList with | nil => rfl | cons a l => rw [h] at hs; cases hs)
        have hut : undoT un = [] := by unfold undoT; rw [if_pos hu]
        rw [hut] at HL ⊢
        have HL : Hid (xs.length + ((hdT nm true true).length + (0 + ((aftT af).length + (if true = true then tkA al else [cSm]).length))) + 16 ≤ 4294967296) := hid HL.out
        clear hu hut hs
        go_enter Try.func53, Try.ntmps53
        go_wp2_with (first | (at_builtin; refine wpList_pn (ys := [wd5, wd2, nm]) (by rfl) (.tmp 16) (.tmp 19) (by rfl) (by rfl) (by rfl) (by rfl) HS.out (by repeat (first | (with_reducible exact Below.refl _ _) | (with_reducible exact bl_mm) | (with_reducible refine bl_dr ?_) | (with_reducible refine bl_drN ?_ _) | (with_reducible refine bl_al ?_ _) | (with_reducible refine bl_more ?_ _ _))) (by exact alloc_blk (by simp [more_size])) (by have := HL.out;  simp only [List.length_cons, List.length_nil]; omega) ?_; intro v2 w2 g2 hp; obtain ⟨X1, hx1⟩ : ∃ y, xs ++ [wd5, wd2, nm] = y := ⟨_, rfl⟩; rw [hx1] at hp; have HEX1 := hid hx1; have HNX1 : Hid (X1.length = xs.length + 3) := hid (by rw [← hx1, List.length_append]; rfl); clear hx1; obtain ⟨AQ, cq, e2, _, _⟩ := hp.st.sp.form; subst e2; clear x0 x1 x2 x3 x4 x5 xl; obtain ⟨xl, x0, x1, x2, x3, x4, x5⟩ := hp.cells6; clear HS; have HS := hid hp; clear hp))
        have HB2 : Hid (X1.length ≤ xs.length + (hdT nm true true).length) := hid (by rw [← HEX1.out, List.length_append]; exact Nat.le_refl _)
        have HE2 : Hid (xs ++ (hdT nm true true ++ []) = X1) := hid (by rw [List.append_nil]; exact HEX1.out)
        go_loopg [0, 40] af.length (fun k vo vi wr => ∃ (i g : Nat) (B : Option Addr) (cb : Nat) (X3 : List ByteArray), i + k = af.length ∧ vi = .int .i64 (i : Int) ∧ vo = .slice B X3.length cb ∧ X3 = X1 ++ aftT (af.take i) ∧ PN w0 w.heap.size #[.string nm, .string un, .slice A1 af.length c1, .bool true, .bool true, .slice A2 al.length c2] 73 wr g vo X3)
        case atStart => exact ⟨0, _, _, _, X1, by omega, rfl, rfl, by simp [aftT], HS.out.below (by repeat (first | (with_reducible exact Below.refl _ _) | (with_reducible exact bl_mm) | (with_reducible refine bl_dr ?_) | (with_reducible refine bl_drN ?_ _) | (with_reducible refine bl_al ?_ _) | (with_reducible refine bl_more ?_ _ _)))⟩
        case round =>
          obtain ⟨i, g, B, cb, X3, hk, rfl, rfl, hxi, hs⟩ := hrel
          have HS := hid hs
          have HK := hid hk
          have HXI := hid hxi
          clear x0 x1 x2 x3 x4 x5 xl
          obtain ⟨xl, x0, x1, x2, x3, x4, x5⟩ := hs.cells6
          by_cases hil : i < af.length
          · obtain ⟨s, hx⟩ := get_lt hil
            have HX := hid hx
            have HI := hid (And.intro hil trivial)
            have hi0 : (0 : Int) ≤ i := by omega
            have hi1 : (i : Int) < af.length := by omega
            obtain ⟨b, off, rfl, _, hbl, y1⟩ := row_str (HR1.out.below hs.st.low) hx
            have HLI : Hid (X3.length + 16 ≤ 4294967296) := hid (by have h1 := aftT_take af i; have := HL.out; have := HB2.out; rw [hxi, List.length_append]; omega)
            have hnx := aftT_next hx
            by_cases hi : i = 0
            · have hie : ((i : Int) == 0) = true := by rw [hi]; rfl
              rw [if_pos hi] at hnx
              have HNX := hid hnx
              clear hk hil hx hs hxi hi hnx
              go_wp2_with (first | (at_builtin; refine wpList_pn (ys := [wd4, s]) (by rfl) (.tmp 47) (.tmp 50) (by rfl) (by rfl) (by rfl) (by rfl) HS.out (by repeat (first | (with_reducible exact Below.refl _ _) | (with_reducible exact bl_mm) | (with_reducible refine bl_dr ?_) | (with_reducible refine bl_drN ?_ _) | (with_reducible refine bl_al ?_ _) | (with_reducible refine bl_more ?_ _ _))) (by exact alloc_blk (by simp [more_size])) (by have := HL.out; have := HLI.out; simp only [List.length_cons, List.length_nil]; omega) ?_; intro v2 w2 g2 hp; obtain ⟨X4, hx1⟩ : ∃ y, X3 ++ [wd4, s] = y := ⟨_, rfl⟩; rw [hx1] at hp; have HEX4 := hid hx1; have HNX4 : Hid (X4.length = X3.length + 2) := hid (by rw [← hx1, List.length_append]; rfl); clear hx1; obtain ⟨AQ, cq, e2, _, _⟩ := hp.st.sp.form; subst e2; clear x0 x1 x2 x3 x4 x5 xl; obtain ⟨xl, x0, x1, x2, x3, x4, x5⟩ := hp.cells6; clear HS; have HS := hid hp; clear hp))
              go_roundg (af.length - (i + 1))
              case measure => have := HK.out; have := HI.out.1; omega
              case rel => exact ⟨i + 1, _, _, _, X4, by have := HI.out.1; omega, rfl, rfl, by rw [← HEX4.out, HXI.out, HNX.out, List.append_assoc], HS.out⟩
            · have hie : ((i : Int) == 0) = false := by rw [beq_eq_false_iff_ne]; omega
              rw [if_neg hi] at hnx
              have HNX := hid hnx
              clear hk hil hx hs hxi hi hnx
              go_wp2_with (first | (at_builtin; refine wpList_pn (ys := [cCm, s]) (by rfl) (.tmp 47) (.tmp 50) (by rfl) (by rfl) (by rfl) (by rfl) HS.out (by repeat (first | (with_reducible exact Below.refl _ _) | (with_reducible exact bl_mm) | (with_reducible refine bl_dr ?_) | (with_reducible refine bl_drN ?_ _) | (with_reducible refine bl_al ?_ _) | (with_reducible refine bl_more ?_ _ _))) (by exact alloc_blk (by simp [more_size])) (by have := HL.out; have := HLI.out; simp only [List.length_cons, List.length_nil]; omega) ?_; intro v2 w2 g2 hp; obtain ⟨X4, hx1⟩ : ∃ y, X3 ++ [cCm, s] = y := ⟨_, rfl⟩; rw [hx1] at hp; have HEX4 := hid hx1; have HNX4 : Hid (X4.length = X3.length + 2) := hid (by rw [← hx1, List.length_append]; rfl); clear hx1; obtain ⟨AQ, cq, e2, _, _⟩ := hp.st.sp.form; subst e2; clear x0 x1 x2 x3 x4 x5 xl; obtain ⟨xl, x0, x1, x2, x3, x4, x5⟩ := hp.cells6; clear HS; have HS := hid hp; clear hp))
              go_roundg (af.length - (i + 1))
              case measure => have := HK.out; have := HI.out.1; omega
              case rel => exact ⟨i + 1, _, _, _, X4, by have := HI.out.1; omega, rfl, rfl, by rw [← HEX4.out, HXI.out, HNX.out, List.append_assoc], HS.out⟩
          · have hie : i = af.length := by omega
            subst hie
            rw [List.take_length] at hxi
            have hnl : ¬ (af.length : Int) < af.length := by omega
            have HL3 : Hid (X3.length = X1.length + (aftT af).length) := hid (by rw [hxi, List.length_append])
            have HX3 : Hid (X1 ++ aftT af = X3) := hid hxi.symm
            clear hk hil hs hxi
            have HLP : Hid (X3.length + (tkA al).length + 16 ≤ 4294967296) := hid (by have := HL.out; have := HL3.out; have := HB2.out; simp only [if_true] at *; omega)
            go_wp2_with (first | (go_at_call 31; refine (PutP.at HP.out (HS.out.st.below (by repeat (first | (with_reducible exact Below.refl _ _) | (with_reducible exact bl_mm) | (with_reducible refine bl_dr ?_) | (with_reducible refine bl_drN ?_ _) | (with_reducible refine bl_al ?_ _) | (with_reducible refine bl_more ?_ _ _)))) HR2.out HLP.out).mono ?_; rintro e w3 ⟨v3, g3, rfl, hs3⟩; have HQ := hid hs3; clear hs3))
            go_ret
            refine ⟨_, g3, rfl, ?_⟩
            have := HQ.out
            rw [← HX3.out, ← HE2.out] at this
            simp only [List.append_assoc] at this
            exact this
      · have hs := emp_f hu
        have hut : undoT un = [wd3, un] := by unfold undoT; rw [if_neg hu]
        rw [hut] at HL ⊢
        have HL : Hid (xs.length + ((hdT nm true true).length + (2 + ((aftT af).length + (if true = true then tkA al else [cSm]).length))) + 16 ≤ 4294967296) := hid HL.out
        clear hu hut
        go_enter Try.func53, Try.ntmps53
        go_wp2_with (first | (at_builtin; refine wpList_pn (ys := [wd5, wd2, nm]) (by rfl) (.tmp 16) (.tmp 19) (by rfl) (by rfl) (by rfl) (by rfl) HS.out (by repeat (first | (with_reducible exact Below.refl _ _) | (with_reducible exact bl_mm) | (with_reducible refine bl_dr ?_) | (with_reducible refine bl_drN ?_ _) | (with_reducible refine bl_al ?_ _) | (with_reducible refine bl_more ?_ _ _))) (by exact alloc_blk (by simp [more_size])) (by have := HL.out;  simp only [List.length_cons, List.length_nil]; omega) ?_; intro v2 w2 g2 hp; obtain ⟨X1, hx1⟩ : ∃ y, xs ++ [wd5, wd2, nm] = y := ⟨_, rfl⟩; rw [hx1] at hp; have HEX1 := hid hx1; have HNX1 : Hid (X1.length = xs.length + 3) := hid (by rw [← hx1, List.length_append]; rfl); clear hx1; obtain ⟨AQ, cq, e2, _, _⟩ := hp.st.sp.form; subst e2; clear x0 x1 x2 x3 x4 x5 xl; obtain ⟨xl, x0, x1, x2, x3, x4, x5⟩ := hp.cells6; clear HS; have HS := hid hp; clear hp) | (at_builtin; refine wpList_pn (ys := [wd3, un]) (by rfl) (.tmp 32) (.tmp 35) (by rfl) (by rfl) (by rfl) (by rfl) HS.out (by repeat (first | (with_reducible exact Below.refl _ _) | (with_reducible exact bl_mm) | (with_reducible refine bl_dr ?_) | (with_reducible refine bl_drN ?_ _) | (with_reducible refine bl_al ?_ _) | (with_reducible refine bl_more ?_ _ _))) (by exact alloc_blk (by simp [more_size])) (by have := HL.out; have := HNX1.out; simp only [List.length_cons, List.length_nil]; omega) ?_; intro v2 w2 g2 hp; obtain ⟨X2, hx1⟩ : ∃ y, X1 ++ [wd3, un] = y := ⟨_, rfl⟩; rw [hx1] at hp; have HEX2 := hid hx1; have HNX2 : Hid (X2.length = X1.length + 2) := hid (by rw [← hx1, List.length_append]; rfl); clear hx1; obtain ⟨AQ, cq, e2, _, _⟩ := hp.st.sp.form; subst e2; clear x0 x1 x2 x3 x4 x5 xl; obtain ⟨xl, x0, x1, x2, x3, x4, x5⟩ := hp.cells6; clear HS; have HS := hid hp; clear hp))
        have HB2 : Hid (X2.length ≤ xs.length + (hdT nm true true).length + 2) := hid (by rw [← HEX2.out, ← HEX1.out, List.length_append, List.length_append]; exact Nat.le_refl _)
        have HE2 : Hid (xs ++ (hdT nm true true ++ [wd3, un]) = X2) := hid (by rw [← HEX2.out, ← HEX1.out, List.append_assoc]; rfl)
        go_loopg [0, 40] af.length (fun k vo vi wr => ∃ (i g : Nat) (B : Option Addr) (cb : Nat) (X3 : List ByteArray), i + k = af.length ∧ vi = .int .i64 (i : Int) ∧ vo = .slice B X3.length cb ∧ X3 = X2 ++ aftT (af.take i) ∧ PN w0 w.heap.size #[.string nm, .string un, .slice A1 af.length c1, .bool true, .bool true, .slice A2 al.length c2] 73 wr g vo X3)
        case atStart => exact ⟨0, _, _, _, X2, by omega, rfl, rfl, by simp [aftT], HS.out.below (by repeat (first | (with_reducible exact Below.refl _ _) | (with_reducible exact bl_mm) | (with_reducible refine bl_dr ?_) | (with_reducible refine bl_drN ?_ _) | (with_reducible refine bl_al ?_ _) | (with_reducible refine bl_more ?_ _ _)))⟩
        case round =>
          obtain ⟨i, g, B, cb, X3, hk, rfl, rfl, hxi, hs⟩ := hrel
          have HS := hid hs
          have HK := hid hk
          have HXI := hid hxi
          clear x0 x1 x2 x3 x4 x5 xl
          obtain ⟨xl, x0, x1, x2, x3, x4, x5⟩ := hs.cells6
          by_cases hil : i < af.length
          · obtain ⟨s, hx⟩ := get_lt hil
            have HX := hid hx
            have HI := hid (And.intro hil trivial)
            have hi0 : (0 : Int) ≤ i := by omega
            have hi1 : (i : Int) < af.length := by omega
            obtain ⟨b, off, rfl, _, hbl, y1⟩ := row_str (HR1.out.below hs.st.low) hx
            have HLI : Hid (X3.length + 16 ≤ 4294967296) := hid (by have h1 := aftT_take af i; have := HL.out; have := HB2.out; rw [hxi, List.length_append]; omega)
            have hnx := aftT_next hx
            by_cases hi : i = 0
            · have hie : ((i : Int) == 0) = true := by rw [hi]; rfl
              rw [if_pos hi] at hnx
              have HNX := hid hnx
              clear hk hil hx hs hxi hi hnx
              go_wp2_with (first | (at_builtin; refine wpList_pn (ys := [wd4, s]) (by rfl) (.tmp 47) (.tmp 50) (by rfl) (by rfl) (by rfl) (by rfl) HS.out (by repeat (first | (with_reducible exact Below.refl _ _) | (with_reducible exact bl_mm) | (with_reducible refine bl_dr ?_) | (with_reducible refine bl_drN ?_ _) | (with_reducible refine bl_al ?_ _) | (with_reducible refine bl_more ?_ _ _))) (by exact alloc_blk (by simp [more_size])) (by have := HL.out; have := HLI.out; simp only [List.length_cons, List.length_nil]; omega) ?_; intro v2 w2 g2 hp; obtain ⟨X4, hx1⟩ : ∃ y, X3 ++ [wd4, s] = y := ⟨_, rfl⟩; rw [hx1] at hp; have HEX4 := hid hx1; have HNX4 : Hid (X4.length = X3.length + 2) := hid (by rw [← hx1, List.length_append]; rfl); clear hx1; obtain ⟨AQ, cq, e2, _, _⟩ := hp.st.sp.form; subst e2; clear x0 x1 x2 x3 x4 x5 xl; obtain ⟨xl, x0, x1, x2, x3, x4, x5⟩ := hp.cells6; clear HS; have HS := hid hp; clear hp))
              go_roundg (af.length - (i + 1))
              case measure => have := HK.out; have := HI.out.1; omega
              case rel => exact ⟨i + 1, _, _, _, X4, by have := HI.out.1; omega, rfl, rfl, by rw [← HEX4.out, HXI.out, HNX.out, List.append_assoc], HS.out⟩
            · have hie : ((i : Int) == 0) = false := by rw [beq_eq_false_iff_ne]; omega
              rw [if_neg hi] at hnx
              have HNX := hid hnx
              clear hk hil hx hs hxi hi hnx
              go_wp2_with (first | (at_builtin; refine wpList_pn (ys := [cCm, s]) (by rfl) (.tmp 47) (.tmp 50) (by rfl) (by rfl) (by rfl) (by rfl) HS.out (by repeat (first | (with_reducible exact Below.refl _ _) | (with_reducible exact bl_mm) | (with_reducible refine bl_dr ?_) | (with_reducible refine bl_drN ?_ _) | (with_reducible refine bl_al ?_ _) | (with_reducible refine bl_more ?_ _ _))) (by exact alloc_blk (by simp [more_size])) (by have := HL.out; have := HLI.out; simp only [List.length_cons, List.length_nil]; omega) ?_; intro v2 w2 g2 hp; obtain ⟨X4, hx1⟩ : ∃ y, X3 ++ [cCm, s] = y := ⟨_, rfl⟩; rw [hx1] at hp; have HEX4 := hid hx1; have HNX4 : Hid (X4.length = X3.length + 2) := hid (by rw [← hx1, List.length_append]; rfl); clear hx1; obtain ⟨AQ, cq, e2, _, _⟩ := hp.st.sp.form; subst e2; clear x0 x1 x2 x3 x4 x5 xl; obtain ⟨xl, x0, x1, x2, x3, x4, x5⟩ := hp.cells6; clear HS; have HS := hid hp; clear hp))
              go_roundg (af.length - (i + 1))
              case measure => have := HK.out; have := HI.out.1; omega
              case rel => exact ⟨i + 1, _, _, _, X4, by have := HI.out.1; omega, rfl, rfl, by rw [← HEX4.out, HXI.out, HNX.out, List.append_assoc], HS.out⟩
          · have hie : i = af.length := by omega
            subst hie
            rw [List.take_length] at hxi
            have hnl : ¬ (af.length : Int) < af.length := by omega
            have HL3 : Hid (X3.length = X2.length + (aftT af).length) := hid (by rw [hxi, List.length_append])
            have HX3 : Hid (X2 ++ aftT af = X3) := hid hxi.symm
            clear hk hil hs hxi
            have HLP : Hid (X3.length + (tkA al).length + 16 ≤ 4294967296) := hid (by have := HL.out; have := HL3.out; have := HB2.out; simp only [if_true] at *; omega)
            go_wp2_with (first | (go_at_call 31; refine (PutP.at HP.out (HS.out.st.below (by repeat (first | (with_reducible exact Below.refl _ _) | (with_reducible exact bl_mm) | (with_reducible refine bl_dr ?_) | (with_reducible refine bl_drN ?_ _) | (with_reducible refine bl_al ?_ _) | (with_reducible refine bl_more ?_ _ _)))) HR2.out HLP.out).mono ?_; rintro e w3 ⟨v3, g3, rfl, hs3⟩; have HQ := hid hs3; clear hs3))
            go_ret
            refine ⟨_, g3, rfl, ?_⟩
            have := HQ.out
            rw [← HX3.out, ← HE2.out] at this
            simp only [List.append_assoc] at this
            exact this
    | false =>
      by_cases hu : un.size = 0
      · have hs := emp_t hu
        have hs2 : un.toList = [] := List.isEmpty_iff.1 (by cases h : un.toList with | nil => rfl | cons a l => rw [h] at hs; cases hs)
        have hut : undoT un = [] := by unfold undoT; rw [if_pos hu]
        rw [hut] at HL ⊢
        have HL : Hid (xs.length + ((hdT nm false true).length + (0 + ((aftT af).length + (if false = true then tkA al else [cSm]).length))) + 16 ≤ 4294967296) := hid HL.out
        clear hu hut hs
        go_enter Try.func53, Try.ntmps53
        go_wp2_with (first | (at_builtin; refine wpList_pn (ys := [wd5, wd2, nm]) (by rfl) (.tmp 16) (.tmp 19) (by rfl) (by rfl) (by rfl) (by rfl) HS.out (by repeat (first | (with_reducible exact Below.refl _ _) | (with_reducible exact bl_mm) | (with_reducible refine bl_dr ?_) | (with_reducible refine bl_drN ?_ _) | (with_reducible refine bl_al ?_ _) | (with_reducible refine bl_more ?_ _ _))) (by exact alloc_blk (by simp [more_size])) (by have := HL.out;  simp only [List.length_cons, List.length_nil]; omega) ?_; intro v2 w2 g2 hp; obtain ⟨X1, hx1⟩ : ∃ y, xs ++ [wd5, wd2, nm] = y := ⟨_, rfl⟩; rw [hx1] at hp; have HEX1 := hid hx1; have HNX1 : Hid (X1.length = xs.length + 3) := hid (by rw [← hx1, List.length_append]; rfl); clear hx1; obtain ⟨AQ, cq, e2, _, _⟩ := hp.st.sp.form; subst e2; clear x0 x1 x2 x3 x4 x5 xl; obtain ⟨xl, x0, x1, x2, x3, x4, x5⟩ := hp.cells6; clear HS; have HS := hid hp; clear hp))
        have HB2 : Hid (X1.length ≤ xs.length + (hdT nm false true).length) := hid (by rw [← HEX1.out, List.length_append]; exact Nat.le_refl _)
        have HE2 : Hid (xs ++ (hdT nm false true ++ []) = X1) := hid (by rw [List.append_nil]; exact HEX1.out)
        go_loopg [0, 40] af.length (fun k vo vi wr => ∃ (i g : Nat) (B : Option Addr) (cb : Nat) (X3 : List ByteArray), i + k = af.length ∧ vi = .int .i64 (i : Int) ∧ vo = .slice B X3.length cb ∧ X3 = X1 ++ aftT (af.take i) ∧ PN w0 w.heap.size #[.string nm, .string un, .slice A1 af.length c1, .bool false, .bool true, .slice A2 al.length c2] 73 wr g vo X3)
        case atStart => exact ⟨0, _, _, _, X1, by omega, rfl, rfl, by simp [aftT], HS.out.below (by repeat (first | (with_reducible exact Below.refl _ _) | (with_reducible exact bl_mm) | (with_reducible refine bl_dr ?_) | (with_reducible refine bl_drN ?_ _) | (with_reducible refine bl_al ?_ _) | (with_reducible refine bl_more ?_ _ _)))⟩
        case round =>
          obtain ⟨i, g, B, cb, X3, hk, rfl, rfl, hxi, hs⟩ := hrel
          have HS := hid hs
          have HK := hid hk
          have HXI := hid hxi
          clear x0 x1 x2 x3 x4 x5 xl
          obtain ⟨xl, x0, x1, x2, x3, x4, x5⟩ := hs.cells6
          by_cases hil : i < af.length
          · obtain ⟨s, hx⟩ := get_lt hil
            have HX := hid hx
            have HI := hid (And.intro hil trivial)
            have hi0 : (0 : Int) ≤ i := by omega
            have hi1 : (i : Int) < af.length := by omega
            obtain ⟨b, off, rfl, _, hbl, y1⟩ := row_str (HR1.out.below hs.st.low) hx
            have HLI : Hid (X3.length + 16 ≤ 4294967296) := hid (by have h1 := aftT_take af i; have := HL.out; have := HB2.out; rw [hxi, List.length_append]; omega)
            have hnx := aftT_next hx
            by_cases hi : i = 0
            · have hie : ((i : Int) == 0) = true := by rw [hi]; rfl
              rw [if_pos hi] at hnx
              have HNX := hid hnx
              clear hk hil hx hs hxi hi hnx
              go_wp2_with (first | (at_builtin; refine wpList_pn (ys := [wd4, s]) (by rfl) (.tmp 47) (.tmp 50) (by rfl) (by rfl) (by rfl) (by rfl) HS.out (by repeat (first | (with_reducible exact Below.refl _ _) | (with_reducible exact bl_mm) | (with_reducible refine bl_dr ?_) | (with_reducible refine bl_drN ?_ _) | (with_reducible refine bl_al ?_ _) | (with_reducible refine bl_more ?_ _ _))) (by exact alloc_blk (by simp [more_size])) (by have := HL.out; have := HLI.out; simp only [List.length_cons, List.length_nil]; omega) ?_; intro v2 w2 g2 hp; obtain ⟨X4, hx1⟩ : ∃ y, X3 ++ [wd4, s] = y := ⟨_, rfl⟩; rw [hx1] at hp; have HEX4 := hid hx1; have HNX4 : Hid (X4.length = X3.length + 2) := hid (by rw [← hx1, List.length_append]; rfl); clear hx1; obtain ⟨AQ, cq, e2, _, _⟩ := hp.st.sp.form; subst e2; clear x0 x1 x2 x3 x4 x5 xl; obtain ⟨xl, x0, x1, x2, x3, x4, x5⟩ := hp.cells6; clear HS; have HS := hid hp; clear hp))
              go_roundg (af.length - (i + 1))
              case measure => have := HK.out; have := HI.out.1; omega
              case rel => exact ⟨i + 1, _, _, _, X4, by have := HI.out.1; omega, rfl, rfl, by rw [← HEX4.out, HXI.out, HNX.out, List.append_assoc], HS.out⟩
            · have hie : ((i : Int) == 0) = false := by rw [beq_eq_false_iff_ne]; omega
              rw [if_neg hi] at hnx
              have HNX := hid hnx
              clear hk hil hx hs hxi hi hnx
              go_wp2_with (first | (at_builtin; refine wpList_pn (ys := [cCm, s]) (by rfl) (.tmp 47) (.tmp 50) (by rfl) (by rfl) (by rfl) (by rfl) HS.out (by repeat (first | (with_reducible exact Below.refl _ _) | (with_reducible exact bl_mm) | (with_reducible refine bl_dr ?_) | (with_reducible refine bl_drN ?_ _) | (with_reducible refine bl_al ?_ _) | (with_reducible refine bl_more ?_ _ _))) (by exact alloc_blk (by simp [more_size])) (by have := HL.out; have := HLI.out; simp only [List.length_cons, List.length_nil]; omega) ?_; intro v2 w2 g2 hp; obtain ⟨X4, hx1⟩ : ∃ y, X3 ++ [cCm, s] = y := ⟨_, rfl⟩; rw [hx1] at hp; have HEX4 := hid hx1; have HNX4 : Hid (X4.length = X3.length + 2) := hid (by rw [← hx1, List.length_append]; rfl); clear hx1; obtain ⟨AQ, cq, e2, _, _⟩ := hp.st.sp.form; subst e2; clear x0 x1 x2 x3 x4 x5 xl; obtain ⟨xl, x0, x1, x2, x3, x4, x5⟩ := hp.cells6; clear HS; have HS := hid hp; clear hp))
              go_roundg (af.length - (i + 1))
              case measure => have := HK.out; have := HI.out.1; omega
              case rel => exact ⟨i + 1, _, _, _, X4, by have := HI.out.1; omega, rfl, rfl, by rw [← HEX4.out, HXI.out, HNX.out, List.append_assoc], HS.out⟩
          · have hie : i = af.length := by omega
            subst hie
            rw [List.take_length] at hxi
            have hnl : ¬ (af.length : Int) < af.length := by omega
            have HL3 : Hid (X3.length = X1.length + (aftT af).length) := hid (by rw [hxi, List.length_append])
            have HX3 : Hid (X1 ++ aftT af = X3) := hid hxi.symm
            clear hk hil hs hxi
            have HL3s : Hid (X3.length + 16 ≤ 4294967296) := hid (by have := HL.out; have := HL3.out; have := HB2.out; omega)
            go_wp2_with (first | (at_builtin; refine wpList_pn (ys := [cSm]) (by rfl) (.tmp 59) (.tmp 60) (by rfl) (by rfl) (by rfl) (by rfl) HS.out (by repeat (first | (with_reducible exact Below.refl _ _) | (with_reducible exact bl_mm) | (with_reducible refine bl_dr ?_) | (with_reducible refine bl_drN ?_ _) | (with_reducible refine bl_al ?_ _) | (with_reducible refine bl_more ?_ _ _))) (by exact alloc_blk (by simp [more_size])) (by have := HL.out; have := HL3s.out; simp only [List.length_cons, List.length_nil]; omega) ?_; intro v2 w2 g2 hp; obtain ⟨X5, hx1⟩ : ∃ y, X3 ++ [cSm] = y := ⟨_, rfl⟩; rw [hx1] at hp; have HEX5 := hid hx1; have HNX5 : Hid (X5.length = X3.length + 1) := hid (by rw [← hx1, List.length_append]; rfl); clear hx1; obtain ⟨AQ, cq, e2, _, _⟩ := hp.st.sp.form; subst e2; clear x0 x1 x2 x3 x4 x5 xl; obtain ⟨xl, x0, x1, x2, x3, x4, x5⟩ := hp.cells6; clear HS; have HS := hid hp; clear hp))
            go_ret
            refine ⟨_, g2, rfl, ?_⟩
            have he := HEX5.out
            rw [← HX3.out, ← HE2.out] at he
            simp only [List.append_assoc] at he
            exact Strs.eqL HS.out.st he
      · have hs := emp_f hu
        have hut : undoT un = [wd3, un] := by unfold undoT; rw [if_neg hu]
        rw [hut] at HL ⊢
        have HL : Hid (xs.length + ((hdT nm false true).length + (2 + ((aftT af).length + (if false = true then tkA al else [cSm]).length))) + 16 ≤ 4294967296) := hid HL.out
        clear hu hut
        go_enter Try.func53, Try.ntmps53
        go_wp2_with (first | (at_builtin; refine wpList_pn (ys := [wd5, wd2, nm]) (by rfl) (.tmp 16) (.tmp 19) (by rfl) (by rfl) (by rfl) (by rfl) HS.out (by repeat (first | (with_reducible exact Below.refl _ _) | (with_reducible exact bl_mm) | (with_reducible refine bl_dr ?_) | (with_reducible refine bl_drN ?_ _) | (with_reducible refine bl_al ?_ _) | (with_reducible refine bl_more ?_ _ _))) (by exact alloc_blk (by simp [more_size])) (by have := HL.out;  simp only [List.length_cons, List.length_nil]; omega) ?_; intro v2 w2 g2 hp; obtain ⟨X1, hx1⟩ : ∃ y, xs ++ [wd5, wd2, nm] = y := ⟨_, rfl⟩; rw [hx1] at hp; have HEX1 := hid hx1; have HNX1 : Hid (X1.length = xs.length + 3) := hid (by rw [← hx1, List.length_append]; rfl); clear hx1; obtain ⟨AQ, cq, e2, _, _⟩ := hp.st.sp.form; subst e2; clear x0 x1 x2 x3 x4 x5 xl; obtain ⟨xl, x0, x1, x2, x3, x4, x5⟩ := hp.cells6; clear HS; have HS := hid hp; clear hp) | (at_builtin; refine wpList_pn (ys := [wd3, un]) (by rfl) (.tmp 32) (.tmp 35) (by rfl) (by rfl) (by rfl) (by rfl) HS.out (by repeat (first | (with_reducible exact Below.refl _ _) | (with_reducible exact bl_mm) | (with_reducible refine bl_dr ?_) | (with_reducible refine bl_drN ?_ _) | (with_reducible refine bl_al ?_ _) | (with_reducible refine bl_more ?_ _ _))) (by exact alloc_blk (by simp [more_size])) (by have := HL.out; have := HNX1.out; simp only [List.length_cons, List.length_nil]; omega) ?_; intro v2 w2 g2 hp; obtain ⟨X2, hx1⟩ : ∃ y, X1 ++ [wd3, un] = y := ⟨_, rfl⟩; rw [hx1] at hp; have HEX2 := hid hx1; have HNX2 : Hid (X2.length = X1.length + 2) := hid (by rw [← hx1, List.length_append]; rfl); clear hx1; obtain ⟨AQ, cq, e2, _, _⟩ := hp.st.sp.form; subst e2; clear x0 x1 x2 x3 x4 x5 xl; obtain ⟨xl, x0, x1, x2, x3, x4, x5⟩ := hp.cells6; clear HS; have HS := hid hp; clear hp))
        have HB2 : Hid (X2.length ≤ xs.length + (hdT nm false true).length + 2) := hid (by rw [← HEX2.out, ← HEX1.out, List.length_append, List.length_append]; exact Nat.le_refl _)
        have HE2 : Hid (xs ++ (hdT nm false true ++ [wd3, un]) = X2) := hid (by rw [← HEX2.out, ← HEX1.out, List.append_assoc]; rfl)
        go_loopg [0, 40] af.length (fun k vo vi wr => ∃ (i g : Nat) (B : Option Addr) (cb : Nat) (X3 : List ByteArray), i + k = af.length ∧ vi = .int .i64 (i : Int) ∧ vo = .slice B X3.length cb ∧ X3 = X2 ++ aftT (af.take i) ∧ PN w0 w.heap.size #[.string nm, .string un, .slice A1 af.length c1, .bool false, .bool true, .slice A2 al.length c2] 73 wr g vo X3)
        case atStart => exact ⟨0, _, _, _, X2, by omega, rfl, rfl, by simp [aftT], HS.out.below (by repeat (first | (with_reducible exact Below.refl _ _) | (with_reducible exact bl_mm) | (with_reducible refine bl_dr ?_) | (with_reducible refine bl_drN ?_ _) | (with_reducible refine bl_al ?_ _) | (with_reducible refine bl_more ?_ _ _)))⟩
        case round =>
          obtain ⟨i, g, B, cb, X3, hk, rfl, rfl, hxi, hs⟩ := hrel
          have HS := hid hs
          have HK := hid hk
          have HXI := hid hxi
          clear x0 x1 x2 x3 x4 x5 xl
          obtain ⟨xl, x0, x1, x2, x3, x4, x5⟩ := hs.cells6
          by_cases hil : i < af.length
          · obtain ⟨s, hx⟩ := get_lt hil
            have HX := hid hx
            have HI := hid (And.intro hil trivial)
            have hi0 : (0 : Int) ≤ i := by omega
            have hi1 : (i : Int) < af.length := by omega
            obtain ⟨b, off, rfl, _, hbl, y1⟩ := row_str (HR1.out.below hs.st.low) hx
            have HLI : Hid (X3.length + 16 ≤ 4294967296) := hid (by have h1 := aftT_take af i; have := HL.out; have := HB2.out; rw [hxi, List.length_append]; omega)
            have hnx := aftT_next hx
            by_cases hi : i = 0
            · have hie : ((i : Int) == 0) = true := by rw [hi]; rfl
              rw [if_pos hi] at hnx
              have HNX := hid hnx
              clear hk hil hx hs hxi hi hnx
              go_wp2_with (first | (at_builtin; refine wpList_pn (ys := [wd4, s]) (by rfl) (.tmp 47) (.tmp 50) (by rfl) (by rfl) (by rfl) (by rfl) HS.out (by repeat (first | (with_reducible exact Below.refl _ _) | (with_reducible exact bl_mm) | (with_reducible refine bl_dr ?_) | (with_reducible refine bl_drN ?_ _) | (with_reducible refine bl_al ?_ _) | (with_reducible refine bl_more ?_ _ _))) (by exact alloc_blk (by simp [more_size])) (by have := HL.out; have := HLI.out; simp only [List.length_cons, List.length_nil]; omega) ?_; intro v2 w2 g2 hp; obtain ⟨X4, hx1⟩ : ∃ y, X3 ++ [wd4, s] = y := ⟨_, rfl⟩; rw [hx1] at hp; have HEX4 := hid hx1; have HNX4 : Hid (X4.length = X3.length + 2) := hid (by rw [← hx1, List.length_append]; rfl); clear hx1; obtain ⟨AQ, cq, e2, _, _⟩ := hp.st.sp.form; subst e2; clear x0 x1 x2 x3 x4 x5 xl; obtain ⟨xl, x0, x1, x2, x3, x4, x5⟩ := hp.cells6; clear HS; have HS := hid hp; clear hp))
              go_roundg (af.length - (i + 1))
              case measure => have := HK.out; have := HI.out.1; omega
              case rel => exact ⟨i + 1, _, _, _, X4, by have := HI.out.1; omega, rfl, rfl, by rw [← HEX4.out, HXI.out, HNX.out, List.append_assoc], HS.out⟩
            · have hie : ((i : Int) == 0) = false := by rw [beq_eq_false_iff_ne]; omega
              rw [if_neg hi] at hnx
              have HNX := hid hnx
              clear hk hil hx hs hxi hi hnx
              go_wp2_with (first | (at_builtin; refine wpList_pn (ys := [cCm, s]) (by rfl) (.tmp 47) (.tmp 50) (by rfl) (by rfl) (by rfl) (by rfl) HS.out (by repeat (first | (with_reducible exact Below.refl _ _) | (with_reducible exact bl_mm) | (with_reducible refine bl_dr ?_) | (with_reducible refine bl_drN ?_ _) | (with_reducible refine bl_al ?_ _) | (with_reducible refine bl_more ?_ _ _))) (by exact alloc_blk (by simp [more_size])) (by have := HL.out; have := HLI.out; simp only [List.length_cons, List.length_nil]; omega) ?_; intro v2 w2 g2 hp; obtain ⟨X4, hx1⟩ : ∃ y, X3 ++ [cCm, s] = y := ⟨_, rfl⟩; rw [hx1] at hp; have HEX4 := hid hx1; have HNX4 : Hid (X4.length = X3.length + 2) := hid (by rw [← hx1, List.length_append]; rfl); clear hx1; obtain ⟨AQ, cq, e2, _, _⟩ := hp.st.sp.form; subst e2; clear x0 x1 x2 x3 x4 x5 xl; obtain ⟨xl, x0, x1, x2, x3, x4, x5⟩ := hp.cells6; clear HS; have HS := hid hp; clear hp))
              go_roundg (af.length - (i + 1))
              case measure => have := HK.out; have := HI.out.1; omega
              case rel => exact ⟨i + 1, _, _, _, X4, by have := HI.out.1; omega, rfl, rfl, by rw [← HEX4.out, HXI.out, HNX.out, List.append_assoc], HS.out⟩
          · have hie : i = af.length := by omega
            subst hie
            rw [List.take_length] at hxi
            have hnl : ¬ (af.length : Int) < af.length := by omega
            have HL3 : Hid (X3.length = X2.length + (aftT af).length) := hid (by rw [hxi, List.length_append])
            have HX3 : Hid (X2 ++ aftT af = X3) := hid hxi.symm
            clear hk hil hs hxi
            have HL3s : Hid (X3.length + 16 ≤ 4294967296) := hid (by have := HL.out; have := HL3.out; have := HB2.out; omega)
            go_wp2_with (first | (at_builtin; refine wpList_pn (ys := [cSm]) (by rfl) (.tmp 59) (.tmp 60) (by rfl) (by rfl) (by rfl) (by rfl) HS.out (by repeat (first | (with_reducible exact Below.refl _ _) | (with_reducible exact bl_mm) | (with_reducible refine bl_dr ?_) | (with_reducible refine bl_drN ?_ _) | (with_reducible refine bl_al ?_ _) | (with_reducible refine bl_more ?_ _ _))) (by exact alloc_blk (by simp [more_size])) (by have := HL.out; have := HL3s.out; simp only [List.length_cons, List.length_nil]; omega) ?_; intro v2 w2 g2 hp; obtain ⟨X5, hx1⟩ : ∃ y, X3 ++ [cSm] = y := ⟨_, rfl⟩; rw [hx1] at hp; have HEX5 := hid hx1; have HNX5 : Hid (X5.length = X3.length + 1) := hid (by rw [← hx1, List.length_append]; rfl); clear hx1; obtain ⟨AQ, cq, e2, _, _⟩ := hp.st.sp.form; subst e2; clear x0 x1 x2 x3 x4 x5 xl; obtain ⟨xl, x0, x1, x2, x3, x4, x5⟩ := hp.cells6; clear HS; have HS := hid hp; clear hp))
            go_ret
            refine ⟨_, g2, rfl, ?_⟩
            have he := HEX5.out
            rw [← HX3.out, ← HE2.out] at he
            simp only [List.append_assoc] at he
            exact Strs.eqL HS.out.st he
  | false =>
    cases sb with
    | true =>
      by_cases hu : un.size = 0
      · have hs := emp_t hu
        have hs2 : un.toList = [] := List.isEmpty_iff.1 (by cases h : un.toList with | nil => rfl | cons a l => rw [h] at hs; cases hs)
        have hut : undoT un = [] := by unfold undoT; rw [if_pos hu]
        rw [hut] at HL ⊢
        have HL : Hid (xs.length + ((hdT nm true false).length + (0 + ((aftT af).length + (if true = true then tkA al else [cSm]).length))) + 16 ≤ 4294967296) := hid HL.out
        clear hu hut hs
        go_enter Try.func53, Try.ntmps53
        go_wp2_with (first | (at_builtin; refine wpList_pn (ys := [wd6, wd2, nm]) (by rfl) (.tmp 24) (.tmp 27) (by rfl) (by rfl) (by rfl) (by rfl) HS.out (by repeat (first | (with_reducible exact Below.refl _ _) | (with_reducible exact bl_mm) | (with_reducible refine bl_dr ?_) | (with_reducible refine bl_drN ?_ _) | (with_reducible refine bl_al ?_ _) | (with_reducible refine bl_more ?_ _ _))) (by exact alloc_blk (by simp [more_size])) (by have := HL.out;  simp only [List.length_cons, List.length_nil]; omega) ?_; intro v2 w2 g2 hp; obtain ⟨X1, hx1⟩ : ∃ y, xs ++ [wd6, wd2, nm] = y := ⟨_, rfl⟩; rw [hx1] at hp; have HEX1 := hid hx1; have HNX1 : Hid (X1.length = xs.length + 3) := hid (by rw [← hx1, List.length_append]; rfl); clear hx1; obtain ⟨AQ, cq, e2, _, _⟩ := hp.st.sp.form; subst e2; clear x0 x1 x2 x3 x4 x5 xl; obtain ⟨xl, x0, x1, x2, x3, x4, x5⟩ := hp.cells6; clear HS; have HS := hid hp; clear hp))
        have HB2 : Hid (X1.length ≤ xs.length + (hdT nm true false).length) := hid (by rw [← HEX1.out, List.length_append]; exact Nat.le_refl _)
        have HE2 : Hid (xs ++ (hdT nm true false ++ []) = X1) := hid (by rw [List.append_nil]; exact HEX1.out)
        go_loopg [0, 40] af.length (fun k vo vi wr => ∃ (i g : Nat) (B : Option Addr) (cb : Nat) (X3 : List ByteArray), i + k = af.length ∧ vi = .int .i64 (i : Int) ∧ vo = .slice B X3.length cb ∧ X3 = X1 ++ aftT (af.take i) ∧ PN w0 w.heap.size #[.string nm, .string un, .slice A1 af.length c1, .bool true, .bool false, .slice A2 al.length c2] 73 wr g vo X3)
        case atStart => exact ⟨0, _, _, _, X1, by omega, rfl, rfl, by simp [aftT], HS.out.below (by repeat (first | (with_reducible exact Below.refl _ _) | (with_reducible exact bl_mm) | (with_reducible refine bl_dr ?_) | (with_reducible refine bl_drN ?_ _) | (with_reducible refine bl_al ?_ _) | (with_reducible refine bl_more ?_ _ _)))⟩
        case round =>
          obtain ⟨i, g, B, cb, X3, hk, rfl, rfl, hxi, hs⟩ := hrel
          have HS := hid hs
          have HK := hid hk
          have HXI := hid hxi
          clear x0 x1 x2 x3 x4 x5 xl
          obtain ⟨xl, x0, x1, x2, x3, x4, x5⟩ := hs.cells6
          by_cases hil : i < af.length
          · obtain ⟨s, hx⟩ := get_lt hil
            have HX := hid hx
            have HI := hid (And.intro hil trivial)
            have hi0 : (0 : Int) ≤ i := by omega
            have hi1 : (i : Int) < af.length := by omega
            obtain ⟨b, off, rfl, _, hbl, y1⟩ := row_str (HR1.out.below hs.st.low) hx
            have HLI : Hid (X3.length + 16 ≤ 4294967296) := hid (by have h1 := aftT_take af i; have := HL.out; have := HB2.out; rw [hxi, List.length_append]; omega)
            have hnx := aftT_next hx
            by_cases hi : i = 0
            · have hie : ((i : Int) == 0) = true := by rw [hi]; rfl
              rw [if_pos hi] at hnx
              have HNX := hid hnx
              clear hk hil hx hs hxi hi hnx
              go_wp2_with (first | (at_builtin; refine wpList_pn (ys := [wd4, s]) (by rfl) (.tmp 47) (.tmp 50) (by rfl) (by rfl) (by rfl) (by rfl) HS.out (by repeat (first | (with_reducible exact Below.refl _ _) | (with_reducible exact bl_mm) | (with_reducible refine bl_dr ?_) | (with_reducible refine bl_drN ?_ _) | (with_reducible refine bl_al ?_ _) | (with_reducible refine bl_more ?_ _ _))) (by exact alloc_blk (by simp [more_size])) (by have := HL.out; have := HLI.out; simp only [List.length_cons, List.length_nil]; omega) ?_; intro v2 w2 g2 hp; obtain ⟨X4, hx1⟩ : ∃ y, X3 ++ [wd4, s] = y := ⟨_, rfl⟩; rw [hx1] at hp; have HEX4 := hid hx1; have HNX4 : Hid (X4.length = X3.length + 2) := hid (by rw [← hx1, List.length_append]; rfl); clear hx1; obtain ⟨AQ, cq, e2, _, _⟩ := hp.st.sp.form; subst e2; clear x0 x1 x2 x3 x4 x5 xl; obtain ⟨xl, x0, x1, x2, x3, x4, x5⟩ := hp.cells6; clear HS; have HS := hid hp; clear hp))
              go_roundg (af.length - (i + 1))
              case measure => have := HK.out; have := HI.out.1; omega
              case rel => exact ⟨i + 1, _, _, _, X4, by have := HI.out.1; omega, rfl, rfl, by rw [← HEX4.out, HXI.out, HNX.out, List.append_assoc], HS.out⟩
            · have hie : ((i : Int) == 0) = false := by rw [beq_eq_false_iff_ne]; omega
              rw [if_neg hi] at hnx
              have HNX := hid hnx
              clear hk hil hx hs hxi hi hnx
              go_wp2_with (first | (at_builtin; refine wpList_pn (ys := [cCm, s]) (by rfl) (.tmp 47) (.tmp 50) (by rfl) (by rfl) (by rfl) (by rfl) HS.out (by repeat (first | (with_reducible exact Below.refl _ _) | (with_reducible exact bl_mm) | (with_reducible refine bl_dr ?_) | (with_reducible refine bl_drN ?_ _) | (with_reducible refine bl_al ?_ _) | (with_reducible refine bl_more ?_ _ _))) (by exact alloc_blk (by simp [more_size])) (by have := HL.out; have := HLI.out; simp only [List.length_cons, List.length_nil]; omega) ?_; intro v2 w2 g2 hp; obtain ⟨X4, hx1⟩ : ∃ y, X3 ++ [cCm, s] = y := ⟨_, rfl⟩; rw [hx1] at hp; have HEX4 := hid hx1; have HNX4 : Hid (X4.length = X3.length + 2) := hid (by rw [← hx1, List.length_append]; rfl); clear hx1; obtain ⟨AQ, cq, e2, _, _⟩ := hp.st.sp.form; subst e2; clear x0 x1 x2 x3 x4 x5 xl; obtain ⟨xl, x0, x1, x2, x3, x4, x5⟩ := hp.cells6; clear HS; have HS := hid hp; clear hp))
              go_roundg (af.length - (i + 1))
              case measure => have := HK.out; have := HI.out.1; omega
              case rel => exact ⟨i + 1, _, _, _, X4, by have := HI.out.1; omega, rfl, rfl, by rw [← HEX4.out, HXI.out, HNX.out, List.append_assoc], HS.out⟩
          · have hie : i = af.length := by omega
            subst hie
            rw [List.take_length] at hxi
            have hnl : ¬ (af.length : Int) < af.length := by omega
            have HL3 : Hid (X3.length = X1.length + (aftT af).length) := hid (by rw [hxi, List.length_append])
            have HX3 : Hid (X1 ++ aftT af = X3) := hid hxi.symm
            clear hk hil hs hxi
            have HLP : Hid (X3.length + (tkA al).length + 16 ≤ 4294967296) := hid (by have := HL.out; have := HL3.out; have := HB2.out; simp only [if_true] at *; omega)
            go_wp2_with (first | (go_at_call 31; refine (PutP.at HP.out (HS.out.st.below (by repeat (first | (with_reducible exact Below.refl _ _) | (with_reducible exact bl_mm) | (with_reducible refine bl_dr ?_) | (with_reducible refine bl_drN ?_ _) | (with_reducible refine bl_al ?_ _) | (with_reducible refine bl_more ?_ _ _)))) HR2.out HLP.out).mono ?_; rintro e w3 ⟨v3, g3, rfl, hs3⟩; have HQ := hid hs3; clear hs3))
            go_ret
            refine ⟨_, g3, rfl, ?_⟩
            have := HQ.out
            rw [← HX3.out, ← HE2.out] at this
            simp only [List.append_assoc] at this
            exact this
      · have hs := emp_f hu
        have hut : undoT un = [wd3, un] := by unfold undoT; rw [if_neg hu]
        rw [hut] at HL ⊢
        have HL : Hid (xs.length + ((hdT nm true false).length + (2 + ((aftT af).length + (if true = true then tkA al else [cSm]).length))) + 16 ≤ 4294967296) := hid HL.out
        clear hu hut
        go_enter Try.func53, Try.ntmps53
        go_wp2_with (first | (at_builtin; refine wpList_pn (ys := [wd6, wd2, nm]) (by rfl) (.tmp 24) (.tmp 27) (by rfl) (by rfl) (by rfl) (by rfl) HS.out (by repeat (first | (with_reducible exact Below.refl _ _) | (with_reducible exact bl_mm) | (with_reducible refine bl_dr ?_) | (with_reducible refine bl_drN ?_ _) | (with_reducible refine bl_al ?_ _) | (with_reducible refine bl_more ?_ _ _))) (by exact alloc_blk (by simp [more_size])) (by have := HL.out;  simp only [List.length_cons, List.length_nil]; omega) ?_; intro v2 w2 g2 hp; obtain ⟨X1, hx1⟩ : ∃ y, xs ++ [wd6, wd2, nm] = y := ⟨_, rfl⟩; rw [hx1] at hp; have HEX1 := hid hx1; have HNX1 : Hid (X1.length = xs.length + 3) := hid (by rw [← hx1, List.length_append]; rfl); clear hx1; obtain ⟨AQ, cq, e2, _, _⟩ := hp.st.sp.form; subst e2; clear x0 x1 x2 x3 x4 x5 xl; obtain ⟨xl, x0, x1, x2, x3, x4, x5⟩ := hp.cells6; clear HS; have HS := hid hp; clear hp) | (at_builtin; refine wpList_pn (ys := [wd3, un]) (by rfl) (.tmp 32) (.tmp 35) (by rfl) (by rfl) (by rfl) (by rfl) HS.out (by repeat (first | (with_reducible exact Below.refl _ _) | (with_reducible exact bl_mm) | (with_reducible refine bl_dr ?_) | (with_reducible refine bl_drN ?_ _) | (with_reducible refine bl_al ?_ _) | (with_reducible refine bl_more ?_ _ _))) (by exact alloc_blk (by simp [more_size])) (by have := HL.out; have := HNX1.out; simp only [List.length_cons, List.length_nil]; omega) ?_; intro v2 w2 g2 hp; obtain ⟨X2, hx1⟩ : ∃ y, X1 ++ [wd3, un] = y := ⟨_, rfl⟩; rw [hx1] at hp; have HEX2 := hid hx1; have HNX2 : Hid (X2.length = X1.length + 2) := hid (by rw [← hx1, List.length_append]; rfl); clear hx1; obtain ⟨AQ, cq, e2, _, _⟩ := hp.st.sp.form; subst e2; clear x0 x1 x2 x3 x4 x5 xl; obtain ⟨xl, x0, x1, x2, x3, x4, x5⟩ := hp.cells6; clear HS; have HS := hid hp; clear hp))
        have HB2 : Hid (X2.length ≤ xs.length + (hdT nm true false).length + 2) := hid (by rw [← HEX2.out, ← HEX1.out, List.length_append, List.length_append]; exact Nat.le_refl _)
        have HE2 : Hid (xs ++ (hdT nm true false ++ [wd3, un]) = X2) := hid (by rw [← HEX2.out, ← HEX1.out, List.append_assoc]; rfl)
        go_loopg [0, 40] af.length (fun k vo vi wr => ∃ (i g : Nat) (B : Option Addr) (cb : Nat) (X3 : List ByteArray), i + k = af.length ∧ vi = .int .i64 (i : Int) ∧ vo = .slice B X3.length cb ∧ X3 = X2 ++ aftT (af.take i) ∧ PN w0 w.heap.size #[.string nm, .string un, .slice A1 af.length c1, .bool true, .bool false, .slice A2 al.length c2] 73 wr g vo X3)
        case atStart => exact ⟨0, _, _, _, X2, by omega, rfl, rfl, by simp [aftT], HS.out.below (by repeat (first | (with_reducible exact Below.refl _ _) | (with_reducible exact bl_mm) | (with_reducible refine bl_dr ?_) | (with_reducible refine bl_drN ?_ _) | (with_reducible refine bl_al ?_ _) | (with_reducible refine bl_more ?_ _ _)))⟩
        case round =>
          obtain ⟨i, g, B, cb, X3, hk, rfl, rfl, hxi, hs⟩ := hrel
          have HS := hid hs
          have HK := hid hk
          have HXI := hid hxi
          clear x0 x1 x2 x3 x4 x5 xl
          obtain ⟨xl, x0, x1, x2, x3, x4, x5⟩ := hs.cells6
          by_cases hil : i < af.length
          · obtain ⟨s, hx⟩ := get_lt hil
            have HX := hid hx
            have HI := hid (And.intro hil trivial)
            have hi0 : (0 : Int) ≤ i := by omega
            have hi1 : (i : Int) < af.length := by omega
            obtain ⟨b, off, rfl, _, hbl, y1⟩ := row_str (HR1.out.below hs.st.low) hx
            have HLI : Hid (X3.length + 16 ≤ 4294967296) := hid (by have h1 := aftT_take af i; have := HL.out; have := HB2.out; rw [hxi, List.length_append]; omega)
            have hnx := aftT_next hx
            by_cases hi : i = 0
            · have hie : ((i : Int) == 0) = true := by rw [hi]; rfl
              rw [if_pos hi] at hnx
              have HNX := hid hnx
              clear hk hil hx hs hxi hi hnx
              go_wp2_with (first | (at_builtin; refine wpList_pn (ys := [wd4, s]) (by rfl) (.tmp 47) (.tmp 50) (by rfl) (by rfl) (by rfl) (by rfl) HS.out (by repeat (first | (with_reducible exact Below.refl _ _) | (with_reducible exact bl_mm) | (with_reducible refine bl_dr ?_) | (with_reducible refine bl_drN ?_ _) | (with_reducible refine bl_al ?_ _) | (with_reducible refine bl_more ?_ _ _))) (by exact alloc_blk (by simp [more_size])) (by have := HL.out; have := HLI.out; simp only [List.length_cons, List.length_nil]; omega) ?_; intro v2 w2 g2 hp; obtain ⟨X4, hx1⟩ : ∃ y, X3 ++ [wd4, s] = y := ⟨_, rfl⟩; rw [hx1] at hp; have HEX4 := hid hx1; have HNX4 : Hid (X4.length = X3.length + 2) := hid (by rw [← hx1, List.length_append]; rfl); clear hx1; obtain ⟨AQ, cq, e2, _, _⟩ := hp.st.sp.form; subst e2; clear x0 x1 x2 x3 x4 x5 xl; obtain ⟨xl, x0, x1, x2, x3, x4, x5⟩ := hp.cells6; clear HS; have HS := hid hp; clear hp))
              go_roundg (af.length - (i + 1))
              case measure => have := HK.out; have := HI.out.1; omega
              case rel => exact ⟨i + 1, _, _, _, X4, by have := HI.out.1; omega, rfl, rfl, by rw [← HEX4.out, HXI.out, HNX.out, List.append_assoc], HS.out⟩
            · have hie : ((i : Int) == 0) = false := by rw [beq_eq_false_iff_ne]; omega
              rw [if_neg hi] at hnx
              have HNX := hid hnx
              clear hk hil hx hs hxi hi hnx
              go_wp2_with (first | (at_builtin; refine wpList_pn (ys := [cCm, s]) (by rfl) (.tmp 47) (.tmp 50) (by rfl) (by rfl) (by rfl) (by rfl) HS.out (by repeat (first | (with_reducible exact Below.refl _ _) | (with_reducible exact bl_mm) | (with_reducible refine bl_dr ?_) | (with_reducible refine bl_drN ?_ _) | (with_reducible refine bl_al ?_ _) | (with_reducible refine bl_more ?_ _ _))) (by exact alloc_blk (by simp [more_size])) (by have := HL.out; have := HLI.out; simp only [List.length_cons, List.length_nil]; omega) ?_; intro v2 w2 g2 hp; obtain ⟨X4, hx1⟩ : ∃ y, X3 ++ [cCm, s] = y := ⟨_, rfl⟩; rw [hx1] at hp; have HEX4 := hid hx1; have HNX4 : Hid (X4.length = X3.length + 2) := hid (by rw [← hx1, List.length_append]; rfl); clear hx1; obtain ⟨AQ, cq, e2, _, _⟩ := hp.st.sp.form; subst e2; clear x0 x1 x2 x3 x4 x5 xl; obtain ⟨xl, x0, x1, x2, x3, x4, x5⟩ := hp.cells6; clear HS; have HS := hid hp; clear hp))
              go_roundg (af.length - (i + 1))
              case measure => have := HK.out; have := HI.out.1; omega
              case rel => exact ⟨i + 1, _, _, _, X4, by have := HI.out.1; omega, rfl, rfl, by rw [← HEX4.out, HXI.out, HNX.out, List.append_assoc], HS.out⟩
          · have hie : i = af.length := by omega
            subst hie
            rw [List.take_length] at hxi
            have hnl : ¬ (af.length : Int) < af.length := by omega
            have HL3 : Hid (X3.length = X2.length + (aftT af).length) := hid (by rw [hxi, List.length_append])
            have HX3 : Hid (X2 ++ aftT af = X3) := hid hxi.symm
            clear hk hil hs hxi
            have HLP : Hid (X3.length + (tkA al).length + 16 ≤ 4294967296) := hid (by have := HL.out; have := HL3.out; have := HB2.out; simp only [if_true] at *; omega)
            go_wp2_with (first | (go_at_call 31; refine (PutP.at HP.out (HS.out.st.below (by repeat (first | (with_reducible exact Below.refl _ _) | (with_reducible exact bl_mm) | (with_reducible refine bl_dr ?_) | (with_reducible refine bl_drN ?_ _) | (with_reducible refine bl_al ?_ _) | (with_reducible refine bl_more ?_ _ _)))) HR2.out HLP.out).mono ?_; rintro e w3 ⟨v3, g3, rfl, hs3⟩; have HQ := hid hs3; clear hs3))
            go_ret
            refine ⟨_, g3, rfl, ?_⟩
            have := HQ.out
            rw [← HX3.out, ← HE2.out] at this
            simp only [List.append_assoc] at this
            exact this
    | false =>
      by_cases hu : un.size = 0
      · have hs := emp_t hu
        have hs2 : un.toList = [] := List.isEmpty_iff.1 (by cases h : un.toList with | nil => rfl | cons a l => rw [h] at hs; cases hs)
        have hut : undoT un = [] := by unfold undoT; rw [if_pos hu]
        rw [hut] at HL ⊢
        have HL : Hid (xs.length + ((hdT nm false false).length + (0 + ((aftT af).length + (if false = true then tkA al else [cSm]).length))) + 16 ≤ 4294967296) := hid HL.out
        clear hu hut hs
        go_enter Try.func53, Try.ntmps53
        go_wp2_with (first | (at_builtin; refine wpList_pn (ys := [wd1, nm]) (by rfl) (.tmp 8) (.tmp 11) (by rfl) (by rfl) (by rfl) (by rfl) HS.out (by repeat (first | (with_reducible exact Below.refl _ _) | (with_reducible exact bl_mm) | (with_reducible refine bl_dr ?_) | (with_reducible refine bl_drN ?_ _) | (with_reducible refine bl_al ?_ _) | (with_reducible refine bl_more ?_ _ _))) (by exact alloc_blk (by simp [more_size])) (by have := HL.out;  simp only [List.length_cons, List.length_nil]; omega) ?_; intro v2 w2 g2 hp; obtain ⟨X1, hx1⟩ : ∃ y, xs ++ [wd1, nm] = y := ⟨_, rfl⟩; rw [hx1] at hp; have HEX1 := hid hx1; have HNX1 : Hid (X1.length = xs.length + 2) := hid (by rw [← hx1, List.length_append]; rfl); clear hx1; obtain ⟨AQ, cq, e2, _, _⟩ := hp.st.sp.form; subst e2; clear x0 x1 x2 x3 x4 x5 xl; obtain ⟨xl, x0, x1, x2, x3, x4, x5⟩ := hp.cells6; clear HS; have HS := hid hp; clear hp))
        have HB2 : Hid (X1.length ≤ xs.length + (hdT nm false false).length) := hid (by rw [← HEX1.out, List.length_append]; exact Nat.le_refl _)
        have HE2 : Hid (xs ++ (hdT nm false false ++ []) = X1) := hid (by rw [List.append_nil]; exact HEX1.out)
        go_loopg [0, 40] af.length (fun k vo vi wr => ∃ (i g : Nat) (B : Option Addr) (cb : Nat) (X3 : List ByteArray), i + k = af.length ∧ vi = .int .i64 (i : Int) ∧ vo = .slice B X3.length cb ∧ X3 = X1 ++ aftT (af.take i) ∧ PN w0 w.heap.size #[.string nm, .string un, .slice A1 af.length c1, .bool false, .bool false, .slice A2 al.length c2] 73 wr g vo X3)
        case atStart => exact ⟨0, _, _, _, X1, by omega, rfl, rfl, by simp [aftT], HS.out.below (by repeat (first | (with_reducible exact Below.refl _ _) | (with_reducible exact bl_mm) | (with_reducible refine bl_dr ?_) | (with_reducible refine bl_drN ?_ _) | (with_reducible refine bl_al ?_ _) | (with_reducible refine bl_more ?_ _ _)))⟩
        case round =>
          obtain ⟨i, g, B, cb, X3, hk, rfl, rfl, hxi, hs⟩ := hrel
          have HS := hid hs
          have HK := hid hk
          have HXI := hid hxi
          clear x0 x1 x2 x3 x4 x5 xl
          obtain ⟨xl, x0, x1, x2, x3, x4, x5⟩ := hs.cells6
          by_cases hil : i < af.length
          · obtain ⟨s, hx⟩ := get_lt hil
            have HX := hid hx
            have HI := hid (And.intro hil trivial)
            have hi0 : (0 : Int) ≤ i := by omega
            have hi1 : (i : Int) < af.length := by omega
            obtain ⟨b, off, rfl, _, hbl, y1⟩ := row_str (HR1.out.below hs.st.low) hx
            have HLI : Hid (X3.length + 16 ≤ 4294967296) := hid (by have h1 := aftT_take af i; have := HL.out; have := HB2.out; rw [hxi, List.length_append]; omega)
            have hnx := aftT_next hx
            by_cases hi : i = 0
            · have hie : ((i : Int) == 0) = true := by rw [hi]; rfl
              rw [if_pos hi] at hnx
              have HNX := hid hnx
              clear hk hil hx hs hxi hi hnx
              go_wp2_with (first | (at_builtin; refine wpList_pn (ys := [wd4, s]) (by rfl) (.tmp 47) (.tmp 50) (by rfl) (by rfl) (by rfl) (by rfl) HS.out (by repeat (first | (with_reducible exact Below.refl _ _) | (with_reducible exact bl_mm) | (with_reducible refine bl_dr ?_) | (with_reducible refine bl_drN ?_ _) | (with_reducible refine bl_al ?_ _) | (with_reducible refine bl_more ?_ _ _))) (by exact alloc_blk (by simp [more_size])) (by have := HL.out; have := HLI.out; simp only [List.length_cons, List.length_nil]; omega) ?_; intro v2 w2 g2 hp; obtain ⟨X4, hx1⟩ : ∃ y, X3 ++ [wd4, s] = y := ⟨_, rfl⟩; rw [hx1] at hp; have HEX4 := hid hx1; have HNX4 : Hid (X4.length = X3.length + 2) := hid (by rw [← hx1, List.length_append]; rfl); clear hx1; obtain ⟨AQ, cq, e2, _, _⟩ := hp.st.sp.form; subst e2; clear x0 x1 x2 x3 x4 x5 xl; obtain ⟨xl, x0, x1, x2, x3, x4, x5⟩ := hp.cells6; clear HS; have HS := hid hp; clear hp))
              go_roundg (af.length - (i + 1))
              case measure => have := HK.out; have := HI.out.1; omega
              case rel => exact ⟨i + 1, _, _, _, X4, by have := HI.out.1; omega, rfl, rfl, by rw [← HEX4.out, HXI.out, HNX.out, List.append_assoc], HS.out⟩
            · have hie : ((i : Int) == 0) = false := by rw [beq_eq_false_iff_ne]; omega
              rw [if_neg hi] at hnx
              have HNX := hid hnx
              clear hk hil hx hs hxi hi hnx
              go_wp2_with (first | (at_builtin; refine wpList_pn (ys := [cCm, s]) (by rfl) (.tmp 47) (.tmp 50) (by rfl) (by rfl) (by rfl) (by rfl) HS.out (by repeat (first | (with_reducible exact Below.refl _ _) | (with_reducible exact bl_mm) | (with_reducible refine bl_dr ?_) | (with_reducible refine bl_drN ?_ _) | (with_reducible refine bl_al ?_ _) | (with_reducible refine bl_more ?_ _ _))) (by exact alloc_blk (by simp [more_size])) (by have := HL.out; have := HLI.out; simp only [List.length_cons, List.length_nil]; omega) ?_; intro v2 w2 g2 hp; obtain ⟨X4, hx1⟩ : ∃ y, X3 ++ [cCm, s] = y := ⟨_, rfl⟩; rw [hx1] at hp; have HEX4 := hid hx1; have HNX4 : Hid (X4.length = X3.length + 2) := hid (by rw [← hx1, List.length_append]; rfl); clear hx1; obtain ⟨AQ, cq, e2, _, _⟩ := hp.st.sp.form; subst e2; clear x0 x1 x2 x3 x4 x5 xl; obtain ⟨xl, x0, x1, x2, x3, x4, x5⟩ := hp.cells6; clear HS; have HS := hid hp; clear hp))
              go_roundg (af.length - (i + 1))
              case measure => have := HK.out; have := HI.out.1; omega
              case rel => exact ⟨i + 1, _, _, _, X4, by have := HI.out.1; omega, rfl, rfl, by rw [← HEX4.out, HXI.out, HNX.out, List.append_assoc], HS.out⟩
          · have hie : i = af.length := by omega
            subst hie
            rw [List.take_length] at hxi
            have hnl : ¬ (af.length : Int) < af.length := by omega
            have HL3 : Hid (X3.length = X1.length + (aftT af).length) := hid (by rw [hxi, List.length_append])
            have HX3 : Hid (X1 ++ aftT af = X3) := hid hxi.symm
            clear hk hil hs hxi
            have HL3s : Hid (X3.length + 16 ≤ 4294967296) := hid (by have := HL.out; have := HL3.out; have := HB2.out; omega)
            go_wp2_with (first | (at_builtin; refine wpList_pn (ys := [cSm]) (by rfl) (.tmp 59) (.tmp 60) (by rfl) (by rfl) (by rfl) (by rfl) HS.out (by repeat (first | (with_reducible exact Below.refl _ _) | (with_reducible exact bl_mm) | (with_reducible refine bl_dr ?_) | (with_reducible refine bl_drN ?_ _) | (with_reducible refine bl_al ?_ _) | (with_reducible refine bl_more ?_ _ _))) (by exact alloc_blk (by simp [more_size])) (by have := HL.out; have := HL3s.out; simp only [List.length_cons, List.length_nil]; omega) ?_; intro v2 w2 g2 hp; obtain ⟨X5, hx1⟩ : ∃ y, X3 ++ [cSm] = y := ⟨_, rfl⟩; rw [hx1] at hp; have HEX5 := hid hx1; have HNX5 : Hid (X5.length = X3.length + 1) := hid (by rw [← hx1, List.length_append]; rfl); clear hx1; obtain ⟨AQ, cq, e2, _, _⟩ := hp.st.sp.form; subst e2; clear x0 x1 x2 x3 x4 x5 xl; obtain ⟨xl, x0, x1, x2, x3, x4, x5⟩ := hp.cells6; clear HS; have HS := hid hp; clear hp))
            go_ret
            refine ⟨_, g2, rfl, ?_⟩
            have he := HEX5.out
            rw [← HX3.out, ← HE2.out] at he
            simp only [List.append_assoc] at he
            exact Strs.eqL HS.out.st he
      · have hs := emp_f hu
        have hut : undoT un = [wd3, un] := by unfold undoT; rw [if_neg hu]
        rw [hut] at HL ⊢
        have HL : Hid (xs.length + ((hdT nm false false).length + (2 + ((aftT af).length + (if false = true then tkA al else [cSm]).length))) + 16 ≤ 4294967296) := hid HL.out
        clear hu hut
        go_enter Try.func53, Try.ntmps53
        go_wp2_with (first | (at_builtin; refine wpList_pn (ys := [wd1, nm]) (by rfl) (.tmp 8) (.tmp 11) (by rfl) (by rfl) (by rfl) (by rfl) HS.out (by repeat (first | (with_reducible exact Below.refl _ _) | (with_reducible exact bl_mm) | (with_reducible refine bl_dr ?_) | (with_reducible refine bl_drN ?_ _) | (with_reducible refine bl_al ?_ _) | (with_reducible refine bl_more ?_ _ _))) (by exact alloc_blk (by simp [more_size])) (by have := HL.out;  simp only [List.length_cons, List.length_nil]; omega) ?_; intro v2 w2 g2 hp; obtain ⟨X1, hx1⟩ : ∃ y, xs ++ [wd1, nm] = y := ⟨_, rfl⟩; rw [hx1] at hp; have HEX1 := hid hx1; have HNX1 : Hid (X1.length = xs.length + 2) := hid (by rw [← hx1, List.length_append]; rfl); clear hx1; obtain ⟨AQ, cq, e2, _, _⟩ := hp.st.sp.form; subst e2; clear x0 x1 x2 x3 x4 x5 xl; obtain ⟨xl, x0, x1, x2, x3, x4, x5⟩ := hp.cells6; clear HS; have HS := hid hp; clear hp) | (at_builtin; refine wpList_pn (ys := [wd3, un]) (by rfl) (.tmp 32) (.tmp 35) (by rfl) (by rfl) (by rfl) (by rfl) HS.out (by repeat (first | (with_reducible exact Below.refl _ _) | (with_reducible exact bl_mm) | (with_reducible refine bl_dr ?_) | (with_reducible refine bl_drN ?_ _) | (with_reducible refine bl_al ?_ _) | (with_reducible refine bl_more ?_ _ _))) (by exact alloc_blk (by simp [more_size])) (by have := HL.out; have := HNX1.out; simp only [List.length_cons, List.length_nil]; omega) ?_; intro v2 w2 g2 hp; obtain ⟨X2, hx1⟩ : ∃ y, X1 ++ [wd3, un] = y := ⟨_, rfl⟩; rw [hx1] at hp; have HEX2 := hid hx1; have HNX2 : Hid (X2.length = X1.length + 2) := hid (by rw [← hx1, List.length_append]; rfl); clear hx1; obtain ⟨AQ, cq, e2, _, _⟩ := hp.st.sp.form; subst e2; clear x0 x1 x2 x3 x4 x5 xl; obtain ⟨xl, x0, x1, x2, x3, x4, x5⟩ := hp.cells6; clear HS; have HS := hid hp; clear hp))
        have HB2 : Hid (X2.length ≤ xs.length + (hdT nm false false).length + 2) := hid (by rw [← HEX2.out, ← HEX1.out, List.length_append, List.length_append]; exact Nat.le_refl _)
        have HE2 : Hid (xs ++ (hdT nm false false ++ [wd3, un]) = X2) := hid (by rw [← HEX2.out, ← HEX1.out, List.append_assoc]; rfl)
        go_loopg [0, 40] af.length (fun k vo vi wr => ∃ (i g : Nat) (B : Option Addr) (cb : Nat) (X3 : List ByteArray), i + k = af.length ∧ vi = .int .i64 (i : Int) ∧ vo = .slice B X3.length cb ∧ X3 = X2 ++ aftT (af.take i) ∧ PN w0 w.heap.size #[.string nm, .string un, .slice A1 af.length c1, .bool false, .bool false, .slice A2 al.length c2] 73 wr g vo X3)
        case atStart => exact ⟨0, _, _, _, X2, by omega, rfl, rfl, by simp [aftT], HS.out.below (by repeat (first | (with_reducible exact Below.refl _ _) | (with_reducible exact bl_mm) | (with_reducible refine bl_dr ?_) | (with_reducible refine bl_drN ?_ _) | (with_reducible refine bl_al ?_ _) | (with_reducible refine bl_more ?_ _ _)))⟩
        case round =>
          obtain ⟨i, g, B, cb, X3, hk, rfl, rfl, hxi, hs⟩ := hrel
          have HS := hid hs
          have HK := hid hk
          have HXI := hid hxi
          clear x0 x1 x2 x3 x4 x5 xl
          obtain ⟨xl, x0, x1, x2, x3, x4, x5⟩ := hs.cells6
          by_cases hil : i < af.length
          · obtain ⟨s, hx⟩ := get_lt hil
            have HX := hid hx
            have HI := hid (And.intro hil trivial)
            have hi0 : (0 : Int) ≤ i := by omega
            have hi1 : (i : Int) < af.length := by omega
            obtain ⟨b, off, rfl, _, hbl, y1⟩ := row_str (HR1.out.below hs.st.low) hx
            have HLI : Hid (X3.length + 16 ≤ 4294967296) := hid (by have h1 := aftT_take af i; have := HL.out; have := HB2.out; rw [hxi, List.length_append]; omega)
            have hnx := aftT_next hx
            by_cases hi : i = 0
            · have hie : ((i : Int) == 0) = true := by rw [hi]; rfl
              rw [if_pos hi] at hnx
              have HNX := hid hnx
              clear hk hil hx hs hxi hi hnx
              go_wp2_with (first | (at_builtin; refine wpList_pn (ys := [wd4, s]) (by rfl) (.tmp 47) (.tmp 50) (by rfl) (by rfl) (by rfl) (by rfl) HS.out (by repeat (first | (with_reducible exact Below.refl _ _) | (with_reducible exact bl_mm) | (with_reducible refine bl_dr ?_) | (with_reducible refine bl_drN ?_ _) | (with_reducible refine bl_al ?_ _) | (with_reducible refine bl_more ?_ _ _))) (by exact alloc_blk (by simp [more_size])) (by have := HL.out; have := HLI.out; simp only [List.length_cons, List.length_nil]; omega) ?_; intro v2 w2 g2 hp; obtain ⟨X4, hx1⟩ : ∃ y, X3 ++ [wd4, s] = y := ⟨_, rfl⟩; rw [hx1] at hp; have HEX4 := hid hx1; have HNX4 : Hid (X4.length = X3.length + 2) := hid (by rw [← hx1, List.length_append]; rfl); clear hx1; obtain ⟨AQ, cq, e2, _, _⟩ := hp.st.sp.form; subst e2; clear x0 x1 x2 x3 x4 x5 xl; obtain ⟨xl, x0, x1, x2, x3, x4, x5⟩ := hp.cells6; clear HS; have HS := hid hp; clear hp))
              go_roundg (af.length - (i + 1))
              case measure => have := HK.out; have := HI.out.1; omega
              case rel => exact ⟨i + 1, _, _, _, X4, by have := HI.out.1; omega, rfl, rfl, by rw [← HEX4.out, HXI.out, HNX.out, List.append_assoc], HS.out⟩
            · have hie : ((i : Int) == 0) = false := by rw [beq_eq_false_iff_ne]; omega
              rw [if_neg hi] at hnx
              have HNX := hid hnx
              clear hk hil hx hs hxi hi hnx
              go_wp2_with (first | (at_builtin; refine wpList_pn (ys := [cCm, s]) (by rfl) (.tmp 47) (.tmp 50) (by rfl) (by rfl) (by rfl) (by rfl) HS.out (by repeat (first | (with_reducible exact Below.refl _ _) | (with_reducible exact bl_mm) | (with_reducible refine bl_dr ?_) | (with_reducible refine bl_drN ?_ _) | (with_reducible refine bl_al ?_ _) | (with_reducible refine bl_more ?_ _ _))) (by exact alloc_blk (by simp [more_size])) (by have := HL.out; have := HLI.out; simp only [List.length_cons, List.length_nil]; omega) ?_; intro v2 w2 g2 hp; obtain ⟨X4, hx1⟩ : ∃ y, X3 ++ [cCm, s] = y := ⟨_, rfl⟩; rw [hx1] at hp; have HEX4 := hid hx1; have HNX4 : Hid (X4.length = X3.length + 2) := hid (by rw [← hx1, List.length_append]; rfl); clear hx1; obtain ⟨AQ, cq, e2, _, _⟩ := hp.st.sp.form; subst e2; clear x0 x1 x2 x3 x4 x5 xl; obtain ⟨xl, x0, x1, x2, x3, x4, x5⟩ := hp.cells6; clear HS; have HS := hid hp; clear hp))
              go_roundg (af.length - (i + 1))
              case measure => have := HK.out; have := HI.out.1; omega
              case rel => exact ⟨i + 1, _, _, _, X4, by have := HI.out.1; omega, rfl, rfl, by rw [← HEX4.out, HXI.out, HNX.out, List.append_assoc], HS.out⟩
          · have hie : i = af.length := by omega
            subst hie
            rw [List.take_length] at hxi
            have hnl : ¬ (af.length : Int) < af.length := by omega
            have HL3 : Hid (X3.length = X2.length + (aftT af).length) := hid (by rw [hxi, List.length_append])
            have HX3 : Hid (X2 ++ aftT af = X3) := hid hxi.symm
            clear hk hil hs hxi
            have HL3s : Hid (X3.length + 16 ≤ 4294967296) := hid (by have := HL.out; have := HL3.out; have := HB2.out; omega)
            go_wp2_with (first | (at_builtin; refine wpList_pn (ys := [cSm]) (by rfl) (.tmp 59) (.tmp 60) (by rfl) (by rfl) (by rfl) (by rfl) HS.out (by repeat (first | (with_reducible exact Below.refl _ _) | (with_reducible exact bl_mm) | (with_reducible refine bl_dr ?_) | (with_reducible refine bl_drN ?_ _) | (with_reducible refine bl_al ?_ _) | (with_reducible refine bl_more ?_ _ _))) (by exact alloc_blk (by simp [more_size])) (by have := HL.out; have := HL3s.out; simp only [List.length_cons, List.length_nil]; omega) ?_; intro v2 w2 g2 hp; obtain ⟨X5, hx1⟩ : ∃ y, X3 ++ [cSm] = y := ⟨_, rfl⟩; rw [hx1] at hp; have HEX5 := hid hx1; have HNX5 : Hid (X5.length = X3.length + 1) := hid (by rw [← hx1, List.length_append]; rfl); clear hx1; obtain ⟨AQ, cq, e2, _, _⟩ := hp.st.sp.form; subst e2; clear x0 x1 x2 x3 x4 x5 xl; obtain ⟨xl, x0, x1, x2, x3, x4, x5⟩ := hp.cells6; clear HS; have HS := hid hp; clear hp))
            go_ret
            refine ⟨_, g2, rfl, ?_⟩
            have he := HEX5.out
            rw [← HX3.out, ← HE2.out] at he
            simp only [List.append_assoc] at he
            exact Strs.eqL HS.out.st he
end Go.Proofs.Ytidilpciolladaa

/- The program's 'put'. -/
namespace Go.Proofs.Ytidilpciolladaa
open Go.RowKit

theorem PN.cells1 {w0 : World} {bx : Nat} {c0 : Value} {ty : TypeId} {w : World} {g : Nat} {v : Value} {xs : List ByteArray} (h : PN w0 bx #[c0] ty w g v xs) :
    bx < w.heap.size ∧ w.cell? ⟨bx, 0, none⟩ = some c0 := ⟨h.lt, cell_blk h.box 0⟩
set_option maxRecDepth 8000 in
set_option maxHeartbeats 4000000 in
theorem put_any : ∀ n, PutP n := by
  intro n
  induction n using Nat.strongRecOn with
  | ind n ih =>
  intro w0 w g v lv xs K l hs hv hl
  have HIH := hid ih
  obtain ⟨A, cp, rfl, hl1, hl2⟩ := hv.form
  obtain ⟨A0, c0, rfl, _, _⟩ := hs.sp.form
  have HV := hid hv
  have hlx : (l.length : Int) ≤ 9223372036854775807 := by unfold maxLen at hl2; omega
  have hl : xs.length + (cLb :: (tkR l ++ [cRb])).length + 16 ≤ 4294967296 := hl
  simp only [List.length_cons, List.length_append, List.length_nil] at hl
  have HL0 : Hid (xs.length + 16 ≤ 4294967296) := hid (by omega)
  have HL := hid hl
  have HS := hid hs
  clear ih hv hl1 hl2 hl hs
  go_enter Try.func31, Try.ntmps31
  go_wp2_with (first | (at_builtin; refine wpList_strs (ys := [cLb]) (by rfl) (.tmp 9) (.tmp 10) (by rfl) (by rfl) (by rfl) (by rfl) HS.out (by repeat (first | (with_reducible exact Below.refl _ _) | (with_reducible exact bl_mm) | (with_reducible refine bl_dr ?_) | (with_reducible refine bl_drN ?_ _) | (with_reducible refine bl_al ?_ _) | (with_reducible refine bl_more ?_ _ _))) (by exact alloc_blk (by simp [more_size])) (by have := HL0.out; simp only [List.length_cons, List.length_nil]; omega) ?_; intro v2 w2 g2 hp; obtain ⟨X1, hx1⟩ : ∃ y, xs ++ [cLb] = y := ⟨_, rfl⟩; rw [hx1] at hp; have HEX1 := hid hx1; have HNX1 : Hid (X1.length = xs.length + 1) := hid (by rw [← hx1, List.length_append]; rfl); clear hx1; obtain ⟨AQ, cq, e2, _, _⟩ := hp.sp.form; subst e2; clear HS; have HS := hid hp; clear hp))
  go_loopg [0, 14] l.length (fun k vo vi wr => ∃ (i g : Nat) (B : Option Addr) (cb : Nat) (X : List ByteArray), i + k = l.length ∧ vi = .int .i64 (i : Int) ∧ vo = .slice B X.length cb ∧ X = X1 ++ tkR (l.take i) ∧ Strs w0.heap.size w0 wr g vo X)
  case atStart => exact ⟨0, _, _, _, X1, by omega, rfl, rfl, by simp [tkR], HS.out.below (by repeat (first | (with_reducible exact Below.refl _ _) | (with_reducible exact bl_mm) | (with_reducible refine bl_dr ?_) | (with_reducible refine bl_drN ?_ _) | (with_reducible refine bl_al ?_ _) | (with_reducible refine bl_more ?_ _ _)))⟩
  case round =>
    obtain ⟨i, g, B, cb, X, hk, rfl, rfl, hx0, hs⟩ := hrel
    have HK := hid hk
    have HXI := hid hx0
    clear HS
    by_cases hil : i < l.length
    · obtain ⟨x, hx⟩ := get_lt hil
      have HX := hid hx
      have HI := hid (And.intro hil trivial)
      have hi0 : (0 : Int) ≤ i := by omega
      have hi1 : (i : Int) < l.length := by omega
      obtain ⟨b, off, A1, c1, rfl, _, hbl0, y1, hr⟩ := row_body HV.out hx
      obtain ⟨_, _, _, hy1, hy2⟩ := hr.form
      have hyx : (x.length : Int) ≤ 9223372036854775807 := by unfold maxLen at hy2; omega
      have HR := hid hr
      replace y1 := cell_kept hs.low y1
      have hbl : b < wr.heap.size := Nat.lt_of_lt_of_le hbl0 hs.low.size
      have HS := hid (PN.first hs #[.slice A1 x.length c1] 71)
      have HRX := hid (tkR_next hx)
      have hlen : X.length + (orT i).length + 1 + (tkL x).length + 1 + 16 ≤ 4294967296 := by
        have h1 := tkR_take l (i + 1)
        rw [HRX.out] at h1
        simp only [List.length_append, List.length_cons, List.length_nil] at h1
        have h2 := HL.out
        have h3 := HNX1.out
        rw [hx0, List.length_append]
        omega
      have HLI : Hid (X.length + 16 ≤ 4294967296) := hid (by omega)
      have xl := trivial
      have x0 := trivial
      by_cases hi : i = 0
      · have hie : ¬ (0 : Int) < i := by omega
        have HOR : Hid (orT i = []) := hid (by unfold orT; rw [if_pos hi])
        rw [HOR.out] at hlen HRX
        have hlen : X.length + 0 + 1 + (tkL x).length + 1 + 16 ≤ 4294967296 := hlen
        have HLL := hid hlen
        clear hk hil hx hr hy1 hy2 hx0 hs hlen hi hbl0
        go_wp2_with (first | (at_builtin; refine wpList_pn (ys := [cL]) (by rfl) (.tmp 24) (.tmp 25) (by rfl) (by rfl) (by rfl) (by rfl) HS.out (by repeat (first | (with_reducible exact Below.refl _ _) | (with_reducible exact bl_mm) | (with_reducible refine bl_dr ?_) | (with_reducible refine bl_drN ?_ _) | (with_reducible refine bl_al ?_ _) | (with_reducible refine bl_more ?_ _ _))) (by exact alloc_blk (by simp [more_size])) (by have := HLI.out; simp only [List.length_cons, List.length_nil]; omega) ?_; intro v2 w2 g2 hp; obtain ⟨X3, hx1⟩ : ∃ y, X ++ [cL] = y := ⟨_, rfl⟩; rw [hx1] at hp; have HEX3 := hid hx1; have HNX3 : Hid (X3.length = X.length + 1) := hid (by rw [← hx1, List.length_append]; rfl); clear hx1; obtain ⟨AQ, cq, e2, _, _⟩ := hp.st.sp.form; subst e2; clear x0 xl; obtain ⟨xl, x0⟩ := hp.cells1; clear HS; have HS := hid hp; clear hp))
        have HLX : Hid (X3.length + (tkL x).length + 17 ≤ 4294967296) := hid (by have := HLL.out; have := HNX3.out; omega)
        have HE3 : Hid (X3 = X ++ ([] ++ [cL])) := hid HEX3.out.symm
        go_loopg [0, 30] x.length (fun k vo vi wr => ∃ (j g : Nat) (B : Option Addr) (cb : Nat) (Y : List ByteArray), j + k = x.length ∧ vi = .int .i64 (j : Int) ∧ vo = .slice B Y.length cb ∧ Y = X3 ++ tkL (x.take j) ∧ Strs w0.heap.size w0 wr g vo Y)
        case atStart => exact ⟨0, _, _, _, X3, by omega, rfl, rfl, by simp [tkL], HS.out.st.below (by repeat (first | (with_reducible exact Below.refl _ _) | (with_reducible exact bl_mm) | (with_reducible refine bl_dr ?_) | (with_reducible refine bl_drN ?_ _) | (with_reducible refine bl_al ?_ _) | (with_reducible refine bl_more ?_ _ _)))⟩
        case round =>
          obtain ⟨j, g, B, cb, Y, hk, rfl, rfl, hy, hs⟩ := hrel
          clear HS
          have HS := hid hs
          have HK2 := hid hk
          have HY := hid hy
          by_cases hjl : j < x.length
          · obtain ⟨nd, hn⟩ := get_lt hjl
            have HN := hid hn
            have HJ := hid (And.intro hjl trivial)
            have hj0 : (0 : Int) ≤ j := by omega
            have hj1 : (j : Int) < x.length := by omega
            obtain ⟨b2, off2, m, A3, c3, A4, c4, rfl, _, hbl2, hnm, y1, y2, y3, y4, y5, y6, hr1, hr2⟩ := row_node HR.out hn
            have HP := hid (HIH.out m (by omega))
            have HR1 := hid hr1
            have HR2 := hid hr2
            have HEN : Hid (tkN nd = tkN (.mk nd.name nd.undo nd.after nd.sub nd.vital nd.alts)) := hid (by rw [← nd_eta])
            have HNX := hid (tkL_next hn)
            have HLN : Hid (Y.length + (tkN (.mk nd.name nd.undo nd.after nd.sub nd.vital nd.alts)).length + 16 ≤ 4294967296) := hid (by
              have h1 := tkL_take x (j + 1)
              have h2 := HLX.out
              rw [← HEN.out]
              rw [HNX.out, List.length_append] at h1
              rw [hy, List.length_append]
              omega)
            replace y1 := cell_kept hs.low y1
            replace y2 := cell_kept hs.low y2
            replace y3 := cell_kept hs.low y3
            replace y4 := cell_kept hs.low y4
            replace y5 := cell_kept hs.low y5
            replace y6 := cell_kept hs.low y6
            have hbl3 : b2 < wr.heap.size := Nat.lt_of_lt_of_le hbl2 hs.low.size
            clear hk hy hs hjl hn hr1 hr2 hnm hbl2
            go_wp2_with (first | (go_at_call 53; refine (node_of HP.out (HS.out.below (by repeat (first | (with_reducible exact Below.refl _ _) | (with_reducible exact bl_mm) | (with_reducible refine bl_dr ?_) | (with_reducible refine bl_drN ?_ _) | (with_reducible refine bl_al ?_ _) | (with_reducible refine bl_more ?_ _ _)))) HR1.out HR2.out HLN.out).mono ?_; rintro e w3 ⟨v3, g3, rfl, hs3⟩; rw [← HEN.out] at hs3; obtain ⟨Y4, hx4⟩ : ∃ y, Y ++ tkN nd = y := ⟨_, rfl⟩; rw [hx4] at hs3; have HY4 := hid hx4; clear hx4; obtain ⟨AQ, cq, e2, _, _⟩ := hs3.sp.form; subst e2; clear HS; have HS := hid hs3; clear hs3))
            go_roundg (x.length - (j + 1))
            case measure => have := HK2.out; have := HJ.out.1; omega
            case rel => exact ⟨j + 1, _, _, _, Y4, by have := HJ.out.1; omega, rfl, rfl, by rw [← HY4.out, HY.out, HNX.out, List.append_assoc], HS.out⟩
          · have hje : j = x.length := by omega
            subst hje
            rw [List.take_length] at hy
            have hnl : ¬ (x.length : Int) < x.length := by omega
            have HLR : Hid (Y.length + 16 ≤ 4294967296) := hid (by have := HLX.out; rw [hy, List.length_append]; omega)
            have HYE := hid hy
            clear hk hy hs hjl
            go_wp2_with (first | (at_builtin; refine wpList_strs (ys := [cR]) (by rfl) (.tmp 38) (.tmp 39) (by rfl) (by rfl) (by rfl) (by rfl) HS.out (by repeat (first | (with_reducible exact Below.refl _ _) | (with_reducible exact bl_mm) | (with_reducible refine bl_dr ?_) | (with_reducible refine bl_drN ?_ _) | (with_reducible refine bl_al ?_ _) | (with_reducible refine bl_more ?_ _ _))) (by exact alloc_blk (by simp [more_size])) (by have := HLR.out; simp only [List.length_cons, List.length_nil]; omega) ?_; intro v2 w2 g2 hp; obtain ⟨X5, hx1⟩ : ∃ y, Y ++ [cR] = y := ⟨_, rfl⟩; rw [hx1] at hp; have HEX5 := hid hx1; have HNX5 : Hid (X5.length = Y.length + 1) := hid (by rw [← hx1, List.length_append]; rfl); clear hx1; obtain ⟨AQ, cq, e2, _, _⟩ := hp.sp.form; subst e2; clear HS; have HS := hid hp; clear hp))
            go_roundg (l.length - (i + 1))
            case measure => have := HK.out; have := HI.out.1; omega
            case rel => exact ⟨i + 1, _, _, _, X5, by have := HI.out.1; omega, rfl, rfl, by rw [← HEX5.out, HYE.out, HE3.out, HXI.out, HRX.out]; simp, HS.out⟩
      · have hie : (0 : Int) < i := by omega
        have HOR : Hid (orT i = [wd7]) := hid (by unfold orT; rw [if_neg hi])
        rw [HOR.out] at hlen HRX
        have hlen : X.length + 1 + 1 + (tkL x).length + 1 + 16 ≤ 4294967296 := hlen
        have HLL := hid hlen
        have HLI2 : ∀ X2 : List ByteArray, X2.length = X.length + 1 → X2.length + 15 ≤ 4294967296 := fun X2 h => by omega
        have HLI2 := hid HLI2
        clear hk hil hx hr hy1 hy2 hx0 hs hlen hi hbl0
        go_wp2_with (first | (at_builtin; refine wpList_pn (ys := [wd7]) (by rfl) (.tmp 21) (.tmp 22) (by rfl) (by rfl) (by rfl) (by rfl) HS.out (by repeat (first | (with_reducible exact Below.refl _ _) | (with_reducible exact bl_mm) | (with_reducible refine bl_dr ?_) | (with_reducible refine bl_drN ?_ _) | (with_reducible refine bl_al ?_ _) | (with_reducible refine bl_more ?_ _ _))) (by exact alloc_blk (by simp [more_size])) (by have := HLI.out; simp only [List.length_cons, List.length_nil]; omega) ?_; intro v2 w2 g2 hp; obtain ⟨X2, hx1⟩ : ∃ y, X ++ [wd7] = y := ⟨_, rfl⟩; rw [hx1] at hp; have HEX2 := hid hx1; have HNX2 : Hid (X2.length = X.length + 1) := hid (by rw [← hx1, List.length_append]; rfl); clear hx1; obtain ⟨AQ, cq, e2, _, _⟩ := hp.st.sp.form; subst e2; clear x0 xl; obtain ⟨xl, x0⟩ := hp.cells1; clear HS; have HS := hid hp; clear hp) | (at_builtin; refine wpList_pn (ys := [cL]) (by rfl) (.tmp 24) (.tmp 25) (by rfl) (by rfl) (by rfl) (by rfl) HS.out (by repeat (first | (with_reducible exact Below.refl _ _) | (with_reducible exact bl_mm) | (with_reducible refine bl_dr ?_) | (with_reducible refine bl_drN ?_ _) | (with_reducible refine bl_al ?_ _) | (with_reducible refine bl_more ?_ _ _))) (by exact alloc_blk (by simp [more_size])) (by have := HLI.out; have := HNX2.out; simp only [List.length_cons, List.length_nil]; omega) ?_; intro v2 w2 g2 hp; obtain ⟨X3, hx1⟩ : ∃ y, X2 ++ [cL] = y := ⟨_, rfl⟩; rw [hx1] at hp; have HEX3 := hid hx1; have HNX3 : Hid (X3.length = X2.length + 1) := hid (by rw [← hx1, List.length_append]; rfl); clear hx1; obtain ⟨AQ, cq, e2, _, _⟩ := hp.st.sp.form; subst e2; clear x0 xl; obtain ⟨xl, x0⟩ := hp.cells1; clear HS; have HS := hid hp; clear hp))
        have HLX : Hid (X3.length + (tkL x).length + 17 ≤ 4294967296) := hid (by have := HLL.out; have := HNX3.out; have := HNX2.out; omega)
        have HE3 : Hid (X3 = X ++ ([wd7] ++ [cL])) := hid (by rw [← HEX3.out, ← HEX2.out, List.append_assoc])
        go_loopg [0, 30] x.length (fun k vo vi wr => ∃ (j g : Nat) (B : Option Addr) (cb : Nat) (Y : List ByteArray), j + k = x.length ∧ vi = .int .i64 (j : Int) ∧ vo = .slice B Y.length cb ∧ Y = X3 ++ tkL (x.take j) ∧ Strs w0.heap.size w0 wr g vo Y)
        case atStart => exact ⟨0, _, _, _, X3, by omega, rfl, rfl, by simp [tkL], HS.out.st.below (by repeat (first | (with_reducible exact Below.refl _ _) | (with_reducible exact bl_mm) | (with_reducible refine bl_dr ?_) | (with_reducible refine bl_drN ?_ _) | (with_reducible refine bl_al ?_ _) | (with_reducible refine bl_more ?_ _ _)))⟩
        case round =>
          obtain ⟨j, g, B, cb, Y, hk, rfl, rfl, hy, hs⟩ := hrel
          clear HS
          have HS := hid hs
          have HK2 := hid hk
          have HY := hid hy
          by_cases hjl : j < x.length
          · obtain ⟨nd, hn⟩ := get_lt hjl
            have HN := hid hn
            have HJ := hid (And.intro hjl trivial)
            have hj0 : (0 : Int) ≤ j := by omega
            have hj1 : (j : Int) < x.length := by omega
            obtain ⟨b2, off2, m, A3, c3, A4, c4, rfl, _, hbl2, hnm, y1, y2, y3, y4, y5, y6, hr1, hr2⟩ := row_node HR.out hn
            have HP := hid (HIH.out m (by omega))
            have HR1 := hid hr1
            have HR2 := hid hr2
            have HEN : Hid (tkN nd = tkN (.mk nd.name nd.undo nd.after nd.sub nd.vital nd.alts)) := hid (by rw [← nd_eta])
            have HNX := hid (tkL_next hn)
            have HLN : Hid (Y.length + (tkN (.mk nd.name nd.undo nd.after nd.sub nd.vital nd.alts)).length + 16 ≤ 4294967296) := hid (by
              have h1 := tkL_take x (j + 1)
              have h2 := HLX.out
              rw [← HEN.out]
              rw [HNX.out, List.length_append] at h1
              rw [hy, List.length_append]
              omega)
            replace y1 := cell_kept hs.low y1
            replace y2 := cell_kept hs.low y2
            replace y3 := cell_kept hs.low y3
            replace y4 := cell_kept hs.low y4
            replace y5 := cell_kept hs.low y5
            replace y6 := cell_kept hs.low y6
            have hbl3 : b2 < wr.heap.size := Nat.lt_of_lt_of_le hbl2 hs.low.size
            clear hk hy hs hjl hn hr1 hr2 hnm hbl2
            go_wp2_with (first | (go_at_call 53; refine (node_of HP.out (HS.out.below (by repeat (first | (with_reducible exact Below.refl _ _) | (with_reducible exact bl_mm) | (with_reducible refine bl_dr ?_) | (with_reducible refine bl_drN ?_ _) | (with_reducible refine bl_al ?_ _) | (with_reducible refine bl_more ?_ _ _)))) HR1.out HR2.out HLN.out).mono ?_; rintro e w3 ⟨v3, g3, rfl, hs3⟩; rw [← HEN.out] at hs3; obtain ⟨Y4, hx4⟩ : ∃ y, Y ++ tkN nd = y := ⟨_, rfl⟩; rw [hx4] at hs3; have HY4 := hid hx4; clear hx4; obtain ⟨AQ, cq, e2, _, _⟩ := hs3.sp.form; subst e2; clear HS; have HS := hid hs3; clear hs3))
            go_roundg (x.length - (j + 1))
            case measure => have := HK2.out; have := HJ.out.1; omega
            case rel => exact ⟨j + 1, _, _, _, Y4, by have := HJ.out.1; omega, rfl, rfl, by rw [← HY4.out, HY.out, HNX.out, List.append_assoc], HS.out⟩
          · have hje : j = x.length := by omega
            subst hje
            rw [List.take_length] at hy
            have hnl : ¬ (x.length : Int) < x.length := by omega
            have HLR : Hid (Y.length + 16 ≤ 4294967296) := hid (by have := HLX.out; rw [hy, List.length_append]; omega)
            have HYE := hid hy
            clear hk hy hs hjl
            go_wp2_with (first | (at_builtin; refine wpList_strs (ys := [cR]) (by rfl) (.tmp 38) (.tmp 39) (by rfl) (by rfl) (by rfl) (by rfl) HS.out (by repeat (first | (with_reducible exact Below.refl _ _) | (with_reducible exact bl_mm) | (with_reducible refine bl_dr ?_) | (with_reducible refine bl_drN ?_ _) | (with_reducible refine bl_al ?_ _) | (with_reducible refine bl_more ?_ _ _))) (by exact alloc_blk (by simp [more_size])) (by have := HLR.out; simp only [List.length_cons, List.length_nil]; omega) ?_; intro v2 w2 g2 hp; obtain ⟨X5, hx1⟩ : ∃ y, Y ++ [cR] = y := ⟨_, rfl⟩; rw [hx1] at hp; have HEX5 := hid hx1; have HNX5 : Hid (X5.length = Y.length + 1) := hid (by rw [← hx1, List.length_append]; rfl); clear hx1; obtain ⟨AQ, cq, e2, _, _⟩ := hp.sp.form; subst e2; clear HS; have HS := hid hp; clear hp))
            go_roundg (l.length - (i + 1))
            case measure => have := HK.out; have := HI.out.1; omega
            case rel => exact ⟨i + 1, _, _, _, X5, by have := HI.out.1; omega, rfl, rfl, by rw [← HEX5.out, HYE.out, HE3.out, HXI.out, HRX.out]; simp, HS.out⟩
    · have hje : i = l.length := by omega
      subst hje
      have hnl : ¬ (l.length : Int) < l.length := by omega
      rw [List.take_length] at hx0
      have HX0 := hid hx0
      have HLE : Hid (X.length + 16 ≤ 4294967296) := hid (by have := HL.out; have := HNX1.out; rw [hx0, List.length_append]; omega)
      have HS := hid hs
      clear hk hil hx0 hs
      go_wp2_with (first | (at_builtin; refine wpList_strs (ys := [cRb]) (by rfl) (.tmp 42) (.tmp 43) (by rfl) (by rfl) (by rfl) (by rfl) HS.out (by repeat (first | (with_reducible exact Below.refl _ _) | (with_reducible exact bl_mm) | (with_reducible refine bl_dr ?_) | (with_reducible refine bl_drN ?_ _) | (with_reducible refine bl_al ?_ _) | (with_reducible refine bl_more ?_ _ _))) (by exact alloc_blk (by simp [more_size])) (by have := HLE.out; simp only [List.length_cons, List.length_nil]; omega) ?_; intro v2 w2 g2 hp; obtain ⟨X6, hx1⟩ : ∃ y, X ++ [cRb] = y := ⟨_, rfl⟩; rw [hx1] at hp; have HEX6 := hid hx1; have HNX6 : Hid (X6.length = X.length + 1) := hid (by rw [← hx1, List.length_append]; rfl); clear hx1; obtain ⟨AQ, cq, e2, _, _⟩ := hp.sp.form; subst e2; clear HS; have HS := hid hp; clear hp))
      go_ret
      refine ⟨_, g2, rfl, ?_⟩
      have he := HEX6.out
      rw [HX0.out, ← HEX1.out] at he
      simp only [List.append_assoc] at he
      exact Strs.eqL HS.out he
end Go.Proofs.Ytidilpciolladaa

/- The program's 'Print'. -/
namespace Go.Proofs.Ytidilpciolladaa
open Go.RowKit

def tok0 (s : ByteArray) : Tok := ⟨0, s, 0⟩
/-- Texts with blanks between. -/
def jn (l : List ByteArray) : ByteArray := joinB (l.map tok0)
def sagaT (nm : ByteArray) (l : List (List Nd)) : List ByteArray := wd0 :: nm :: tkA l
theorem erT : erOf true = 0 := rfl
theorem erF : erOf false = 2 := rfl
def printR (nm : ByteArray) (l : List (List Nd)) : ByteArray := if sagaR nm l then jn (sagaT nm l) else ⟨#[]⟩
theorem Strs.lit {w W : World} {b : Nat} {ys : List ByteArray} (hW : Below w.heap.size w W) (hy : W.heap[b]? = some (.cells (ys.map Value.string).toArray 9 (0, 0))) (hb : w.heap.size ≤ b) (hl : ys.length ≤ 4294967296) : Strs w.heap.size w W b (.slice (some ⟨b, 0, none⟩) ys.length ys.length) ys := by
  refine ⟨Enc.Spine.of_at hy ?_ (Nat.le_refl _) (by unfold maxLen; omega) ?_, hb, hW.size, hW⟩
  · show 0 + ys.length * 1 ≤ _; simp
  · intro i hi
    refine ⟨[.string ys[i]], rfl, fun j u hj => ?_⟩
    have hj0 : j = 0 := by have := (List.getElem?_eq_some_iff.1 hj).1; simp at this; omega
    subst hj0
    have hu : u = .string ys[i] := by simpa using hj.symm
    subst hu
    show W.cell? ⟨b, 0 + i * 1 + 0, none⟩ = _
    simp only [World.cell?, hy]
    simp [hi]
set_option maxRecDepth 8000 in
set_option maxHeartbeats 4000000 in
theorem print_any {n : Nat} {nm : ByteArray} {w : World} {K : Nat → Prop} {v : Value} {l : List (List Nd)} (hv : (bodyE n).Row K w v l) (hc : countB l ≤ 4294967296) (hl : (tkA l).length + 2 ≤ 100000) (hj : (jn (sagaT nm l)).size ≤ 140737488355328) :
    Calls Try.prog 13 #[.agg #[.string nm, v]] w fun e w' => e = .returned (.tuple #[.string (printR nm l), .int .i64 (erOf (sagaR nm l))]) ∧ Below w.heap.size w w' := by
  obtain ⟨A, cp, rfl, hl1, hl2⟩ := hv.form
  have hlx : (l.length : Int) ≤ 9223372036854775807 := by unfold maxLen at hl2; omega
  have HV := hid hv
  have HC := hid hc
  have HL := hid hl
  have HJ := hid hj
  unfold printR
  clear hv hc hl hj hl1 hl2
  cases hr : sagaR nm l with
  | false =>
    have HR := hid hr
    have ERX := erF
    clear hr
    go_enter Try.func13, Try.ntmps13
    go_wp2_with (first | (go_at_call 15; refine (check_any (HV.out.below (by repeat (first | (with_reducible exact Below.refl _ _) | (with_reducible exact bl_mm) | (with_reducible refine bl_dr ?_) | (with_reducible refine bl_drN ?_ _) | (with_reducible refine bl_al ?_ _) | (with_reducible refine bl_more ?_ _ _)))) HC.out).mono ?_; rw [HR.out, ERX]; rintro e w1 ⟨rfl, hb1⟩; obtain ⟨ex1, dx1, rfl⟩ := more_of hb1; clear hb1))
    go_ret2
    exact ⟨rfl, (by repeat (first | (with_reducible exact Below.refl _ _) | (with_reducible exact bl_mm) | (with_reducible refine bl_dr ?_) | (with_reducible refine bl_drN ?_ _) | (with_reducible refine bl_al ?_ _) | (with_reducible refine bl_more ?_ _ _)))⟩
  | true =>
    have HR := hid hr
    have ERX := erT
    clear hr
    go_enter Try.func13, Try.ntmps13
    go_wp2_with (first | (go_at_call 15; refine (check_any (HV.out.below (by repeat (first | (with_reducible exact Below.refl _ _) | (with_reducible exact bl_mm) | (with_reducible refine bl_dr ?_) | (with_reducible refine bl_drN ?_ _) | (with_reducible refine bl_al ?_ _) | (with_reducible refine bl_more ?_ _ _)))) HC.out).mono ?_; rw [HR.out, ERX]; rintro e w1 ⟨rfl, hb1⟩; obtain ⟨ex1, dx1, rfl⟩ := more_of hb1; clear hb1) | (go_at_call 31; refine (PutP.at (put_any n) (xs := [wd0, nm]) (Strs.lit (by repeat (first | (with_reducible exact Below.refl _ _) | (with_reducible exact bl_mm) | (with_reducible refine bl_dr ?_) | (with_reducible refine bl_drN ?_ _) | (with_reducible refine bl_al ?_ _) | (with_reducible refine bl_more ?_ _ _))) (by exact alloc_blk (by simp [more_size])) (by omega) (by show 2 ≤ 4294967296; omega)) HV.out (by have := HL.out; simp only [List.length_cons, List.length_nil]; omega)).mono ?_; rintro e w3 ⟨v3, g3, rfl, hs3⟩; obtain ⟨Z, hz⟩ : ∃ y, [wd0, nm] ++ tkA l = y := ⟨_, rfl⟩; rw [hz] at hs3; have HZ := hid hz; clear hz; obtain ⟨AQ, cq, e2, _, _⟩ := hs3.sp.form; subst e2; have HS := hid hs3; clear hs3))
    have HL3 := hid HS.out.low
    obtain ⟨b3, o3, e3, hlt3, hce⟩ := HS.out.cells (by rw [← HZ.out]; simp)
    subst e3
    have HCE := hid hce
    have hzl : (Z.length : Int) ≤ 100000 := by have := HL.out; have h := congrArg List.length HZ.out; simp only [List.length_append, List.length_cons, List.length_nil] at h; omega
    clear hce
    go_loopg [5, 20] Z.length (fun k vo vi wr => ∃ (j g : Nat) (B : Option Addr) (cb : Nat) (T : List Tok), j + k = Z.length ∧ vi = .int .i64 (j : Int) ∧ vo = .slice B T.length cb ∧ T = (Z.take j).map tok0 ∧ Toks w3.heap.size w3 wr g vo T)
    case atStart => exact ⟨0, w3.heap.size, none, 0, [], by omega, rfl, rfl, rfl, Enc.Spine.nil _ _ _ _ _, Nat.le_refl _, by simp, (by repeat (first | (with_reducible exact Below.refl _ _) | (with_reducible exact bl_mm) | (with_reducible refine bl_dr ?_) | (with_reducible refine bl_drN ?_ _) | (with_reducible refine bl_al ?_ _) | (with_reducible refine bl_more ?_ _ _)))⟩
    case round =>
      obtain ⟨j, g, B, cb, T, hk, rfl, rfl, ht, hs⟩ := hrel
      have HT := hid hs
      have HK := hid hk
      have HTE := hid ht
      by_cases hjl : j < Z.length
      · obtain ⟨s, hx⟩ := get_lt hjl
        have HX := hid hx
        have HJ := hid (And.intro hjl trivial)
        have hj0 : (0 : Int) ≤ j := by omega
        have hj1 : (j : Int) < Z.length := by omega
        have y1 := cell_kept hs.low (HCE.out j s hx)
        have hbl : b3 < wr.heap.size := Nat.lt_of_lt_of_le hlt3 hs.low.size
        have HLEN : Hid (T.length + [tok0 s].length ≤ 4294967296) := hid (by rw [ht, List.length_map, List.length_take, List.length_singleton]; omega)
        clear hk hjl hx ht hs
        go_wp2_with (first | (at_builtin; refine wpList_app23 (ys := [tok0 s]) (by rfl) (.tmp 24) (.tmp 27) (by rfl) (by rfl) (by rfl) (by rfl) (HT.out.below (by repeat (first | (with_reducible exact Below.refl _ _) | (with_reducible exact bl_mm) | (with_reducible refine bl_dr ?_) | (with_reducible refine bl_drN ?_ _) | (with_reducible refine bl_al ?_ _) | (with_reducible refine bl_more ?_ _ _)))).sp (by exact Enc.Src.one_blk (cs := tokCells (tok0 s)) (alloc_blk (by simp [more_size])) (tokE_mk _)) (fun _ h _ => h.elim) HLEN.out ?_; intro v2 w4 g2 hs2 he2 hg2; obtain ⟨T2, hx2⟩ : ∃ y, T ++ [tok0 s] = y := ⟨_, rfl⟩; rw [hx2] at hs2; have HT2 := hid hx2; clear hx2; obtain ⟨A2, c2, rfl, _, _⟩ := hs2.form; have HS2 := hid hs2; have HE2 := hid he2; have HG2 := hid hg2; clear hs2 hg2 he2))
        go_roundg (Z.length - (j + 1))
        case measure => have := HK.out; have := HJ.out.1; omega
        case rel => exact ⟨j + 1, g2, A2, c2, T2, by have := HJ.out.1; omega, rfl, rfl, by rw [← HT2.out, HTE.out, List.take_succ_eq_append_getElem HJ.out.1, List.map_append, (List.getElem?_eq_some_iff.1 HX.out).2]; rfl, (HT.out.below (by repeat (first | (with_reducible exact Below.refl _ _) | (with_reducible exact bl_mm) | (with_reducible refine bl_dr ?_) | (with_reducible refine bl_drN ?_ _) | (with_reducible refine bl_al ?_ _) | (with_reducible refine bl_more ?_ _ _)))).grown HS2.out (fun _ h => h.1) HE2.out HG2.out⟩
      · have hje : j = Z.length := by omega
        subst hje
        rw [List.take_length] at ht
        have hnl : ¬ (Z.length : Int) < Z.length := by omega
        have HTL : Hid (T.length ≤ 100000) := hid (by rw [ht, List.length_map]; omega)
        have HTT : Hid (joinB T = jn (sagaT nm l)) := hid (by rw [ht, ← HZ.out]; rfl)
        have HTJ : Hid ((Lib.join (T.map (·.text.data.toList)) [32]).length ≤ 140737488355328) := hid (by have := HJ.out; rw [← HTT.out] at this; simpa [joinB, ByteArray.size] using this)
        clear hk hs hjl ht
        go_wp2_with (first | (go_at_call 22; refine (join_any (HT.out.sp.row (K' := fun _ => True) (fun _ _ _ => trivial) trivial) HTL.out HTJ.out).mono ?_; rintro e w5 ⟨rfl, hb5⟩; have HB5 := hid hb5; clear hb5))
        go_ret2
        rw [HTT.out]
        exact ⟨rfl, HL3.out.trans ((HT.out.low.trans (HB5.out.mono HT.out.low.size)).mono HL3.out.size)⟩
end Go.Proofs.Ytidilpciolladaa
