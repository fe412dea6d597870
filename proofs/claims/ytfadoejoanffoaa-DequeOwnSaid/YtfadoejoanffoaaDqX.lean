/- A call of both: pushing. -/
import Derived.Test.YtfadoejoanffoaaDqW
namespace Go.Proofs.Ytfadoejoanffoaa
open Go.RowKit

structure Lp (w0 wr : World) (N d g : Nat) (rv v : Value) (A2 : Option Addr) (c2 g2 : Nat) (l lr : List Job) (a : Acts) : Prop where
  dq : Dq wr (fun b => b ≠ g2) d g l
  bw : Below w0.heap.size w0 wr
  ld : w0.heap.size ≤ d
  lg : w0.heap.size ≤ g
  row : jobE.Row (fun b => Kt d g b ∧ b ≠ g2) wr rv lr
  st : intE.Row (fun b => b < w0.heap.size) wr v a.j.stamp
  box : wr.heap[N]? = some (.cells #[.int .i64 a.kind, .int .i64 a.j.item, .bool a.j.undo, .int .i64 a.j.try_, .bool a.j.begun, .int .i64 a.j.token, v] 45 (0, 0))
  own : wr.heap[N + 1]? = some (.cells #[.int .i64 a.j.item, .bool a.j.undo, .int .i64 a.j.try_, .bool a.j.begun, .int .i64 a.j.token, .slice A2 a.j.stamp.length c2] 32 (0, 0))
  blk : a.j.stamp.length = 0 ∨ ∃ off cur, A2 = some ⟨g2, off, none⟩ ∧ wr.heap[g2]? = some (.cells cur 3 (0, 0)) ∧ off + a.j.stamp.length ≤ cur.size
  g2N : N + 1 < g2
  g2d : g2 ≠ d
  g2g : g2 ≠ g
  ltN : w0.heap.size ≤ N
theorem Lp.set {w0 wr : World} {N d g : Nat} {rv v : Value} {A2 : Option Addr} {c2 g2 : Nat} {l lr : List Job} {a : Acts} (h : Lp w0 wr N d g rv v A2 c2 g2 l lr a) (o : Nat) (u : Value) : Lp w0 (wr.setCell ⟨g2, o, none⟩ u) N d g rv v A2 c2 g2 l lr a := by
  have h1 := h.g2N
  have h2 := h.ltN
  have hne : ∀ b, b ≠ g2 → (wr.setCell ⟨g2, o, none⟩ u).heap[b]? = wr.heap[b]? := fun b hb => Below.heap_setCell _ _ _ _ hb
  refine ⟨h.dq.apart (Ext.setCell _ _ _ ⟨fun h => h rfl, h.g2d, h.g2g⟩), h.bw.trans ((Ext.setCell (S := fun b => b = g2) wr ⟨g2, o, none⟩ u rfl).toBelow h.bw.size (fun x hx e => by omega)), h.ld, h.lg, h.row.step (fun b hb _ => hne b hb.2), h.st.step (fun b hb _ => hne b (by omega)), (hne N (by omega)).trans h.box, (hne (N + 1) (by omega)).trans h.own, ?_, h.g2N, h.g2d, h.g2g, h.ltN⟩
  rcases h.blk with h3 | ⟨off, cur, h3, h4, h5⟩
  · exact .inl h3
  · exact .inr ⟨off, cur.setIfInBounds o u, h3, by simp [World.setCell, Array.getElem?_modify, h4], by simpa using h5⟩
theorem Lp.two {w0 wr : World} {N d g : Nat} {rv v : Value} {A2 : Option Addr} {c2 g2 : Nat} {l lr : List Job} {a : Acts} (h : Lp w0 wr N d g rv v A2 c2 g2 l lr a) : St w0 wr d g l :=
  ⟨h.dq.mono (fun _ _ _ => trivial), h.bw, h.ld, h.lg⟩
/-- .. behind the call. -/
theorem Lp.start {w0 w X : World} {d g g' : Nat} {rv v : Value} {A2 : Option Addr} {c2 g2 : Nat} {l l' : List Job} {a : Acts} {K : Nat → Prop} {ex : Array Obj} {n : Nat} {C1 C2 C3 : Array Value} {W : World}
    (hs : St w0 w d g l) (hr : jobE.Row (Kt d g) w rv l) (hv : intE.Row (fun b => b < w0.heap.size) w v a.j.stamp)
    (hC1 : C1 = #[.int .i64 a.kind, .int .i64 a.j.item, .bool a.j.undo, .int .i64 a.j.try_, .bool a.j.begun, .int .i64 a.j.token, v])
    (hC2 : C2 = #[.int .i64 a.j.item, .bool a.j.undo, .int .i64 a.j.try_, .bool a.j.begun, .int .i64 a.j.token, .slice A2 a.j.stamp.length c2])
    (hW : W = ((w.alloc (.cells C1 45)).alloc (.cells C2 32)).alloc (.cells #[] 3))
    (hsp : intE.Spine 3 K g2 (more (((w.alloc (.cells C1 45)).alloc (.cells C3 32)).alloc (.cells #[] 3)) ex n) (.slice A2 a.j.stamp.length c2) a.j.stamp) (hg2 : g2 = w.heap.size ∧ c2 = 0 ∨ w.heap.size + 3 ≤ g2)
    (hd : Dq X (fun b => b < w.heap.size ∨ (more W ex n).heap.size ≤ b) d g' l') (hu : Up d g (more W ex n) g' X) :
    ∃ g2', Lp w0 X w.heap.size d g' rv v A2 c2 g2' l' l a := by
  subst hC1 hC2 hW
  obtain ⟨p1, p2⟩ := hs.lt
  have p3 := hs.bw.size
  have p4 := hs.ld
  have p5 := hs.lg
  have p6 := hu.ext.size
  have pz : (more (((w.alloc (.cells #[.int .i64 a.kind, .int .i64 a.j.item, .bool a.j.undo, .int .i64 a.j.try_, .bool a.j.begun, .int .i64 a.j.token, v] 45)).alloc (.cells #[.int .i64 a.j.item, .bool a.j.undo, .int .i64 a.j.try_, .bool a.j.begun, .int .i64 a.j.token, .slice A2 a.j.stamp.length c2] 32)).alloc (.cells #[] 3)) ex n).heap.size = w.heap.size + 3 + ex.size := by simp only [more_size, World.size_alloc]
  have hb : Below w.heap.size w (more (((w.alloc (.cells #[.int .i64 a.kind, .int .i64 a.j.item, .bool a.j.undo, .int .i64 a.j.try_, .bool a.j.begun, .int .i64 a.j.token, v] 45)).alloc (.cells #[.int .i64 a.j.item, .bool a.j.undo, .int .i64 a.j.try_, .bool a.j.begun, .int .i64 a.j.token, .slice A2 a.j.stamp.length c2] 32)).alloc (.cells #[] 3)) ex n) := (by repeat (first | (with_reducible exact Below.refl _ _) | (with_reducible refine bl_dr ?_) | (with_reducible refine bl_drN ?_ _) | (with_reducible refine bl_al ?_ _) | (with_reducible refine bl_more ?_ _ _)))
  have hsu := (hs.below hb).up (hd.mono (fun _ _ _ => trivial)) hu
  have hold : ∀ b, b < w.heap.size → b ≠ d → b ≠ g → X.heap[b]? = w.heap[b]? := fun b h1 h2 h3 => (hu.ext.block b (by omega) (by omega)).trans (hb.block b h1)
  have hg' : g' = g ∨ w.heap.size ≤ g' := by rcases hu.new with h | h <;> omega
  have key : ∃ g2', (a.j.stamp.length = 0 ∨ ∃ off cur, A2 = some ⟨g2', off, none⟩ ∧ X.heap[g2']? = some (.cells cur 3 (0, 0)) ∧ off + a.j.stamp.length ≤ cur.size) ∧ w.heap.size + 1 < g2' ∧ g2' ≠ g' ∧ (g2' < X.heap.size → g2' < w.heap.size + 3 + ex.size) := by
    by_cases hn : c2 = 0
    · obtain ⟨A, c, he, h2, h3, _⟩ := hsp
      obtain ⟨rfl, _, rfl⟩ := Value.slice.inj he
      have hgs := hd.own
      have := hd.lt
      exact ⟨X.heap.size, .inl (by omega), by omega, by omega, by omega⟩
    · obtain ⟨A, c, he, h2, h3, h4⟩ := hsp
      obtain ⟨rfl, _, rfl⟩ := Value.slice.inj he
      obtain ⟨off, cur, cs, rfl, hb4, hle, _, _⟩ := h4 hn
      have hge : w.heap.size + 3 ≤ g2 := by rcases hg2 with h | h <;> omega
      rw [more_swap (W := ((w.alloc (.cells #[.int .i64 a.kind, .int .i64 a.j.item, .bool a.j.undo, .int .i64 a.j.try_, .bool a.j.begun, .int .i64 a.j.token, v] 45)).alloc (.cells #[.int .i64 a.j.item, .bool a.j.undo, .int .i64 a.j.try_, .bool a.j.begun, .int .i64 a.j.token, .slice (some ⟨g2, off, none⟩) a.j.stamp.length c2] 32)).alloc (.cells #[] 3)) (d := n) (by simp) (by simp only [World.size_alloc]; omega)] at hb4
      have hgl := (Array.getElem?_eq_some_iff.1 hb4).1
      have hle' : off + c2 * 1 ≤ cur.size := hle
      refine ⟨g2, .inr ⟨off, cur, rfl, (hu.ext.block g2 hgl (by omega)).trans hb4, by omega⟩, by omega, ?_, by omega⟩
      rcases hu.new with h | h <;> omega
  obtain ⟨g3, k1, k2, k3, k4⟩ := key
  have K1 := hid k1
  clear k1
  refine ⟨g3, hd.mono (fun b hb hl => by omega), hsu.bw, hsu.ld, hsu.lg, ?_, ?_, ?_, ?_, K1.out, k2, by omega, k3, by omega⟩
  · refine (hr.bound.step (fun b hb hl => hold b hl hb.1.2.1 hb.1.2.2)).mono (fun b hb _ => ⟨⟨trivial, hb.1.2.1, ?_⟩, by omega⟩)
    have := hb.1.2.2
    have := hb.2
    omega
  · exact hv.step (fun b hb hl => hold b hl (by omega) (by omega))
  · refine (hu.ext.block _ (by omega) (by omega)).trans ((more_heap (by simp only [World.size_alloc]; omega)).trans ((Below.heap_alloc _ _ _ (by simp only [World.size_alloc]; omega)).trans ((Below.heap_alloc _ _ _ (by simp only [World.size_alloc]; omega)).trans (alloc_blk rfl))))
  · refine (hu.ext.block _ (by omega) (by omega)).trans ((more_heap (by simp only [World.size_alloc]; omega)).trans ((Below.heap_alloc _ _ _ (by simp only [World.size_alloc]; omega)).trans (alloc_blk (by simp only [World.size_alloc]))))

theorem own_row {K : Nat → Prop} {g2 n : Nat} {W W' : World} {ex : Array Obj} {v : Value} {xs : List Int} (hsp : intE.Spine 3 K g2 (more W ex n) v xs) (hg2 : capOf v = 0 ∨ W.heap.size ≤ g2) (hs : W'.heap.size = W.heap.size) : intE.Row (fun _ => True) (more W' ex n) v xs := by
  have hsp' : intE.Spine 3 (fun _ => False) g2 (more W ex n) v xs := hsp
  by_cases hc : capOf v = 0
  · obtain ⟨A, c, rfl, h1, h2, _⟩ := hsp'
    have hc' : c = 0 := hc
    exact ⟨A, c, rfl, h1, h2, fun hx => absurd (List.eq_nil_of_length_eq_zero (by omega)) hx⟩
  · exact ((hsp'.row (K' := fun b => W.heap.size ≤ b) (fun b hb _ => hb.elim) (hg2.resolve_left hc)).swap hs (fun b hb => hb)).mono (fun _ _ _ => trivial)
set_option maxHeartbeats 2000000 in
set_option maxRecDepth 8000 in
theorem step_full {w0 w : World} {d g : Nat} {rv v : Value} {l : List Job} {a : Acts} (h : Two w0 w d g rv l) (hv : intE.Row (fun b => b < w0.heap.size) w v a.j.stamp) (hok : a.j.stamp.length ≤ 100) (hk1 : a.kind ≠ 1) (hk2 : a.kind ≠ 2) (hk3 : a.kind ≠ 3) (hl : l.length = 128) :
    Calls Try.prog 15 #[.pointer (some ⟨d, 0, none⟩), rv, actV a v] w (Stepped w0 d l) := by
  obtain ⟨A, c, rfl, _, _⟩ := h.row.form
  obtain ⟨B, cb, rfl, _, _⟩ := hv.form
  have HD := hid h.st
  have HR := hid h.row
  have HF := hid hl
  have HV := hid hv
  have HL := hid h.st.bw.size
  clear h hv hl
  have k1 : (a.kind == 1) = false := by simpa using hk1
  have k2 : (a.kind == 2) = false := by simpa using hk2
  have k3 : (a.kind == 3) = false := by simpa using hk3
  clear hk1 hk2 hk3
  go_enter Try.func15, Try.ntmps15
  go_wp2_with (first | (at_builtin; refine wpList_app30 (K := fun b => b < w0.heap.size) (g := w.heap.size) (by rfl) (.tmp 91) (.tmp 94) (by rfl) (by rfl) (by rfl) (by rfl) (Enc.Spine.bare intE 3 _ _ _ _) ((HV.out.below (by repeat (first | (with_reducible exact Below.refl _ _) | (with_reducible refine bl_dr ?_) | (with_reducible refine bl_drN ?_ _) | (with_reducible refine bl_al ?_ _) | (with_reducible refine bl_more ?_ _ _)))).src) (fun b hb _ => by have := HL.out; omega) (by simp; omega) ?_; intro v2 w2 g2 hs2 he2 hg2; obtain ⟨A2, c2, rfl, _, _⟩ := hs2.form; obtain ⟨ex2, dx2, rfl⟩ := more_of (below_of_ext he2 (by simp [capOf])); have HS2 := hid hs2; have HG2 := hid hg2; clear hs2 he2 hg2) | (go_at_call 9; refine (push_full (HD.out.below (by repeat (first | (with_reducible exact Below.refl _ _) | (with_reducible refine bl_dr ?_) | (with_reducible refine bl_drN ?_ _) | (with_reducible refine bl_al ?_ _) | (with_reducible refine bl_more ?_ _ _)))).dq HF.out).mono ?_; rintro e w3 ⟨rfl, hb3⟩; have HB3 := hid hb3; clear hb3))
  obtain ⟨g2', hlp⟩ := Lp.start HD.out HR.out HV.out rfl rfl rfl HS2.out (by have h := HG2.out; rcases h with ⟨h1, _, h2⟩ | ⟨h1, _⟩; exact .inl ⟨h1, h2⟩; exact .inr (by rw [h1]; simp only [World.size_alloc]; omega)) ((((HD.out.dq.mono (F' := fun b => b < w.heap.size) (fun b _ hl => hl)).below (show Below w.heap.size w _ from (by repeat (first | (with_reducible exact Below.refl _ _) | (with_reducible refine bl_dr ?_) | (with_reducible refine bl_drN ?_ _) | (with_reducible refine bl_al ?_ _) | (with_reducible refine bl_more ?_ _ _))))).below HB3.out).mono (fun b h _ => .inl h)) (Up.of_below HB3.out)
  have HLP := hid hlp
  have HK := hid hok
  clear hlp hok HS2 HG2
  go_loopg [22] a.j.stamp.length (fun k i wr => ∃ j : Nat, j + k = a.j.stamp.length ∧ i = .int .i64 j ∧ Lp w0 wr w.heap.size d g (.slice A l.length c) (.slice B a.j.stamp.length cb) A2 c2 g2' l l a)
  case atStart => exact ⟨0, by omega, rfl, HLP.out⟩
  case round =>
    obtain ⟨j, hj, rfl, hp⟩ := hrel
    have HP := hid hp
    have o5 : wr.cell? ⟨w.heap.size + 1, 5, none⟩ = some (.slice A2 a.j.stamp.length c2) := cell_blk hp.own 5
    have HJ := hid hj
    clear HLP
    by_cases hlt : j < a.j.stamp.length
    · obtain ⟨off, cur, rfl, hb, hfit⟩ := hp.blk.resolve_left (by omega)
      obtain ⟨u, c1⟩ : ∃ u, wr.cell? ⟨g2', off + j, none⟩ = some u := ⟨cur[off + j]'(by omega), by rw [cell_blk hb]; exact Array.getElem?_eq_getElem _⟩
      have f1 : wr.frozen? ⟨g2', off + j, none⟩ = false := frz_blk hb _
      have i1 : (j : Int) < (a.j.stamp.length : Int) := by omega
      have i3 : (0 : Int) ≤ (j : Int) := by omega
      have w1' : IntKind.i64.wrap ((j : Int) + 1) = ((j + 1 : Nat) : Int) := by rw [IntWalk.i64_in _ (by have := HK.out; omega)]; rfl
      clear hp hb hfit hj
      go_wp2
      go_roundg (a.j.stamp.length - (j + 1))
      case measure => have := HJ.out; omega
      case rel => exact ⟨j + 1, by have := HJ.out; omega, rfl, HP.out.set _ _⟩
    · obtain rfl : j = a.j.stamp.length := by omega
      have b1 : wr.cell? ⟨w.heap.size, 1, none⟩ = some (.int .i64 a.j.item) := cell_blk hp.box 1
      have b2 : wr.cell? ⟨w.heap.size, 1 + 1, none⟩ = some (.bool a.j.undo) := cell_blk hp.box 2
      have b3 : wr.cell? ⟨w.heap.size, 1 + 2, none⟩ = some (.int .i64 a.j.try_) := cell_blk hp.box 3
      have b4 : wr.cell? ⟨w.heap.size, 1 + 3, none⟩ = some (.bool a.j.begun) := cell_blk hp.box 4
      have b5 : wr.cell? ⟨w.heap.size, 1 + 4, none⟩ = some (.int .i64 a.j.token) := cell_blk hp.box 5
      have b6 : wr.cell? ⟨w.heap.size, 1 + 5, none⟩ = some (.slice B a.j.stamp.length cb) := cell_blk hp.box 6
      have i1 : ¬ (a.j.stamp.length : Int) < a.j.stamp.length := by omega
      clear hp hj
      go_wp2_with (first | (go_at_call 30; refine (ref_push_full HP.out.row HF.out).mono ?_; rintro e w4 ⟨rfl, hb4⟩; obtain ⟨ex4, dx4, rfl⟩ := more_of hb4; clear hb4))
      refine bodyPost_ret (v := .tuple #[.slice A l.length c, .bool true]) (by simp [results, Try.results15]) rfl ⟨_, _, rfl, HP.out.two.below (by repeat (first | (with_reducible exact Below.refl _ _) | (with_reducible refine bl_dr ?_) | (with_reducible refine bl_drN ?_ _) | (with_reducible refine bl_al ?_ _) | (with_reducible refine bl_more ?_ _ _))), (HP.out.row.mono (fun b hb _ => hb.1)).below (by repeat (first | (with_reducible exact Below.refl _ _) | (with_reducible refine bl_dr ?_) | (with_reducible refine bl_drN ?_ _) | (with_reducible refine bl_al ?_ _) | (with_reducible refine bl_more ?_ _ _)))⟩

set_option maxHeartbeats 2000000 in
set_option maxRecDepth 8000 in
theorem step_push {w0 w : World} {d g : Nat} {rv v : Value} {l : List Job} {a : Acts} (h : Two w0 w d g rv l) (hv : intE.Row (fun b => b < w0.heap.size) w v a.j.stamp) (hok : a.j.stamp.length ≤ 100) (hk1 : a.kind ≠ 1) (hk2 : a.kind ≠ 2) (hk3 : a.kind ≠ 3) (hl : l.length < 128) :
    Calls Try.prog 15 #[.pointer (some ⟨d, 0, none⟩), rv, actV a v] w (Stepped w0 d (l ++ [a.j])) := by
  obtain ⟨A, c, rfl, _, _⟩ := h.row.form
  obtain ⟨B, cb, rfl, _, _⟩ := hv.form
  have HD := hid h.st
  have HR := hid h.row
  have HF := hid hl
  have HV := hid hv
  have HK := hid (show okJob a.j from hok)
  have HL := hid h.st.bw.size
  clear h hv hl
  have k1 : (a.kind == 1) = false := by simpa using hk1
  have k2 : (a.kind == 2) = false := by simpa using hk2
  have k3 : (a.kind == 3) = false := by simpa using hk3
  clear hk1 hk2 hk3
  go_enter Try.func15, Try.ntmps15
  go_wp2_with (first | (at_builtin; refine wpList_app30 (K := fun b => b < w0.heap.size) (g := w.heap.size) (by rfl) (.tmp 91) (.tmp 94) (by rfl) (by rfl) (by rfl) (by rfl) (Enc.Spine.bare intE 3 _ _ _ _) ((HV.out.below (by repeat (first | (with_reducible exact Below.refl _ _) | (with_reducible refine bl_dr ?_) | (with_reducible refine bl_drN ?_ _) | (with_reducible refine bl_al ?_ _) | (with_reducible refine bl_more ?_ _ _)))).src) (fun b hb _ => by have := HL.out; omega) (by simp; omega) ?_; intro v2 w2 g2 hs2 he2 hg2; obtain ⟨A2, c2, rfl, _, _⟩ := hs2.form; obtain ⟨ex2, dx2, rfl⟩ := more_of (below_of_ext he2 (by simp [capOf])); have HS2 := hid hs2; have HG2 := hid hg2; clear hs2 he2 hg2) | (go_at_call 9; refine (push_any (F := fun b => b < w.heap.size) (j := a.j) (v := .slice A2 a.j.stamp.length c2) ((HD.out.dq.mono (F' := fun b => b < w.heap.size) (fun b _ hl => hl)).below (by repeat (first | (with_reducible exact Below.refl _ _) | (with_reducible refine bl_dr ?_) | (with_reducible refine bl_drN ?_ _) | (with_reducible refine bl_al ?_ _) | (with_reducible refine bl_more ?_ _ _)))) (K0 := fun _ => True) (own_row HS2.out (by have h := HG2.out; rcases h with ⟨_, _, h2⟩ | ⟨h1, _⟩; exact .inl h2; exact .inr (by rw [h1]; exact Nat.le_refl _)) (by simp only [World.size_alloc])) HK.out HF.out).mono ?_; rintro e w3 ⟨g3, rfl, hq3, hu3⟩; have HQ := hid hq3; have HU := hid hu3; clear hq3 hu3))
  obtain ⟨g2', hlp⟩ := Lp.start HD.out HR.out HV.out rfl rfl rfl HS2.out (by have h := HG2.out; rcases h with ⟨h1, _, h2⟩ | ⟨h1, _⟩; exact .inl ⟨h1, h2⟩; exact .inr (by rw [h1]; simp only [World.size_alloc]; omega)) HQ.out HU.out
  have HLP := hid hlp
  have HK := hid hok
  clear hlp hok HS2 HG2
  go_loopg [22] a.j.stamp.length (fun k i wr => ∃ j : Nat, j + k = a.j.stamp.length ∧ i = .int .i64 j ∧ Lp w0 wr w.heap.size d g3 (.slice A l.length c) (.slice B a.j.stamp.length cb) A2 c2 g2' (l ++ [a.j]) l a)
  case atStart => exact ⟨0, by omega, rfl, HLP.out⟩
  case round =>
    obtain ⟨j, hj, rfl, hp⟩ := hrel
    have HP := hid hp
    have o5 : wr.cell? ⟨w.heap.size + 1, 5, none⟩ = some (.slice A2 a.j.stamp.length c2) := cell_blk hp.own 5
    have HJ := hid hj
    clear HLP
    by_cases hlt : j < a.j.stamp.length
    · obtain ⟨off, cur, rfl, hb, hfit⟩ := hp.blk.resolve_left (by omega)
      obtain ⟨u, c1⟩ : ∃ u, wr.cell? ⟨g2', off + j, none⟩ = some u := ⟨cur[off + j]'(by omega), by rw [cell_blk hb]; exact Array.getElem?_eq_getElem _⟩
      have f1 : wr.frozen? ⟨g2', off + j, none⟩ = false := frz_blk hb _
      have i1 : (j : Int) < (a.j.stamp.length : Int) := by omega
      have i3 : (0 : Int) ≤ (j : Int) := by omega
      have w1' : IntKind.i64.wrap ((j : Int) + 1) = ((j + 1 : Nat) : Int) := by rw [IntWalk.i64_in _ (by have := HK.out; omega)]; rfl
      clear hp hb hfit hj
      go_wp2
      go_roundg (a.j.stamp.length - (j + 1))
      case measure => have := HJ.out; omega
      case rel => exact ⟨j + 1, by have := HJ.out; omega, rfl, HP.out.set _ _⟩
    · obtain rfl : j = a.j.stamp.length := by omega
      have b1 : wr.cell? ⟨w.heap.size, 1, none⟩ = some (.int .i64 a.j.item) := cell_blk hp.box 1
      have b2 : wr.cell? ⟨w.heap.size, 1 + 1, none⟩ = some (.bool a.j.undo) := cell_blk hp.box 2
      have b3 : wr.cell? ⟨w.heap.size, 1 + 2, none⟩ = some (.int .i64 a.j.try_) := cell_blk hp.box 3
      have b4 : wr.cell? ⟨w.heap.size, 1 + 3, none⟩ = some (.bool a.j.begun) := cell_blk hp.box 4
      have b5 : wr.cell? ⟨w.heap.size, 1 + 4, none⟩ = some (.int .i64 a.j.token) := cell_blk hp.box 5
      have b6 : wr.cell? ⟨w.heap.size, 1 + 5, none⟩ = some (.slice B a.j.stamp.length cb) := cell_blk hp.box 6
      have i1 : ¬ (a.j.stamp.length : Int) < a.j.stamp.length := by omega
      clear hp hj
      go_wp2_with (first | (go_at_call 30; refine (ref_push (K := Kt d g3) (j := a.j) (HP.out.row.mono (fun b hb _ => hb.1)) (HP.out.st.mono (fun b hb _ => ⟨trivial, by have := HP.out.ld; omega, by have := HP.out.lg; omega⟩)) HF.out).mono ?_; rintro e w4 ⟨rv1, rfl, hr4, hb4⟩; obtain ⟨A4, c4, rfl, _, _⟩ := hr4.form; obtain ⟨ex4, dx4, rfl⟩ := more_of hb4; have HR4 := hid hr4; clear hr4 hb4))
      obtain ⟨q1, q2⟩ := HP.out.two.lt
      refine bodyPost_ret (v := .tuple #[.slice A4 (l ++ [a.j]).length c4, .bool true]) (by simp [results, Try.results15]) rfl ⟨_, _, rfl, HP.out.two.below (by repeat (first | (with_reducible exact Below.refl _ _) | (with_reducible refine bl_dr ?_) | (with_reducible refine bl_drN ?_ _) | (with_reducible refine bl_al ?_ _) | (with_reducible refine bl_more ?_ _ _))), HR4.out.mono (fun b hb _ => Kt_or q1 q2 hb)⟩

/-- The document's row behind a call. -/
def stepL (a : Acts) (l : List Job) : List Job :=
  if a.kind = 1 then l.dropLast else if a.kind = 2 then l.tail else if a.kind = 3 then l.filter (fun x => !isKey a.j.item a.j.undo a.j.try_ x) else if l.length = 128 then l else l ++ [a.j]
theorem step_any {w0 w : World} {d g : Nat} {rv v : Value} {l : List Job} {a : Acts} (h : Two w0 w d g rv l) (hv : intE.Row (fun b => b < w0.heap.size) w v a.j.stamp) (hok : a.j.stamp.length ≤ 100) :
    Calls Try.prog 15 #[.pointer (some ⟨d, 0, none⟩), rv, actV a v] w (Stepped w0 d (stepL a l)) := by
  unfold stepL
  by_cases h1 : a.kind = 1
  · rw [if_pos h1]
    rcases List.eq_nil_or_concat l with rfl | ⟨l, x, rfl⟩
    · exact step_pop0 h h1
    · rw [List.concat_eq_append] at *; rw [List.dropLast_concat]; exact step_pop h h1
  · rw [if_neg h1]
    by_cases h2 : a.kind = 2
    · rw [if_pos h2]
      cases l with
      | nil => exact step_steal0 h h2
      | cons x l => exact step_steal h h2
    · rw [if_neg h2]
      by_cases h3 : a.kind = 3
      · rw [if_pos h3]; exact step_drop h h3
      · rw [if_neg h3]
        by_cases h4 : l.length = 128
        · rw [if_pos h4]; exact step_full h hv hok h1 h2 h3 h4
        · rw [if_neg h4]; exact step_push h hv hok h1 h2 h3 (by have := h.st.dq.few; omega)
end Go.Proofs.Ytfadoejoanffoaa
