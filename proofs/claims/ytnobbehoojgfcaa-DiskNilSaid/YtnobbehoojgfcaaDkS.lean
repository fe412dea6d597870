/- A call that appends. -/
import Derived.Test.YtnobbehoojgfcaaDkR
namespace Go.Proofs.Ytnobbehoojgfcaa
open Go.RowKit

structure Lp (w0 wr : World) (N d r gF : Nat) (v k : Value) (A2 : Option Addr) (n g2 : Nat) (s t : DS) (a : ActD) : Prop where
  dk : Dk wr d (fun b => (w0.heap.size ≤ b ∧ b ≠ r ∧ b ≠ gF) ∧ b ≠ g2) s
  rk : Rk wr r gF t
  bw : Below w0.heap.size w0 wr
  ld : w0.heap.size ≤ d
  lr : w0.heap.size ≤ r
  lg : w0.heap.size ≤ gF
  row : u8E.Row (fun b => b < w0.heap.size) wr v a.b
  box : wr.heap[N]? = some (.cells (actCells a v k).toArray 36 (0, 0))
  blk : n = 0 ∨ ∃ off cur, A2 = some ⟨g2, off, none⟩ ∧ wr.heap[g2]? = some (.cells cur 5 (0, 0)) ∧ off + n ≤ cur.size
  g2N : N < g2
  g2d : g2 ≠ d
  g2r : g2 ≠ r
  g2g : g2 ≠ gF
  ltN : w0.heap.size ≤ N
theorem Lp.set {w0 wr : World} {N d r gF : Nat} {v k : Value} {A2 : Option Addr} {n g2 : Nat} {s t : DS} {a : ActD} (h : Lp w0 wr N d r gF v k A2 n g2 s t a) (o : Nat) (u : Value) : Lp w0 (wr.setCell ⟨g2, o, none⟩ u) N d r gF v k A2 n g2 s t a := by
  have h1 := h.g2N
  have h2 := h.ltN
  have hE : Ext (fun b => b = g2) wr (wr.setCell ⟨g2, o, none⟩ u) := (by repeat (first | (with_reducible exact Ext.refl _ _) | (with_reducible refine ex_dr ?_) | (with_reducible refine ex_drN ?_ _) | (with_reducible refine ex_al ?_ _) | (with_reducible refine ex_more ?_ _ _) | (with_reducible refine Ext.set ?_ _ _ _ (by first | exact rfl | exact .inl rfl | exact .inr rfl))))
  refine ⟨h.dk.ext hE h.g2d.symm (fun b hb => hb.2), h.rk.ext hE h.g2r.symm h.g2g.symm, h.bw.trans (hE.toBelow h.bw.size (fun x hx e => by omega)), h.ld, h.lr, h.lg, h.row.ext hE (fun b hb _ e => by omega), (Below.heap_setCell _ _ _ _ (show N ≠ g2 by omega)).trans h.box, ?_, h.g2N, h.g2d, h.g2r, h.g2g, h.ltN⟩
  rcases h.blk with h3 | ⟨off, cur, h3, h4, h5⟩
  · exact .inl h3
  · exact .inr ⟨off, cur.setIfInBounds o u, h3, by simp [World.setCell, Array.getElem?_modify, h4], by simpa using h5⟩
theorem Lp.two {w0 wr : World} {N d r gF : Nat} {v k : Value} {A2 : Option Addr} {n g2 : Nat} {s t : DS} {a : ActD} (h : Lp w0 wr N d r gF v k A2 n g2 s t a) : Two w0 wr d r gF s t :=
  ⟨h.dk.mono (fun _ hb _ => hb.1), h.rk, h.bw, h.ld, h.lr, h.lg⟩
theorem Lp.start {w0 w X w3 : World} {d r gF : Nat} {v k : Value} {A2 : Option Addr} {n c2 g2 : Nat} {s s' : DS} {a : ActD} {l : List UInt8} {ex : Array Obj} {m : Nat} {C1 : Array Value}
    (hs : Two w0 w d r gF s s) (hv : u8E.Row (fun b => b < w0.heap.size) w v a.b) (hC1 : C1 = (actCells a v k).toArray) (hX : X = more ((w.alloc (.cells C1 36)).alloc (.cells #[] 5)) ex m)
    (hsp : u8E.Spine 5 (fun _ => False) g2 X (.slice A2 l.length c2) l) (hn : l.length = n) (hg2 : g2 = w.heap.size ∧ c2 = 0 ∨ w.heap.size + 2 ≤ g2)
    (hd : Dk w3 d (fun b => ((w0.heap.size ≤ b ∧ b ≠ r ∧ b ≠ gF) ∧ b < w.heap.size) ∨ X.heap.size ≤ b) s') (he : Ext (fun b => b = d ∨ ((w0.heap.size ≤ b ∧ b ≠ r ∧ b ≠ gF) ∧ b < w.heap.size)) X w3) :
    ∃ g, Lp w0 w3 w.heap.size d r gF v k A2 n g s' s a := by
  subst hC1
  have pz : X.heap.size = w.heap.size + 2 + ex.size := by rw [hX]; simp only [more_size, World.size_alloc]
  have hb : Below w.heap.size w X := by rw [hX]; exact (by repeat (first | (with_reducible exact Below.refl _ _) | (with_reducible exact bl_mm) | (with_reducible refine bl_dr ?_) | (with_reducible refine bl_drN ?_ _) | (with_reducible refine bl_al ?_ _) | (with_reducible refine bl_more ?_ _ _)))
  have p1 := hs.dk.lt
  obtain ⟨p2, p3⟩ := hs.rk.lt
  have p4 := hs.bw.size
  have p5 := hs.ld
  have p6 := hs.lr
  have p7 := hs.lg
  have p8 := he.size
  obtain ⟨q1, q2⟩ := hs.dr
  have hbox : X.heap[w.heap.size]? = some (.cells (actCells a v k).toArray 36 (0, 0)) := by
    rw [hX, more_heap (by simp only [World.size_alloc]; omega), Below.heap_alloc _ _ _ (by simp only [World.size_alloc]; omega)]
    exact alloc_blk rfl
  have hT := (hs.below hb).toD (G := fun b => (w0.heap.size ≤ b ∧ b ≠ r ∧ b ≠ gF) ∧ b < w.heap.size) (fun b hb => hb.1) hd he
  have key : ∃ g, (n = 0 ∨ ∃ off cur, A2 = some ⟨g, off, none⟩ ∧ w3.heap[g]? = some (.cells cur 5 (0, 0)) ∧ off + n ≤ cur.size) ∧ w.heap.size < g ∧ (g < w3.heap.size → g < X.heap.size) := by
    by_cases hc : c2 = 0
    · obtain ⟨A, c, he2, h2, h3, _⟩ := hsp
      obtain ⟨rfl, _, rfl⟩ := Value.slice.inj he2
      exact ⟨w3.heap.size, .inl (by omega), by omega, fun h => absurd h (Nat.lt_irrefl _)⟩
    · obtain ⟨A, c, he2, h2, h3, h4⟩ := hsp
      obtain ⟨rfl, _, rfl⟩ := Value.slice.inj he2
      obtain ⟨off, cur, cs, rfl, hb4, hle, _, _⟩ := h4 hc
      have hgl := (Array.getElem?_eq_some_iff.1 hb4).1
      have hge : w.heap.size + 2 ≤ g2 := by rcases hg2 with h | h <;> omega
      have hle' : off + c2 * 1 ≤ cur.size := hle
      exact ⟨g2, .inr ⟨off, cur, rfl, (he.block g2 hgl (fun e => by rcases e with e | e <;> omega)).trans hb4, by omega⟩, by omega, fun _ => hgl⟩
  obtain ⟨g3, k1, k2, k4⟩ := key
  have K1 := hid k1
  clear k1
  refine ⟨g3, hd.mono (fun b hb hl => ?_), hT.rk, hT.bw, hT.ld, hT.lr, hT.lg, ?_, ?_, K1.out, k2, by omega, by omega, by omega, by omega⟩
  · rcases hb with hb | hb
    · exact ⟨hb.1, by omega⟩
    · exact ⟨⟨by omega, by omega, by omega⟩, fun e => by subst e; have := k4 hl; omega⟩
  · exact (hv.below hb).ext he (fun b hb _ e => by rcases e with e | e <;> omega)
  · exact (he.block _ (by omega) (fun e => by rcases e with e | e <;> omega)).trans hbox
theorem own_row {X : World} {g2 d : Nat} {v : Value} {l : List UInt8} (hsp : u8E.Spine 5 (fun _ => False) g2 X v l) (hd : g2 ≠ d) : u8E.Row (fun b => b ≠ d) X v l := hsp.row (fun _ hb _ => hb.elim) hd

set_option maxRecDepth 8000 in
set_option maxHeartbeats 2000000 in
theorem step_app {w0 w : World} {d r gF : Nat} {s : DS} {C : Int} {a : ActD} {B D : Option Addr} {cb nd cd : Nat} (h : Two w0 w d r gF s s) (hs : s.Ok C) (hC : C ≤ 1000000000) (hv : u8E.Row (fun b => b < w0.heap.size) w (.slice B a.b.length cb) a.b) (hok : a.b.length ≤ 3000)
    (h1 : a.kind ≠ 1) (h2 : a.kind ≠ 2) (h3 : a.kind ≠ 3) (h4 : a.kind ≠ 4) (h5 : a.kind ≠ 5) (h6 : a.kind ≠ 6) :
    Calls Try.prog 12 #[.pointer (some ⟨d, 0, none⟩), .pointer (some ⟨r, 0, none⟩), actV a (.slice B a.b.length cb) (.slice D nd cd)] w (Stepped w0 d r gF (appR s a.i a.b).1) := by
  have HT := hid h
  have HS := hid hs
  have HC := hid hC
  have HV := hid hv
  have hdl := h.dk.lt
  have HDK := hid (h.dk.mono (G' := fun b => (w0.heap.size ≤ b ∧ b ≠ r ∧ b ≠ gF) ∧ b < w.heap.size) (fun b hb hl => ⟨hb, hl⟩))
  clear h hs hC hv
  have k1 : (a.kind == 1) = false := by simpa using h1
  have k2 : (a.kind == 2) = false := by simpa using h2
  have k3 : (a.kind == 3) = false := by simpa using h3
  have k4 : (a.kind == 4) = false := by simpa using h4
  have k5 : (a.kind == 5) = false := by simpa using h5
  have k6 : (a.kind == 6) = false := by simpa using h6
  clear h1 h2 h3 h4 h5 h6
  go_enter Try.func12, Try.ntmps12
  go_wp2_with (first | ((with_reducible refine wp_region_plan (id := 3) (.eff [(false, 0), (false, 1), (false, 2), (true, 4), (true, 5), (true, 6)] 3 [4, 5, 6] (.eff [] 7 [] (.fin [(false, 8), (false, 9)]))) ?_ ?_ ?_ ?_ ?_ ?_); kernel_rfl; kernel_rfl; kernel_rfl; kernel_rfl; (intro c a d v w h; cases d <;> exact h)) | ((with_reducible refine wp_region_plan (id := 5) (.eff [(false, 0), (false, 1), (false, 2), (false, 3), (false, 4), (true, 6), (true, 7), (true, 8), (true, 9), (true, 10)] 5 [6, 7, 8, 9, 10] (.eff [] 11 [] (.fin [(false, 12), (false, 13)]))) ?_ ?_ ?_ ?_ ?_ ?_); kernel_rfl; kernel_rfl; kernel_rfl; kernel_rfl; (intro c a d v w h; cases d <;> exact h)) | ((with_reducible refine wp_region_plan (id := 7) (.eff [(false, 0), (false, 1), (false, 2), (true, 4), (true, 5), (true, 6)] 3 [4, 5, 6] (.eff [] 7 [] (.fin [(false, 8), (false, 9)]))) ?_ ?_ ?_ ?_ ?_ ?_); kernel_rfl; kernel_rfl; kernel_rfl; kernel_rfl; (intro c a d v w h; cases d <;> exact h)) | ((with_reducible refine wp_region_plan (id := 12) (.eff [(false, 0), (false, 1), (false, 2), (true, 4), (true, 5), (true, 6)] 3 [4, 5, 6] (.eff [] 7 [] (.fin [(false, 8), (false, 9)]))) ?_ ?_ ?_ ?_ ?_ ?_); kernel_rfl; kernel_rfl; kernel_rfl; kernel_rfl; (intro c a d v w h; cases d <;> exact h)) | ((with_reducible refine wp_region_plan (id := 15) (.eff [(false, 0), (false, 1), (false, 2), (false, 3), (false, 4)] 5 [] (.eff [(false, 6), (false, 7), (true, 8)] 9 [8] (.eff [] 10 [8] (.eff [] 11 [] (.eff [(false, 12), (false, 13), (false, 14), (true, 17), (true, 18), (true, 19), (true, 20), (true, 21), (true, 22), (true, 23), (true, 24), (true, 25)] 15 [17, 18, 19, 20, 21, 22, 23, 24, 25] (.eff [(false, 16), (false, 26), (false, 27), (false, 28), (false, 29), (false, 30)] 31 [] (.fin [(false, 32), (false, 33), (false, 34)]))))))) ?_ ?_ ?_ ?_ ?_ ?_); kernel_rfl; kernel_rfl; kernel_rfl; kernel_rfl; (intro c a d v w h; cases d <;> exact h)) | (with_reducible refine wpPlan_eff ?_) | (with_reducible refine wpPlan_fin ?_) | (with_reducible refine wpPlan_two ?_) | (with_reducible refine wpOpPair ?_ ?_) | ((with_reducible apply wpPre_keep); rfl; intro K' hK'; go_simp; refine hK' _ _ ?_; intro f hf; clear hK' K') | ((with_reducible apply wpPre_drop); rfl; intro K' hK'; go_simp; refine hK' _ _ ?_; intro f; clear hK' K') | (with_reducible refine wpPre_nil ?_) | ((with_reducible apply wpOp_list); rfl) | (with_reducible refine heldPair ?_ ?_) | ((with_reducible refine heldH_no ?_ ?_); rfl) | (with_reducible refine heldH_yes ?_ ?_) | (with_reducible exact heldH_nil) | (unfold YAt; go_simp; done) | (at_builtin; refine wpList_app33 (K := fun _ => False) (g := w.heap.size) (by rfl) (.tmp 110) (.tmp 112) (by rfl) (by rfl) (by rfl) (by rfl) (Enc.Spine.bare u8E 5 _ _ _ _) (src_any ((HV.out.below (by repeat (first | (with_reducible exact Below.refl _ _) | (with_reducible exact bl_mm) | (with_reducible refine bl_dr ?_) | (with_reducible refine bl_drN ?_ _) | (with_reducible refine bl_al ?_ _) | (with_reducible refine bl_more ?_ _ _)))).src)) (fun b hb _ => hb.elim) (by simp; omega) ?_; intro v2 w2 g2 hs2 he2 hg2; obtain ⟨A2, c2, rfl, _, _⟩ := hs2.form; obtain ⟨ex2, dx2, rfl⟩ := more_of (below_of_ext he2 (by simp [capOf])); have HS2 := hid hs2; have HG2 := hid hg2; clear hs2 he2 hg2) | (go_at_call 23; refine (append_all (K := fun b => b ≠ d) (HDK.out.below (by repeat (first | (with_reducible exact Below.refl _ _) | (with_reducible exact bl_mm) | (with_reducible refine bl_dr ?_) | (with_reducible refine bl_drN ?_ _) | (with_reducible refine bl_al ?_ _) | (with_reducible refine bl_more ?_ _ _)))) HS.out HC.out a.i (own_row HS2.out (by have h := HG2.out; rcases h with ⟨h1, _⟩ | ⟨h1, _⟩; omega; (rw [h1]; simp only [World.size_alloc]; omega))) (fun b hb => hb)).mono ?_; rintro e w3 ⟨rfl, hq, he⟩; have HQ := hid hq; have HE := hid he; clear hq he))
  obtain ⟨g2', hlp⟩ := Lp.start (n := a.b.length) HT.out HV.out rfl rfl HS2.out (by simp) (by have h := HG2.out; rcases h with ⟨h1, _, h2⟩ | ⟨h1, _⟩; exact .inl ⟨h1, h2⟩; exact .inr (by rw [h1]; simp only [World.size_alloc]; omega)) HQ.out HE.out
  have HLP := hid hlp
  have HK := hid hok
  clear hlp hok HS2 HG2
  go_loopg [10] a.b.length (fun k i wr => ∃ j : Nat, j + k = a.b.length ∧ i = .int .i64 j ∧ Lp w0 wr w.heap.size d r gF (.slice B a.b.length cb) (.slice D nd cd) A2 a.b.length g2' (appR s a.i a.b).1 s a)
  case atStart => exact ⟨0, by omega, rfl, HLP.out⟩
  case round =>
    obtain ⟨j, hj, rfl, hp⟩ := hrel
    have HP := hid hp
    have HJ := hid hj
    clear HLP
    by_cases hlt : j < a.b.length
    · obtain ⟨off, cur, rfl, hb, hfit⟩ := hp.blk.resolve_left (by omega)
      obtain ⟨u, c1⟩ : ∃ u, wr.cell? ⟨g2', off + j, none⟩ = some u := ⟨cur[off + j]'(by omega), by rw [cell_blk hb]; exact Array.getElem?_eq_getElem _⟩
      have f1 : wr.frozen? ⟨g2', off + j, none⟩ = false := frz_blk hb _
      have i1 : (j : Int) < (a.b.length : Int) := by omega
      have i3 : (0 : Int) ≤ (j : Int) := by omega
      have w1' : IntKind.i64.wrap ((j : Int) + 1) = ((j + 1 : Nat) : Int) := by rw [IntWalk.i64_in _ (by have := HK.out; omega)]; rfl
      clear hp hb hfit hj
      go_wp2_with (first | ((with_reducible refine wp_region_plan (id := 3) (.eff [(false, 0), (false, 1), (false, 2), (true, 4), (true, 5), (true, 6)] 3 [4, 5, 6] (.eff [] 7 [] (.fin [(false, 8), (false, 9)]))) ?_ ?_ ?_ ?_ ?_ ?_); kernel_rfl; kernel_rfl; kernel_rfl; kernel_rfl; (intro c a d v w h; cases d <;> exact h)) | ((with_reducible refine wp_region_plan (id := 5) (.eff [(false, 0), (false, 1), (false, 2), (false, 3), (false, 4), (true, 6), (true, 7), (true, 8), (true, 9), (true, 10)] 5 [6, 7, 8, 9, 10] (.eff [] 11 [] (.fin [(false, 12), (false, 13)]))) ?_ ?_ ?_ ?_ ?_ ?_); kernel_rfl; kernel_rfl; kernel_rfl; kernel_rfl; (intro c a d v w h; cases d <;> exact h)) | ((with_reducible refine wp_region_plan (id := 7) (.eff [(false, 0), (false, 1), (false, 2), (true, 4), (true, 5), (true, 6)] 3 [4, 5, 6] (.eff [] 7 [] (.fin [(false, 8), (false, 9)]))) ?_ ?_ ?_ ?_ ?_ ?_); kernel_rfl; kernel_rfl; kernel_rfl; kernel_rfl; (intro c a d v w h; cases d <;> exact h)) | ((with_reducible refine wp_region_plan (id := 12) (.eff [(false, 0), (false, 1), (false, 2), (true, 4), (true, 5), (true, 6)] 3 [4, 5, 6] (.eff [] 7 [] (.fin [(false, 8), (false, 9)]))) ?_ ?_ ?_ ?_ ?_ ?_); kernel_rfl; kernel_rfl; kernel_rfl; kernel_rfl; (intro c a d v w h; cases d <;> exact h)) | ((with_reducible refine wp_region_plan (id := 15) (.eff [(false, 0), (false, 1), (false, 2), (false, 3), (false, 4)] 5 [] (.eff [(false, 6), (false, 7), (true, 8)] 9 [8] (.eff [] 10 [8] (.eff [] 11 [] (.eff [(false, 12), (false, 13), (false, 14), (true, 17), (true, 18), (true, 19), (true, 20), (true, 21), (true, 22), (true, 23), (true, 24), (true, 25)] 15 [17, 18, 19, 20, 21, 22, 23, 24, 25] (.eff [(false, 16), (false, 26), (false, 27), (false, 28), (false, 29), (false, 30)] 31 [] (.fin [(false, 32), (false, 33), (false, 34)]))))))) ?_ ?_ ?_ ?_ ?_ ?_); kernel_rfl; kernel_rfl; kernel_rfl; kernel_rfl; (intro c a d v w h; cases d <;> exact h)) | (with_reducible refine wpPlan_eff ?_) | (with_reducible refine wpPlan_fin ?_) | (with_reducible refine wpPlan_two ?_) | (with_reducible refine wpOpPair ?_ ?_) | ((with_reducible apply wpPre_keep); rfl; intro K' hK'; go_simp; refine hK' _ _ ?_; intro f hf; clear hK' K') | ((with_reducible apply wpPre_drop); rfl; intro K' hK'; go_simp; refine hK' _ _ ?_; intro f; clear hK' K') | (with_reducible refine wpPre_nil ?_) | ((with_reducible apply wpOp_list); rfl) | (with_reducible refine heldPair ?_ ?_) | ((with_reducible refine heldH_no ?_ ?_); rfl) | (with_reducible refine heldH_yes ?_ ?_) | (with_reducible exact heldH_nil) | (unfold YAt; go_simp; done))
      go_roundg (a.b.length - (j + 1))
      case measure => have := HJ.out; omega
      case rel => exact ⟨j + 1, by have := HJ.out; omega, rfl, HP.out.set _ _⟩
    · obtain rfl : j = a.b.length := by omega
      have b1 : wr.cell? ⟨w.heap.size, 1, none⟩ = some (.int .i64 a.i) := cell_blk hp.box 1
      have b3 : wr.cell? ⟨w.heap.size, 3, none⟩ = some (.slice B a.b.length cb) := cell_blk hp.box 3
      have i1 : ¬ (a.b.length : Int) < a.b.length := by omega
      clear hp hj
      go_wp2_with (first | ((with_reducible refine wp_region_plan (id := 3) (.eff [(false, 0), (false, 1), (false, 2), (true, 4), (true, 5), (true, 6)] 3 [4, 5, 6] (.eff [] 7 [] (.fin [(false, 8), (false, 9)]))) ?_ ?_ ?_ ?_ ?_ ?_); kernel_rfl; kernel_rfl; kernel_rfl; kernel_rfl; (intro c a d v w h; cases d <;> exact h)) | ((with_reducible refine wp_region_plan (id := 5) (.eff [(false, 0), (false, 1), (false, 2), (false, 3), (false, 4), (true, 6), (true, 7), (true, 8), (true, 9), (true, 10)] 5 [6, 7, 8, 9, 10] (.eff [] 11 [] (.fin [(false, 12), (false, 13)]))) ?_ ?_ ?_ ?_ ?_ ?_); kernel_rfl; kernel_rfl; kernel_rfl; kernel_rfl; (intro c a d v w h; cases d <;> exact h)) | ((with_reducible refine wp_region_plan (id := 7) (.eff [(false, 0), (false, 1), (false, 2), (true, 4), (true, 5), (true, 6)] 3 [4, 5, 6] (.eff [] 7 [] (.fin [(false, 8), (false, 9)]))) ?_ ?_ ?_ ?_ ?_ ?_); kernel_rfl; kernel_rfl; kernel_rfl; kernel_rfl; (intro c a d v w h; cases d <;> exact h)) | ((with_reducible refine wp_region_plan (id := 12) (.eff [(false, 0), (false, 1), (false, 2), (true, 4), (true, 5), (true, 6)] 3 [4, 5, 6] (.eff [] 7 [] (.fin [(false, 8), (false, 9)]))) ?_ ?_ ?_ ?_ ?_ ?_); kernel_rfl; kernel_rfl; kernel_rfl; kernel_rfl; (intro c a d v w h; cases d <;> exact h)) | ((with_reducible refine wp_region_plan (id := 15) (.eff [(false, 0), (false, 1), (false, 2), (false, 3), (false, 4)] 5 [] (.eff [(false, 6), (false, 7), (true, 8)] 9 [8] (.eff [] 10 [8] (.eff [] 11 [] (.eff [(false, 12), (false, 13), (false, 14), (true, 17), (true, 18), (true, 19), (true, 20), (true, 21), (true, 22), (true, 23), (true, 24), (true, 25)] 15 [17, 18, 19, 20, 21, 22, 23, 24, 25] (.eff [(false, 16), (false, 26), (false, 27), (false, 28), (false, 29), (false, 30)] 31 [] (.fin [(false, 32), (false, 33), (false, 34)]))))))) ?_ ?_ ?_ ?_ ?_ ?_); kernel_rfl; kernel_rfl; kernel_rfl; kernel_rfl; (intro c a d v w h; cases d <;> exact h)) | (with_reducible refine wpPlan_eff ?_) | (with_reducible refine wpPlan_fin ?_) | (with_reducible refine wpPlan_two ?_) | (with_reducible refine wpOpPair ?_ ?_) | ((with_reducible apply wpPre_keep); rfl; intro K' hK'; go_simp; refine hK' _ _ ?_; intro f hf; clear hK' K') | ((with_reducible apply wpPre_drop); rfl; intro K' hK'; go_simp; refine hK' _ _ ?_; intro f; clear hK' K') | (with_reducible refine wpPre_nil ?_) | ((with_reducible apply wpOp_list); rfl) | (with_reducible refine heldPair ?_ ?_) | ((with_reducible refine heldH_no ?_ ?_); rfl) | (with_reducible refine heldH_yes ?_ ?_) | (with_reducible exact heldH_nil) | (unfold YAt; go_simp; done) | (rw [str_run (HP.out.row.below (by repeat (first | (with_reducible exact Below.refl _ _) | (with_reducible exact bl_mm) | (with_reducible refine bl_dr ?_) | (with_reducible refine bl_drN ?_ _) | (with_reducible refine bl_al ?_ _) | (with_reducible refine bl_more ?_ _ _))))]) | (go_at_call 32; refine (rapp_all (l := a.b) (HP.out.rk.below (by repeat (first | (with_reducible exact Below.refl _ _) | (with_reducible exact bl_mm) | (with_reducible refine bl_dr ?_) | (with_reducible refine bl_drN ?_ _) | (with_reducible refine bl_al ?_ _) | (with_reducible refine bl_more ?_ _ _)))) HS.out HC.out a.i).mono ?_; rintro e w4 ⟨rfl, hq, he⟩; have HT2 := hid ((HP.out.two.below (by repeat (first | (with_reducible exact Below.refl _ _) | (with_reducible exact bl_mm) | (with_reducible refine bl_dr ?_) | (with_reducible refine bl_drN ?_ _) | (with_reducible refine bl_al ?_ _) | (with_reducible refine bl_more ?_ _ _)))).toR hq he); clear hq he))
      go_ret
      exact ⟨rfl, HT2.out.below (by repeat (first | (with_reducible exact Below.refl _ _) | (with_reducible exact bl_mm) | (with_reducible refine bl_dr ?_) | (with_reducible refine bl_drN ?_ _) | (with_reducible refine bl_al ?_ _) | (with_reducible refine bl_more ?_ _ _)))⟩
end Go.Proofs.Ytnobbehoojgfcaa
