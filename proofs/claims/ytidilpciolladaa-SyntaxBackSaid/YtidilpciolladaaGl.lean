/- The program's 'Read'. -/
import Derived.Test.YtidilpciolladaaGk
/- What 'Lex' tells: names and marks. -/
namespace Go.Proofs.Ytidilpciolladaa
open Go.RowKit

theorem dec_one {s : ByteArray} {p : Nat} (hb : bad s p = false) (hc : cls (Utf8.decode s p).1 ≠ 1) : (Utf8.decode s p).1 = by_ s p := by
  have h1 := small_w hb hc
  unfold bad at hb
  have hb := of_decide_eq_false hb
  revert h1 hb
  rw [dec_decB]
  unfold decB
  (repeat' split) <;> simp
theorem one_byte {x : ByteArray} (h : x.size = 1) : x = ⟨#[x.get! 0]⟩ := by
  obtain ⟨⟨l⟩⟩ := x
  match l, h with
  | [a], _ => rfl
theorem mark_text {s : ByteArray} {p : Nat} (hp : p < s.size) (hb : bad s p = false) (hc : cls (Utf8.decode s p).1 ≠ 1) (hm : markD (Utf8.decode s p).1 = true) : isMk (s.extract p (p + (Utf8.decode s p).2)) = true := by
  have h1 := small_w hb hc
  have h2 := dec_one hb hc
  have hsz : (s.extract p (p + 1)).size = 1 := by rw [size_ext (by omega)]; omega
  have hby : by_ (s.extract p (p + 1)) 0 = by_ s p := by rw [by_ext (by omega) (.inl (by omega))]; rfl
  rw [h1, one_byte hsz]
  rw [h2, ← hby] at hm
  unfold by_ at hm
  generalize (s.extract p (p + 1)).get! 0 = c at hm ⊢
  unfold markD at hm
  simp only [Bool.or_eq_true, beq_iff_eq] at hm
  have h : c.toNat = 123 ∨ c.toNat = 125 ∨ c.toNat = 40 ∨ c.toNat = 41 ∨ c.toNat = 59 ∨ c.toNat = 44 := by omega
  rcases h with h | h | h | h | h | h
  · rw [show c = 123 from UInt8.toNat_inj.1 h]; decide
  · rw [show c = 125 from UInt8.toNat_inj.1 h]; decide
  · rw [show c = 40 from UInt8.toNat_inj.1 h]; decide
  · rw [show c = 41 from UInt8.toNat_inj.1 h]; decide
  · rw [show c = 59 from UInt8.toNat_inj.1 h]; decide
  · rw [show c = 44 from UInt8.toNat_inj.1 h]; decide
theorem name_text {s : ByteArray} {p : Nat} (hp : p < s.size) (hb : bad s p = false) (hc : cls (Utf8.decode s p).1 = 1) (hl : ¬ (runE s p : Int) - p > 24) : nameB (s.extract p (runE s p)) = true := by
  have hg := runE_gt hp hb hc
  have hle := runE_le (s := s) (p := p) (by omega)
  have hsz := size_ext (a := p) hle
  have hn : namC (Utf8.decode s p).1 = true := by unfold namC; rw [hc]; rfl
  have hw : p + 0 + (Utf8.decode s (p + 0)).2 ≤ runE s p := by
    rw [Nat.add_zero, runE_next hp hb hn]; exact runE_ge _ _
  have hb' := bad_down (i := 0) hle (by rw [Nat.add_zero]; exact hb) hw
  have hd' := dec_down (i := 0) hle (by rw [Nat.add_zero]; exact hb) hw
  have hsuf := run_suf (s := s) (a := p) (i := 0) (by omega)
  rw [Nat.add_zero] at hsuf
  have hys : (s.extract p s.size).size = s.size - p := size_ext (Nat.le_refl _)
  have hy0 : runE (s.extract p s.size) 0 = runE s p - p := by omega
  have hpre := run_pre (s := s.extract p s.size) (p := 0) (b := runE s p - p) (by omega) (by omega) (fun h => by omega)
  have hee : (s.extract p s.size).extract 0 (runE s p - p) = s.extract p (runE s p) := by
    rw [ext_ext (by omega), Nat.add_zero, show p + (runE s p - p) = runE s p by omega]
  rw [hee, hy0] at hpre
  rw [name_eq]
  unfold nameD
  rw [decide_eq_true (by omega), decide_eq_true (by omega : (s.extract p (runE s p)).size ≤ 24), decide_eq_true (by omega)]
  have hpt : ptR (s.extract p (runE s p)) 0 = ((Utf8.decode s p).1 : Int) := by unfold ptR; rw [if_neg (by rw [hb']; decide), hd', Nat.add_zero]
  rw [hpt, decide_eq_true hc]
  rfl
theorem good_add {out : List Tok} {x : Tok} (h : ∀ y ∈ out, GoodT y) (hx : GoodT x) : ∀ y ∈ out ++ [x], GoodT y := by
  intro y hy
  rcases List.mem_append.1 hy with hy | hy
  · exact h y hy
  · rw [List.mem_singleton.1 hy]; exact hx
/-- Tokens are good, and no more than bytes. -/
theorem dL_good {s : ByteArray} : ∀ (n p : Nat) (rem : Bool) (out l : List Tok), s.size - p ≤ n → p ≤ s.size → (∀ x ∈ out, GoodT x) → out.length ≤ p → dL s p rem out = .inl l → (∀ x ∈ l, GoodT x) ∧ l.length ≤ s.size := by
  intro n
  induction n with
  | zero =>
    intro p rem out l hn hps hg hlen h
    rw [dL_end (by omega)] at h
    cases h
    exact ⟨hg, by omega⟩
  | succ n ih =>
    intro p rem out l hn hps hg hlen h
    by_cases hp : p < s.size
    · cases hb : bad s p with
      | true => rw [dL_bad hp hb] at h; cases h
      | false =>
        have hw := width_pos s p
        have hwl := width_le hp
        obtain ⟨e1, e2, e3⟩ : s.size - (p + (Utf8.decode s p).2) ≤ n ∧ out.length ≤ p + (Utf8.decode s p).2 ∧ out.length + 1 ≤ p + (Utf8.decode s p).2 := by
          clear h
          generalize (Utf8.decode s p).2 = d at hw hwl ⊢
          omega
        have happ : ∀ y : Tok, (out ++ [y]).length = out.length + 1 := fun y => by rw [List.length_append]; rfl
        rw [dL_step hp hb] at h
        split at h
        · exact ih _ _ _ _ e1 hwl hg e2 h
        · split at h
          · rename_i hc
            split at h
            · cases h
            · rename_i hl
              have h1 := runE_gt hp hb hc
              have h2 := runE_le (s := s) (p := p) (Nat.le_of_lt hp)
              obtain ⟨e4, e5⟩ : s.size - runE s p ≤ n ∧ out.length + 1 ≤ runE s p := by
                clear h hl hc hw hwl e1 e2 e3
                generalize runE s p = d at h1 h2 ⊢
                omega
              have hgd : GoodT ⟨1, s.extract p (runE s p), (p : Int)⟩ := .inl ⟨rfl, name_text hp hb hc hl⟩
              exact ih (runE s p) rem (out ++ [⟨1, s.extract p (runE s p), (p : Int)⟩]) l e4 h2 (good_add hg hgd) (by rw [happ]; exact e5) h
          · rename_i hc
            split at h
            · rename_i hm
              have hgd : GoodT ⟨2, s.extract p (p + (Utf8.decode s p).2), (p : Int)⟩ := .inr ⟨rfl, mark_text hp hb hc hm⟩
              exact ih (p + (Utf8.decode s p).2) rem (out ++ [⟨2, s.extract p (p + (Utf8.decode s p).2), (p : Int)⟩]) l e1 hwl (good_add hg hgd) (by rw [happ]; exact e3) h
            · split at h
              · exact ih _ _ _ _ e1 hwl hg e2 h
              · cases h
    · rw [dL_end hp] at h
      cases h
      exact ⟨hg, by omega⟩
theorem dR_good (s : ByteArray) : (∀ x ∈ (dR s).1, GoodT x) ∧ (dR s).1.length ≤ s.size := by
  unfold dR
  cases h : dL s 0 false [] with
  | inl l => exact dL_good _ 0 false [] l (Nat.le_refl _) (Nat.zero_le _) (fun _ h => by cases h) (Nat.zero_le _) h
  | inr q => exact ⟨fun x h => (List.not_mem_nil h).elim, Nat.zero_le _⟩
end Go.Proofs.Ytidilpciolladaa

/- The program's 'Read'. -/
namespace Go.Proofs.Ytidilpciolladaa
open Go.RowKit

def lexS (s : ByteArray) : List Tok × Int × Int := if s.size ≤ 65536 then dR s else ([], 0, 5)
def FU : Nat := 300010
def posT (s : ByteArray) (t : List Tok) : Int := match t with
  | [] => (s.size : Int)
  | x :: _ => x.at_
def at0 (l : List Tok) : Int := match l with
  | [] => 0
  | x :: _ => x.at_
/-- A text as a saga. -/
def readR (s : ByteArray) : (ByteArray × List (List Nd)) × Int × Int :=
  if (lexS s).2.2 = 0 then
    match pSaga FU (lexS s).1 with
    | .bad t => ((⟨#[]⟩, []), posT s t, 10)
    | .ok g _ => if depthB g.2 ≤ 70 ∧ countB g.2 ≤ 1000 then (g, (s.size : Int), 0) else ((⟨#[]⟩, []), at0 (lexS s).1, 5)
  else ((⟨#[]⟩, []), (lexS s).2.1, (lexS s).2.2)
theorem fin9 {w W9 w2 : World} {b2 r : Nat} (h1 : Below w.heap.size w W9) (h2 : Ext (fun b => b = r) W9 w2) (hb : w.heap.size = b2) (hr : b2 < r) (u v : Value) : Below w.heap.size w ((w2.setCell ⟨b2, 0, none⟩ u).setCell ⟨b2, 1, none⟩ v) := by
  have h3 : Ext (fun b => b = b2) w2 ((w2.setCell ⟨b2, 0, none⟩ u).setCell ⟨b2, 1, none⟩ v) := (Ext.setCell (S := fun b => b = b2) w2 ⟨b2, 0, none⟩ u rfl).trans (Ext.setCell (S := fun b => b = b2) _ ⟨b2, 1, none⟩ v rfl) (fun _ _ h => h)
  have h4 : Ext (fun b => w.heap.size ≤ b) w ((w2.setCell ⟨b2, 0, none⟩ u).setCell ⟨b2, 1, none⟩ v) := ((Ext.of_below h1).trans h2 (fun x hx e => by omega)).trans h3 (fun x hx e => by omega)
  exact h4.below (fun x hx h => by omega)
theorem p_cnt : ∀ f, (∀ t nd t', pNode f t = .ok nd t' → countB nd.alts + 1 + t'.length ≤ t.length) ∧ (∀ t al t', pBodies f t = .ok al t' → countB al + t'.length ≤ t.length) ∧ (∀ t x t', pBody f t = .ok x t' → countL x + t'.length ≤ t.length) ∧ (∀ t al t', pMoreB f t = .ok al t' → countB al + t'.length ≤ t.length) ∧ (∀ t x t', pNodes f t = .ok x t' → countL x + t'.length ≤ t.length) := by
  intro f
  induction f with
  | zero => exact ⟨fun t _ _ h => (by rw [pNode] at h; cases h), fun t _ _ h => (by rw [pBodies] at h; cases h), fun t _ _ h => (by rw [pBody] at h; cases h), fun t _ _ h => (by rw [pMoreB] at h; cases h), fun t _ _ h => (by rw [pNodes] at h; cases h)⟩
  | succ f ih =>
    obtain ⟨h1, h2, h3, h4, h5⟩ := ih
    refine ⟨fun t nd t' h => ?_, fun t al t' h => ?_, fun t x t' h => ?_, fun t al t' h => ?_, fun t x t' h => ?_⟩
    · rw [pNode] at h
      unfold nodeOf at h
      cases e1 : pHead t with
      | bad u => rw [e1] at h; cases h
      | ok hd t1 =>
        have l0 := pHead_pos e1
        have l1 := pHead_le t
        rw [e1] at h l1
        have l1 : t1.length ≤ t.length - 2 := l1
        have h : kU _ hd.1 hd.2.1 hd.2.2 t1 = .ok nd t' := h
        unfold kU at h
        have l2 := pUndo_le hd.1 t1
        cases e2 : pUndo hd.1 t1 with
        | bad u => rw [e2] at h; cases h
        | ok un t2 =>
          rw [e2] at h l2
          have l2 : t2.length ≤ t1.length := l2
          have h : kA _ hd.1 hd.2.1 hd.2.2 un t2 = .ok nd t' := h
          unfold kA at h
          have l3 := pAfter_le t2
          cases e3 : pAfter t2 with
          | bad u => rw [e3] at h; cases h
          | ok af t3 =>
            rw [e3] at h l3
            have l3 : t3.length ≤ t2.length := l3
            have h : kE _ hd.1 hd.2.1 hd.2.2 un af t3 = .ok nd t' := h
            unfold kE at h
            cases e4 : pEnd (fun t => pBodies f t) hd.1 t3 with
            | bad u => rw [e4] at h; cases h
            | ok al t4 =>
              rw [e4] at h
              have h : Res.ok (.mk hd.2.2 un af hd.1 hd.2.1 al) t4 = .ok nd t' := h
              cases h
              show countB al + 1 + t'.length ≤ t.length
              unfold pEnd at e4
              split at e4
              · have := h2 _ _ _ e4; omega
              · split at e4
                · rename_i hs
                  have := tail_len hs
                  cases e4
                  show 0 + 1 + t3.tail.length ≤ t.length
                  omega
                · cases e4
    · rw [pBodies] at h
      split at h
      · rename_i hs
        have := tail_len hs
        cases e1 : pBody f t.tail with
        | bad u => rw [e1] at h; cases h
        | ok b t1 =>
          rw [e1] at h
          have k1 := h3 _ _ _ e1
          have h : (pMoreB f t1).bind _ = .ok al t' := h
          cases e2 : pMoreB f t1 with
          | bad u => rw [e2] at h; cases h
          | ok m t2 =>
            rw [e2] at h
            have k2 := h4 _ _ _ e2
            have h : (if isT t2 cRb then Res.ok (b :: m) t2.tail else .bad t2) = .ok al t' := h
            split at h
            · cases h
              have := tl_le t2
              rw [countB]; omega
            · cases h
      · cases h
    · rw [pBody] at h
      split at h
      · have := h5 _ _ _ h; have := tl_le t; omega
      · cases h
    · rw [pMoreB] at h
      split at h
      · rename_i hs
        have := tail_len hs
        cases e1 : pBody f t.tail with
        | bad u => rw [e1] at h; cases h
        | ok b t1 =>
          rw [e1] at h
          have k1 := h3 _ _ _ e1
          have h : (pMoreB f t1).bind _ = .ok al t' := h
          cases e2 : pMoreB f t1 with
          | bad u => rw [e2] at h; cases h
          | ok m t2 =>
            rw [e2] at h
            have k2 := h4 _ _ _ e2
            have h : Res.ok (b :: m) t2 = .ok al t' := h
            cases h
            rw [countB]; omega
      · cases h
        show 0 + t.length ≤ t.length
        omega
    · rw [pNodes] at h
      split at h
      · cases h
        have := tl_le t
        show 0 + t.tail.length ≤ t.length
        omega
      · cases e1 : pNode f t with
        | bad u => rw [e1] at h; cases h
        | ok b t1 =>
          rw [e1] at h
          have k1 := h1 _ _ _ e1
          have h : (pNodes f t1).bind _ = .ok x t' := h
          cases e2 : pNodes f t1 with
          | bad u => rw [e2] at h; cases h
          | ok m t2 =>
            rw [e2] at h
            have k2 := h5 _ _ _ e2
            have h : Res.ok (b :: m) t2 = .ok x t' := h
            cases h
            rw [countL, countN_eq]; omega
theorem pSaga_inv {f : Nat} {t t' : List Tok} {g : ByteArray × List (List Nd)} (h : pSaga f t = .ok g t') : isT t wd0 = true ∧ isN t.tail = true ∧ g.1 = txN t.tail ∧ pBodies f t.tail.tail = .ok g.2 [] ∧ t' = [] := by
  unfold pSaga at h
  split at h
  · rename_i h1
    split at h
    · rename_i h2
      cases e : pBodies f t.tail.tail with
      | bad u => rw [e] at h; cases h
      | ok al t1 =>
        rw [e] at h
        have h : sagaK (txN t.tail) al t1 = .ok g t' := h
        cases t1 with
        | nil => cases h; exact ⟨h1, h2, rfl, rfl, rfl⟩
        | cons x t1 => cases h
    · cases h
  · cases h
theorem pSaga_cnt {f : Nat} {t t' : List Tok} {g : ByteArray × List (List Nd)} (h : pSaga f t = .ok g t') : countB g.2 ≤ t.length := by
  obtain ⟨_, _, _, h4, _⟩ := pSaga_inv h
  have h1 := (p_cnt f).2.1 _ _ _ h4
  have h2 := tl_le t
  have h3 := tl_le t.tail
  omega
theorem pSaga_ne {f : Nat} {t t' : List Tok} {g : ByteArray × List (List Nd)} (h : pSaga f t = .ok g t') : ∃ x l, t = x :: l := by
  obtain ⟨h1, _⟩ := pSaga_inv h
  cases t with
  | nil => cases h1
  | cons x l => exact ⟨x, l, rfl⟩
/-- What 'Lex' tells. -/
def LexQ (s : ByteArray) (w : World) (e : Ending) (w' : World) : Prop := ∃ v, e = .returned (.tuple #[v, .int .i64 (lexS s).2.1, .int .i64 (lexS s).2.2]) ∧ tokE.Row (fun b => w.heap.size ≤ b) w' v (lexS s).1 ∧ Below w.heap.size w w'
theorem lexT_any {w : World} {s : ByteArray} : Calls Try.prog 21 #[.string s] w (LexQ s w) := by
  by_cases hz : s.size ≤ 65536
  · have he : lexS s = lexR s := by unfold lexS; rw [if_pos hz, lexR_eq]
    refine (lex_any hz).mono ?_
    rintro e w' ⟨v, g, rfl, hs, hg, hb⟩
    unfold LexQ
    rw [he]
    exact ⟨v, rfl, hs.row (fun b h _ => h.elim) hg, hb⟩
  · have he : lexS s = ([], 0, 5) := by unfold lexS; rw [if_neg hz]
    refine (lex_big (by omega)).mono ?_
    rintro e w' ⟨rfl, hb⟩
    unfold LexQ
    rw [he]
    exact ⟨_, rfl, Enc.Row.nil _ _ _, hb⟩
theorem lexS_good (s : ByteArray) : (∀ x ∈ (lexS s).1, GoodT x) ∧ (lexS s).1.length ≤ 65536 := by
  unfold lexS
  split
  · exact ⟨(dR_good s).1, by have := (dR_good s).2; omega⟩
  · exact ⟨fun x h => (List.not_mem_nil h).elim, Nat.zero_le _⟩
/-- What 'Read' tells. -/
def ReadQ (s : ByteArray) (w : World) (e : Ending) (w' : World) : Prop := ∃ vs, e = .returned (.tuple #[.agg #[.string (readR s).1.1, vs], .int .i64 (readR s).2.1, .int .i64 (readR s).2.2]) ∧ (bodyE FU).Row (fun b => w.heap.size ≤ b) w' vs (readR s).1.2 ∧ Below w.heap.size w w'
theorem ReadQ.none {s : ByteArray} {w w' : World} {p q : Int} (h : readR s = ((⟨#[]⟩, []), p, q)) (hb : Below w.heap.size w w') : ReadQ s w (.returned (.tuple #[.agg #[.string ⟨#[]⟩, .slice none 0 0], .int .i64 p, .int .i64 q])) w' := by
  unfold ReadQ
  rw [h]
  exact ⟨_, rfl, Enc.Row.nil _ _ _, hb⟩
theorem RD.start {W : World} {A : Option Addr} {c : Nat} {l : List Tok} {K : Nat → Prop} (h : tokE.Row K W (.slice A l.length c) l) (hg : ∀ x ∈ l, GoodT x) (hl : l.length ≤ 100000) : RD (W.alloc (.cells #[.slice A l.length c, .int .i64 0] 52)) W.heap.size l l :=
  ⟨⟨0, c, A, alloc_blk rfl, rfl, Nat.zero_le _, (h.bound.alloc _).mono (fun b hb _ => hb.2)⟩, hg, hl⟩
theorem RD.cells {w : World} {r : Nat} {l t : List Tok} (h : RD w r l t) : ∃ (i c : Nat) (A : Option Addr), w.cell? ⟨r, 0, none⟩ = some (.slice A l.length c) ∧ w.cell? ⟨r, 1, none⟩ = some (.int .i64 (i : Int)) ∧ l.drop i = t ∧ i ≤ l.length := by
  obtain ⟨i, c, A, hb, ht, hi, _⟩ := h.ex
  exact ⟨i, c, A, cell_blk hb 0, cell_blk hb 1, ht, hi⟩
set_option maxRecDepth 8000 in
set_option maxHeartbeats 8000000 in
theorem sread_any {w : World} {s : ByteArray} : Calls Try.prog 9 #[.string s] w (ReadQ s w) := by
  obtain ⟨l, hl⟩ : ∃ l, (lexS s) = l := ⟨_, rfl⟩
  obtain ⟨l, P, E⟩ := l
  have HL1 := hid hl
  have hgood := lexS_good s
  rw [hl] at hgood
  have HGD := hid hgood
  by_cases hE : E = 0
  · subst hE
    clear hl hgood
    go_enter Try.func9, Try.ntmps9
    go_upto_region 5 with (first | ((with_reducible refine wp_region_plan (id := 9) (.eff [(false, 0), (true, 1), (true, 2), (true, 3), (true, 4), (true, 5), (true, 6), (true, 7), (true, 8)] 9 [1, 2, 3, 4, 5, 6, 7, 8] (.fin [(false, 10), (false, 11)])) ?_ ?_ ?_ ?_ ?_ ?_); kernel_rfl; kernel_rfl; kernel_rfl; kernel_rfl; (intro c a d v w h; cases d <;> exact h)) | ((with_reducible refine wp_region_plan (id := 11) (.eff [(false, 0), (true, 1), (true, 2), (true, 3), (true, 4)] 5 [1, 2, 3, 4] (.fin [(false, 6), (false, 7)])) ?_ ?_ ?_ ?_ ?_ ?_); kernel_rfl; kernel_rfl; kernel_rfl; kernel_rfl; (intro c a d v w h; cases d <;> exact h)) | (with_reducible refine wpPlan_eff ?_) | (with_reducible refine wpPlan_fin ?_) | (with_reducible refine wpPlan_two ?_) | (with_reducible refine wpOpPair ?_ ?_) | ((with_reducible apply wpPre_keep); rfl; intro K' hK'; go_simp; refine hK' _ _ ?_; intro f hf; clear hK' K') | ((with_reducible apply wpPre_drop); rfl; intro K' hK'; go_simp; refine hK' _ _ ?_; intro f; clear hK' K') | (with_reducible refine wpPre_nil ?_) | ((with_reducible apply wpOp_list); rfl) | (with_reducible refine heldPair ?_ ?_) | ((with_reducible refine heldH_no ?_ ?_); rfl) | (with_reducible refine heldH_yes ?_ ?_) | (with_reducible exact heldH_nil) | (unfold YAt; go_simp; done) | (go_at_call 21; refine lexT_any.mono ?_; rintro e w1 ⟨vT, rfl, hrow, hb1⟩; rw [HL1.out] at hrow ⊢; obtain ⟨AT, cT, rfl, _, _⟩ := hrow.form; have HROW := hid hrow; have HB1 := hid hb1; obtain ⟨ex1, dx1, rfl⟩ := more_of hb1; clear hrow hb1))
    have hrd := RD.start HROW.out HGD.out.1 (Nat.le_trans HGD.out.2 (by decide))
    have hrow := (HROW.out.bound.alloc (.cells #[.slice AT l.length cT, .int .i64 0] 52)).mono (K' := fun b => w.heap.size < b ∧ b < (more (w.alloc (.cells #[.string ⟨#[]⟩, .slice none 0 0] 25)) ex1 dx1).heap.size) (fun b hb _ => ⟨by have := hb.1; rw [World.size_alloc] at this; omega, hb.2⟩)
    have hbl : Below w.heap.size w ((more (w.alloc (.cells #[.string ⟨#[]⟩, .slice none 0 0] 25)) ex1 dx1).alloc (.cells #[.slice AT l.length cT, .int .i64 0] 52)) := (by repeat (first | (with_reducible exact Below.refl _ _) | (with_reducible exact bl_mm) | (with_reducible refine bl_dr ?_) | (with_reducible refine bl_drN ?_ _) | (with_reducible refine bl_al ?_ _) | (with_reducible refine bl_more ?_ _ _)))
    have hb2 : ((more (w.alloc (.cells #[.string ⟨#[]⟩, .slice none 0 0] 25)) ex1 dx1).alloc (.cells #[.slice AT l.length cT, .int .i64 0] 52)).heap[w.heap.size]? = some (.cells #[.string ⟨#[]⟩, .slice none 0 0] 25 (0, 0)) :=
      ((show Below (w.alloc (.cells #[.string ⟨#[]⟩, .slice none 0 0] 25)).heap.size (w.alloc (.cells #[.string ⟨#[]⟩, .slice none 0 0] 25)) ((more (w.alloc (.cells #[.string ⟨#[]⟩, .slice none 0 0] 25)) ex1 dx1).alloc (.cells #[.slice AT l.length cT, .int .i64 0] 52)) from (by repeat (first | (with_reducible exact Below.refl _ _) | (with_reducible exact bl_mm) | (with_reducible refine bl_dr ?_) | (with_reducible refine bl_drN ?_ _) | (with_reducible refine bl_al ?_ _) | (with_reducible refine bl_more ?_ _ _)))).block _ (by simp)).trans (alloc_blk rfl)
    have hrs : (more (w.alloc (.cells #[.string ⟨#[]⟩, .slice none 0 0] 25)) ex1 dx1).heap.size = w.heap.size + 1 + ex1.size := by simp [more_size]
    obtain ⟨W9, hW9⟩ : ∃ W, (more (w.alloc (.cells #[.string ⟨#[]⟩, .slice none 0 0] 25)) ex1 dx1).alloc (.cells #[.slice AT l.length cT, .int .i64 0] 52) = W := ⟨_, rfl⟩
    obtain ⟨r, hr⟩ : ∃ r, w.heap.size + 1 + ex1.size = r := ⟨_, rfl⟩
    rw [hrs] at hrd hrow
    obtain ⟨b2, hn2⟩ : ∃ b, w.heap.size = b := ⟨_, rfl⟩
    rw [hW9] at hrd hrow hbl hb2 ⊢
    rw [hr] at hrd hrow ⊢
    rw [hn2] at hb2 hr hrow ⊢
    have HRD := hid hrd
    have HROW9 := hid hrow
    have HBL := hid hbl
    have HB2 := hid hb2
    have HN2 := hid hn2
    have HNR : Hid (b2 < r) := hid (by omega)
    have hne : b2 ≠ r := by omega
    have hlf : 3 * l.length + 2 ≤ FU := by have := HGD.out.2; unfold FU; omega
    have HLF := hid hlf
    have hll : (l.length : Int) ≤ 65536 := by have := HGD.out.2; omega
    clear hrd hrow hbl hb2 hrs hW9 hr hn2 hlf HROW HB1
    cases hp : pSaga FU l with
    | bad t' =>
      have HPS := hid hp
      have HRR : Hid (readR s = ((⟨#[]⟩, []), posT s t', 10)) := hid (by unfold readR; rw [HL1.out, if_pos rfl]; simp only; rw [hp])
      clear hp
      go_upto_region 6 with (first | ((with_reducible refine wp_region_plan (id := 9) (.eff [(false, 0), (true, 1), (true, 2), (true, 3), (true, 4), (true, 5), (true, 6), (true, 7), (true, 8)] 9 [1, 2, 3, 4, 5, 6, 7, 8] (.fin [(false, 10), (false, 11)])) ?_ ?_ ?_ ?_ ?_ ?_); kernel_rfl; kernel_rfl; kernel_rfl; kernel_rfl; (intro c a d v w h; cases d <;> exact h)) | ((with_reducible refine wp_region_plan (id := 11) (.eff [(false, 0), (true, 1), (true, 2), (true, 3), (true, 4)] 5 [1, 2, 3, 4] (.fin [(false, 6), (false, 7)])) ?_ ?_ ?_ ?_ ?_ ?_); kernel_rfl; kernel_rfl; kernel_rfl; kernel_rfl; (intro c a d v w h; cases d <;> exact h)) | (with_reducible refine wpPlan_eff ?_) | (with_reducible refine wpPlan_fin ?_) | (with_reducible refine wpPlan_two ?_) | (with_reducible refine wpOpPair ?_ ?_) | ((with_reducible apply wpPre_keep); rfl; intro K' hK'; go_simp; refine hK' _ _ ?_; intro f hf; clear hK' K') | ((with_reducible apply wpPre_drop); rfl; intro K' hK'; go_simp; refine hK' _ _ ?_; intro f; clear hK' K') | (with_reducible refine wpPre_nil ?_) | ((with_reducible apply wpOp_list); rfl) | (with_reducible refine heldPair ?_ ?_) | ((with_reducible refine heldH_no ?_ ?_); rfl) | (with_reducible refine heldH_yes ?_ ?_) | (with_reducible exact heldH_nil) | (unfold YAt; go_simp; done) | (go_at_call 24; refine (try_any HRD.out HLF.out).mono ?_; rintro e w2 hq; unfold TryQ at hq; rw [HPS.out] at hq; obtain ⟨hx, hr, rfl⟩ := hq; have HX := hid hx; have HR2 := hid hr; have hb2 := box_kept HB2.out hx (by have := HNR.out; omega); have HBX := hid hb2; have x0 := cell_blk hb2 0; have x1 := cell_blk hb2 1; have fz := frz_blk hb2; have xl := (Array.getElem?_eq_some_iff.1 hb2).1; have yl := hr.lt; obtain ⟨i, ci, Ai, y0, y1, hdr, hil⟩ := hr.cells; have HDR := hid hdr; have HIL := hid hil; clear hx hr hb2 hdr hil))
      cases t' with
      | nil =>
        have hie : i = l.length := by
          have h1 := congrArg List.length HDR.out
          have h2 := HIL.out
          rw [List.length_drop, List.length_nil] at h1
          omega
        subst hie
        go_wp2_with (first | ((with_reducible refine wp_region_plan (id := 9) (.eff [(false, 0), (true, 1), (true, 2), (true, 3), (true, 4), (true, 5), (true, 6), (true, 7), (true, 8)] 9 [1, 2, 3, 4, 5, 6, 7, 8] (.fin [(false, 10), (false, 11)])) ?_ ?_ ?_ ?_ ?_ ?_); kernel_rfl; kernel_rfl; kernel_rfl; kernel_rfl; (intro c a d v w h; cases d <;> exact h)) | ((with_reducible refine wp_region_plan (id := 11) (.eff [(false, 0), (true, 1), (true, 2), (true, 3), (true, 4)] 5 [1, 2, 3, 4] (.fin [(false, 6), (false, 7)])) ?_ ?_ ?_ ?_ ?_ ?_); kernel_rfl; kernel_rfl; kernel_rfl; kernel_rfl; (intro c a d v w h; cases d <;> exact h)) | (with_reducible refine wpPlan_eff ?_) | (with_reducible refine wpPlan_fin ?_) | (with_reducible refine wpPlan_two ?_) | (with_reducible refine wpOpPair ?_ ?_) | ((with_reducible apply wpPre_keep); rfl; intro K' hK'; go_simp; refine hK' _ _ ?_; intro f hf; clear hK' K') | ((with_reducible apply wpPre_drop); rfl; intro K' hK'; go_simp; refine hK' _ _ ?_; intro f; clear hK' K') | (with_reducible refine wpPre_nil ?_) | ((with_reducible apply wpOp_list); rfl) | (with_reducible refine heldPair ?_ ?_) | ((with_reducible refine heldH_no ?_ ?_); rfl) | (with_reducible refine heldH_yes ?_ ?_) | (with_reducible exact heldH_nil) | (unfold YAt; go_simp; done))
        refine bodyPost_ret (v := .tuple #[.agg #[.string ⟨#[]⟩, .slice none 0 0], .int .i64 s.size, .int .i64 10]) (by simp [results, Try.results9]; go_simp) rfl ?_
        exact ReadQ.none HRR.out (bl_al (fin9 HBL.out HX.out HN2.out HNR.out _ _) _)
      | cons x t' =>
        have hlt : i < l.length := by
          rcases Nat.lt_or_ge i l.length with h | h
          · exact h
          · have h1 := HDR.out
            rw [List.drop_of_length_le h] at h1; cases h1
        have hx : l[i]'hlt = x := by
          have h1 := HDR.out
          rw [List.drop_eq_getElem_cons hlt] at h1
          exact (List.cons.inj h1).1
        have hrow2 := HROW9.out.ext HX.out (fun b hb _ e => by omega)
        obtain ⟨b1, o1, rfl, hbk, hl1, z1, z2, z3⟩ := row_tok hrow2 i hlt
        rw [hx] at z1 z2 z3
        have hi0 : (0 : Int) ≤ i := by omega
        have hi1 : (i : Int) < l.length := by omega
        have hq : ((i : Int) == (l.length : Int)) = false := by rw [beq_eq_false_iff_ne]; omega
        have hbne : b1 ≠ b2 := by omega
        clear hlt hx hrow2 hbk
        go_wp2_with (first | ((with_reducible refine wp_region_plan (id := 9) (.eff [(false, 0), (true, 1), (true, 2), (true, 3), (true, 4), (true, 5), (true, 6), (true, 7), (true, 8)] 9 [1, 2, 3, 4, 5, 6, 7, 8] (.fin [(false, 10), (false, 11)])) ?_ ?_ ?_ ?_ ?_ ?_); kernel_rfl; kernel_rfl; kernel_rfl; kernel_rfl; (intro c a d v w h; cases d <;> exact h)) | ((with_reducible refine wp_region_plan (id := 11) (.eff [(false, 0), (true, 1), (true, 2), (true, 3), (true, 4)] 5 [1, 2, 3, 4] (.fin [(false, 6), (false, 7)])) ?_ ?_ ?_ ?_ ?_ ?_); kernel_rfl; kernel_rfl; kernel_rfl; kernel_rfl; (intro c a d v w h; cases d <;> exact h)) | (with_reducible refine wpPlan_eff ?_) | (with_reducible refine wpPlan_fin ?_) | (with_reducible refine wpPlan_two ?_) | (with_reducible refine wpOpPair ?_ ?_) | ((with_reducible apply wpPre_keep); rfl; intro K' hK'; go_simp; refine hK' _ _ ?_; intro f hf; clear hK' K') | ((with_reducible apply wpPre_drop); rfl; intro K' hK'; go_simp; refine hK' _ _ ?_; intro f; clear hK' K') | (with_reducible refine wpPre_nil ?_) | ((with_reducible apply wpOp_list); rfl) | (with_reducible refine heldPair ?_ ?_) | ((with_reducible refine heldH_no ?_ ?_); rfl) | (with_reducible refine heldH_yes ?_ ?_) | (with_reducible exact heldH_nil) | (unfold YAt; go_simp; done))
        all_goals (
          refine bodyPost_ret (v := .tuple #[.agg #[.string ⟨#[]⟩, .slice none 0 0], .int .i64 x.at_, .int .i64 10]) (by simp [results, Try.results9]; go_simp) rfl ?_
          exact ReadQ.none HRR.out (bl_dr (bl_al (fin9 HBL.out HX.out HN2.out HNR.out _ _) _)))
    | ok g t' =>
      have HPS := hid hp
      have hcn := pSaga_cnt hp
      have HC : Hid (countB g.2 ≤ 4294967296) := hid (by have := HGD.out.2; omega)
      obtain ⟨x, l', hxl⟩ : ∃ x l', l = x :: l' := pSaga_ne hp
      obtain ⟨d, hd⟩ : ∃ d, depthB g.2 = d := ⟨_, rfl⟩
      obtain ⟨q, hq⟩ : ∃ q, countB g.2 = q := ⟨_, rfl⟩
      have HD := hid hd
      have HQ := hid hq
      have HRR : Hid (readR s = if d ≤ 70 ∧ q ≤ 1000 then (g, (s.size : Int), 0) else ((⟨#[]⟩, []), x.at_, 5)) := hid (by unfold readR; rw [HL1.out, if_pos rfl]; simp only; rw [hp, ← hd, ← hq, hxl]; rfl)
      have HXL := hid hxl
      clear hp hcn hd hq hxl
      go_upto_region 10 with (first | ((with_reducible refine wp_region_plan (id := 9) (.eff [(false, 0), (true, 1), (true, 2), (true, 3), (true, 4), (true, 5), (true, 6), (true, 7), (true, 8)] 9 [1, 2, 3, 4, 5, 6, 7, 8] (.fin [(false, 10), (false, 11)])) ?_ ?_ ?_ ?_ ?_ ?_); kernel_rfl; kernel_rfl; kernel_rfl; kernel_rfl; (intro c a d v w h; cases d <;> exact h)) | ((with_reducible refine wp_region_plan (id := 11) (.eff [(false, 0), (true, 1), (true, 2), (true, 3), (true, 4)] 5 [1, 2, 3, 4] (.fin [(false, 6), (false, 7)])) ?_ ?_ ?_ ?_ ?_ ?_); kernel_rfl; kernel_rfl; kernel_rfl; kernel_rfl; (intro c a d v w h; cases d <;> exact h)) | (with_reducible refine wpPlan_eff ?_) | (with_reducible refine wpPlan_fin ?_) | (with_reducible refine wpPlan_two ?_) | (with_reducible refine wpOpPair ?_ ?_) | ((with_reducible apply wpPre_keep); rfl; intro K' hK'; go_simp; refine hK' _ _ ?_; intro f hf; clear hK' K') | ((with_reducible apply wpPre_drop); rfl; intro K' hK'; go_simp; refine hK' _ _ ?_; intro f; clear hK' K') | (with_reducible refine wpPre_nil ?_) | ((with_reducible apply wpOp_list); rfl) | (with_reducible refine heldPair ?_ ?_) | ((with_reducible refine heldH_no ?_ ?_); rfl) | (with_reducible refine heldH_yes ?_ ?_) | (with_reducible exact heldH_nil) | (unfold YAt; go_simp; done) | (go_at_call 24; refine (try_any HRD.out HLF.out).mono ?_; rintro e w2 hq; unfold TryQ at hq; rw [HPS.out] at hq; obtain ⟨hx, hr, vs, rfl, hv⟩ := hq; obtain ⟨AL, cl, rfl, _, _⟩ := hv.form; have HAL := hid hv; have HX := hid hx; have HR2 := hid hr; have hb2 := box_kept HB2.out hx (by have := HNR.out; omega); have HBX := hid hb2; have x0 := cell_blk hb2 0; have x1 := cell_blk hb2 1; have fz := frz_blk hb2; have xl := (Array.getElem?_eq_some_iff.1 hb2).1; have yl := hr.lt; obtain ⟨i, ci, Ai, y0, y1, hdr, hil⟩ := hr.cells; have HDR := hid hdr; have HIL := hid hil; clear hx hr hv hb2 hdr hil))
      have HAL2 := hid (HAL.out.below (bl_al (Below.refl _ w2) (.cells #[.string g.1, .slice AL g.2.length cl] 25)))
      by_cases hd : d ≤ 70
      · have hd1 : ¬ ((70 : Int) < (d : Int)) := by omega
        have hd2 : decide ((70 : Int) < (d : Int)) = false := decide_eq_false hd1
        by_cases hq : q ≤ 1000
        · have hq1 : ¬ ((1000 : Int) < (q : Int)) := by omega
          have hq2 : decide ((1000 : Int) < (q : Int)) = false := decide_eq_false hq1
          have HRR2 : Hid (readR s = (g, (s.size : Int), 0)) := hid (by rw [HRR.out, if_pos ⟨hd, hq⟩])
          clear hd hq
          go_wp2_with (first | ((with_reducible refine wp_region_plan (id := 9) (.eff [(false, 0), (true, 1), (true, 2), (true, 3), (true, 4), (true, 5), (true, 6), (true, 7), (true, 8)] 9 [1, 2, 3, 4, 5, 6, 7, 8] (.fin [(false, 10), (false, 11)])) ?_ ?_ ?_ ?_ ?_ ?_); kernel_rfl; kernel_rfl; kernel_rfl; kernel_rfl; (intro c a d v w h; cases d <;> exact h)) | ((with_reducible refine wp_region_plan (id := 11) (.eff [(false, 0), (true, 1), (true, 2), (true, 3), (true, 4)] 5 [1, 2, 3, 4] (.fin [(false, 6), (false, 7)])) ?_ ?_ ?_ ?_ ?_ ?_); kernel_rfl; kernel_rfl; kernel_rfl; kernel_rfl; (intro c a d v w h; cases d <;> exact h)) | (with_reducible refine wpPlan_eff ?_) | (with_reducible refine wpPlan_fin ?_) | (with_reducible refine wpPlan_two ?_) | (with_reducible refine wpOpPair ?_ ?_) | ((with_reducible apply wpPre_keep); rfl; intro K' hK'; go_simp; refine hK' _ _ ?_; intro f hf; clear hK' K') | ((with_reducible apply wpPre_drop); rfl; intro K' hK'; go_simp; refine hK' _ _ ?_; intro f; clear hK' K') | (with_reducible refine wpPre_nil ?_) | ((with_reducible apply wpOp_list); rfl) | (with_reducible refine heldPair ?_ ?_) | ((with_reducible refine heldH_no ?_ ?_); rfl) | (with_reducible refine heldH_yes ?_ ?_) | (with_reducible exact heldH_nil) | (unfold YAt; go_simp; done) | (go_at_call 17; refine (depth_any _ _ _ _ _ _ (HAL2.out.below (by repeat (first | (with_reducible exact Below.refl _ _) | (with_reducible exact bl_mm) | (with_reducible refine bl_dr ?_) | (with_reducible refine bl_drN ?_ _) | (with_reducible refine bl_al ?_ _) | (with_reducible refine bl_more ?_ _ _)))) HC.out).mono ?_; rw [HD.out]; rintro e w4 ⟨rfl, hb4⟩; obtain ⟨ex4, dx4, rfl⟩ := more_of hb4; clear hb4) | (go_at_call 19; refine (count_any _ _ _ _ _ _ (HAL2.out.below (by repeat (first | (with_reducible exact Below.refl _ _) | (with_reducible exact bl_mm) | (with_reducible refine bl_dr ?_) | (with_reducible refine bl_drN ?_ _) | (with_reducible refine bl_al ?_ _) | (with_reducible refine bl_more ?_ _ _)))) HC.out).mono ?_; rw [HQ.out]; rintro e w5 ⟨rfl, hb5⟩; obtain ⟨ex5, dx5, rfl⟩ := more_of hb5; clear hb5))
          all_goals (
            refine bodyPost_ret (v := .tuple #[.agg #[.string g.1, .slice AL g.2.length cl], .int .i64 s.size, .int .i64 0]) (by simp [results, Try.results9]; go_simp) rfl ?_
            have h6 : Ext (fun b => b = b2) w2 ((w2.setCell ⟨b2, 0, none⟩ (.string g.1)).setCell ⟨b2, 1, none⟩ (.slice AL g.2.length cl)) := (Ext.setCell (S := fun b => b = b2) w2 ⟨b2, 0, none⟩ _ rfl).trans (Ext.setCell (S := fun b => b = b2) _ ⟨b2, 1, none⟩ _ rfl) (fun _ _ h => h)
            have hlow := fin9 HBL.out HX.out HN2.out HNR.out (.string g.1) (.slice AL g.2.length cl)
            have hal := HAL.out.ext h6 (fun b hb _ e => by have hb : W9.heap.size ≤ b := hb; have := (Array.getElem?_eq_some_iff.1 HB2.out).1; omega)
            unfold ReadQ
            rw [HRR2.out]
            refine ⟨_, rfl, (hal.below (bl_more (bl_more (bl_al (Below.refl _ _) _) _ _) _ _)).mono (fun b hb _ => ?_), bl_more (bl_more (bl_al hlow _) _ _) _ _⟩
            have hb : W9.heap.size ≤ b := hb
            have := HBL.out.size
            show w.heap.size ≤ b
            omega)
        · have hq1 : ((1000 : Int) < (q : Int)) := by omega
          have hq2 : decide ((1000 : Int) < (q : Int)) = true := decide_eq_true hq1
          have HRR2 : Hid (readR s = ((⟨#[]⟩, []), x.at_, 5)) := hid (by rw [HRR.out, if_neg (fun h => hq h.2)])
          clear hd hq
          have hlt : 0 < l.length := by rw [HXL.out]; simp
          have hx : l[0]'hlt = x := by have := HXL.out; subst this; rfl
          have hrow2 := HROW9.out.ext HX.out (fun b hb _ e => by omega)
          obtain ⟨b1, o1, rfl, hbk, hl1, z1, z2, z3⟩ := row_tok hrow2 0 hlt
          rw [hx] at z1 z2 z3
          rw [Nat.zero_mul, Nat.add_zero] at z1 z2 z3
          have hi1 : (0 : Int) < l.length := by omega
          have hbne : b1 ≠ b2 := by omega
          clear hx hrow2 hbk
          go_wp2_with (first | ((with_reducible refine wp_region_plan (id := 9) (.eff [(false, 0), (true, 1), (true, 2), (true, 3), (true, 4), (true, 5), (true, 6), (true, 7), (true, 8)] 9 [1, 2, 3, 4, 5, 6, 7, 8] (.fin [(false, 10), (false, 11)])) ?_ ?_ ?_ ?_ ?_ ?_); kernel_rfl; kernel_rfl; kernel_rfl; kernel_rfl; (intro c a d v w h; cases d <;> exact h)) | ((with_reducible refine wp_region_plan (id := 11) (.eff [(false, 0), (true, 1), (true, 2), (true, 3), (true, 4)] 5 [1, 2, 3, 4] (.fin [(false, 6), (false, 7)])) ?_ ?_ ?_ ?_ ?_ ?_); kernel_rfl; kernel_rfl; kernel_rfl; kernel_rfl; (intro c a d v w h; cases d <;> exact h)) | (with_reducible refine wpPlan_eff ?_) | (with_reducible refine wpPlan_fin ?_) | (with_reducible refine wpPlan_two ?_) | (with_reducible refine wpOpPair ?_ ?_) | ((with_reducible apply wpPre_keep); rfl; intro K' hK'; go_simp; refine hK' _ _ ?_; intro f hf; clear hK' K') | ((with_reducible apply wpPre_drop); rfl; intro K' hK'; go_simp; refine hK' _ _ ?_; intro f; clear hK' K') | (with_reducible refine wpPre_nil ?_) | ((with_reducible apply wpOp_list); rfl) | (with_reducible refine heldPair ?_ ?_) | ((with_reducible refine heldH_no ?_ ?_); rfl) | (with_reducible refine heldH_yes ?_ ?_) | (with_reducible exact heldH_nil) | (unfold YAt; go_simp; done) | (go_at_call 17; refine (depth_any _ _ _ _ _ _ (HAL2.out.below (by repeat (first | (with_reducible exact Below.refl _ _) | (with_reducible exact bl_mm) | (with_reducible refine bl_dr ?_) | (with_reducible refine bl_drN ?_ _) | (with_reducible refine bl_al ?_ _) | (with_reducible refine bl_more ?_ _ _)))) HC.out).mono ?_; rw [HD.out]; rintro e w4 ⟨rfl, hb4⟩; obtain ⟨ex4, dx4, rfl⟩ := more_of hb4; clear hb4) | (go_at_call 19; refine (count_any _ _ _ _ _ _ (HAL2.out.below (by repeat (first | (with_reducible exact Below.refl _ _) | (with_reducible exact bl_mm) | (with_reducible refine bl_dr ?_) | (with_reducible refine bl_drN ?_ _) | (with_reducible refine bl_al ?_ _) | (with_reducible refine bl_more ?_ _ _)))) HC.out).mono ?_; rw [HQ.out]; rintro e w5 ⟨rfl, hb5⟩; obtain ⟨ex5, dx5, rfl⟩ := more_of hb5; clear hb5))
          all_goals (
            refine bodyPost_ret (v := .tuple #[.agg #[.string ⟨#[]⟩, .slice none 0 0], .int .i64 x.at_, .int .i64 5]) (by simp [results, Try.results9]; go_simp) rfl ?_
            exact ReadQ.none HRR2.out (by first | exact bl_more (bl_more (bl_al (fin9 HBL.out HX.out HN2.out HNR.out _ _) _) _ _) _ _ | exact bl_more (bl_al (fin9 HBL.out HX.out HN2.out HNR.out _ _) _) _ _))
      · have hd1 : ((70 : Int) < (d : Int)) := by omega
        have hd2 : decide ((70 : Int) < (d : Int)) = true := decide_eq_true hd1
        have HRR2 : Hid (readR s = ((⟨#[]⟩, []), x.at_, 5)) := hid (by rw [HRR.out, if_neg (fun h => hd h.1)])
        clear hd
        have hlt : 0 < l.length := by rw [HXL.out]; simp
        have hx : l[0]'hlt = x := by have := HXL.out; subst this; rfl
        have hrow2 := HROW9.out.ext HX.out (fun b hb _ e => by omega)
        obtain ⟨b1, o1, rfl, hbk, hl1, z1, z2, z3⟩ := row_tok hrow2 0 hlt
        rw [hx] at z1 z2 z3
        rw [Nat.zero_mul, Nat.add_zero] at z1 z2 z3
        have hi1 : (0 : Int) < l.length := by omega
        have hbne : b1 ≠ b2 := by omega
        clear hx hrow2 hbk
        go_wp2_with (first | ((with_reducible refine wp_region_plan (id := 9) (.eff [(false, 0), (true, 1), (true, 2), (true, 3), (true, 4), (true, 5), (true, 6), (true, 7), (true, 8)] 9 [1, 2, 3, 4, 5, 6, 7, 8] (.fin [(false, 10), (false, 11)])) ?_ ?_ ?_ ?_ ?_ ?_); kernel_rfl; kernel_rfl; kernel_rfl; kernel_rfl; (intro c a d v w h; cases d <;> exact h)) | ((with_reducible refine wp_region_plan (id := 11) (.eff [(false, 0), (true, 1), (true, 2), (true, 3), (true, 4)] 5 [1, 2, 3, 4] (.fin [(false, 6), (false, 7)])) ?_ ?_ ?_ ?_ ?_ ?_); kernel_rfl; kernel_rfl; kernel_rfl; kernel_rfl; (intro c a d v w h; cases d <;> exact h)) | (with_reducible refine wpPlan_eff ?_) | (with_reducible refine wpPlan_fin ?_) | (with_reducible refine wpPlan_two ?_) | (with_reducible refine wpOpPair ?_ ?_) | ((with_reducible apply wpPre_keep); rfl; intro K' hK'; go_simp; refine hK' _ _ ?_; intro f hf; clear hK' K') | ((with_reducible apply wpPre_drop); rfl; intro K' hK'; go_simp; refine hK' _ _ ?_; intro f; clear hK' K') | (with_reducible refine wpPre_nil ?_) | ((with_reducible apply wpOp_list); rfl) | (with_reducible refine heldPair ?_ ?_) | ((with_reducible refine heldH_no ?_ ?_); rfl) | (with_reducible refine heldH_yes ?_ ?_) | (with_reducible exact heldH_nil) | (unfold YAt; go_simp; done) | (go_at_call 17; refine (depth_any _ _ _ _ _ _ (HAL2.out.below (by repeat (first | (with_reducible exact Below.refl _ _) | (with_reducible exact bl_mm) | (with_reducible refine bl_dr ?_) | (with_reducible refine bl_drN ?_ _) | (with_reducible refine bl_al ?_ _) | (with_reducible refine bl_more ?_ _ _)))) HC.out).mono ?_; rw [HD.out]; rintro e w4 ⟨rfl, hb4⟩; obtain ⟨ex4, dx4, rfl⟩ := more_of hb4; clear hb4) | (go_at_call 19; refine (count_any _ _ _ _ _ _ (HAL2.out.below (by repeat (first | (with_reducible exact Below.refl _ _) | (with_reducible exact bl_mm) | (with_reducible refine bl_dr ?_) | (with_reducible refine bl_drN ?_ _) | (with_reducible refine bl_al ?_ _) | (with_reducible refine bl_more ?_ _ _)))) HC.out).mono ?_; rw [HQ.out]; rintro e w5 ⟨rfl, hb5⟩; obtain ⟨ex5, dx5, rfl⟩ := more_of hb5; clear hb5))
        all_goals (
          refine bodyPost_ret (v := .tuple #[.agg #[.string ⟨#[]⟩, .slice none 0 0], .int .i64 x.at_, .int .i64 5]) (by simp [results, Try.results9]; go_simp) rfl ?_
          exact ReadQ.none HRR2.out (by first | exact bl_more (bl_more (bl_al (fin9 HBL.out HX.out HN2.out HNR.out _ _) _) _ _) _ _ | exact bl_more (bl_al (fin9 HBL.out HX.out HN2.out HNR.out _ _) _) _ _))
  · have hE2 : (E != 0) = true := by simpa using hE
    have HRR : Hid (readR s = ((⟨#[]⟩, []), P, E)) := hid (by unfold readR; rw [hl, if_neg hE])
    clear hl hgood hE
    go_enter Try.func9, Try.ntmps9
    go_wp2_with (first | ((with_reducible refine wp_region_plan (id := 9) (.eff [(false, 0), (true, 1), (true, 2), (true, 3), (true, 4), (true, 5), (true, 6), (true, 7), (true, 8)] 9 [1, 2, 3, 4, 5, 6, 7, 8] (.fin [(false, 10), (false, 11)])) ?_ ?_ ?_ ?_ ?_ ?_); kernel_rfl; kernel_rfl; kernel_rfl; kernel_rfl; (intro c a d v w h; cases d <;> exact h)) | ((with_reducible refine wp_region_plan (id := 11) (.eff [(false, 0), (true, 1), (true, 2), (true, 3), (true, 4)] 5 [1, 2, 3, 4] (.fin [(false, 6), (false, 7)])) ?_ ?_ ?_ ?_ ?_ ?_); kernel_rfl; kernel_rfl; kernel_rfl; kernel_rfl; (intro c a d v w h; cases d <;> exact h)) | (with_reducible refine wpPlan_eff ?_) | (with_reducible refine wpPlan_fin ?_) | (with_reducible refine wpPlan_two ?_) | (with_reducible refine wpOpPair ?_ ?_) | ((with_reducible apply wpPre_keep); rfl; intro K' hK'; go_simp; refine hK' _ _ ?_; intro f hf; clear hK' K') | ((with_reducible apply wpPre_drop); rfl; intro K' hK'; go_simp; refine hK' _ _ ?_; intro f; clear hK' K') | (with_reducible refine wpPre_nil ?_) | ((with_reducible apply wpOp_list); rfl) | (with_reducible refine heldPair ?_ ?_) | ((with_reducible refine heldH_no ?_ ?_); rfl) | (with_reducible refine heldH_yes ?_ ?_) | (with_reducible exact heldH_nil) | (unfold YAt; go_simp; done) | (go_at_call 21; refine lexT_any.mono ?_; rintro e w1 ⟨vT, rfl, hrow, hb1⟩; rw [HL1.out] at hrow ⊢; obtain ⟨AT, cT, rfl, _, _⟩ := hrow.form; have HROW := hid hrow; have HB1 := hid hb1; obtain ⟨ex1, dx1, rfl⟩ := more_of hb1; clear hrow hb1))
    refine bodyPost_ret (v := .tuple #[.agg #[.string ⟨#[]⟩, .slice none 0 0], .int .i64 P, .int .i64 E]) (by simp [results, Try.results9]; go_simp) rfl ?_
    exact ReadQ.none HRR.out (by repeat (first | (with_reducible exact Below.refl _ _) | (with_reducible exact bl_mm) | (with_reducible refine bl_dr ?_) | (with_reducible refine bl_drN ?_ _) | (with_reducible refine bl_al ?_ _) | (with_reducible refine bl_more ?_ _ _)))
end Go.Proofs.Ytidilpciolladaa
