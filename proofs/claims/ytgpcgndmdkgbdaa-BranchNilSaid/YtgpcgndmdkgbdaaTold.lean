/- 'argosylaw.BranchTold' holds: 'Rows.BranchToldSaid', for every input, with no further condition. -/
import Derived.Test.YtgpcgndmdkgbdaaTorn
import Derived.Test.YtgpcgndmdkgbdaaRows
import Derived.WalkKit
import Derived.ProofKit
import Derived.OpenShut
import Derived.ShutString
import Derived.ChangeOld
import Derived.Below
import Derived.Test.YtgpcgndmdkgbdaaGa
/- Plain: a text's frames are told whole, or not at all. -/
namespace Go.Proofs.Ytgpcgndmdkgbdaa

theorem allF_frames {bs : List Int} : ∀ (P : List (List Int)) (a : Nat) (out : List (List Int)) (k : Nat), (∀ p ∈ P, (∀ b ∈ p, 0 ≤ b ∧ b < 256) ∧ p.length ≤ 1024) → Sits bs a (P.flatMap frameL) → a + (P.flatMap frameL).length = bs.length → P.length < k → (allF bs k a out).1 = out ++ P
  | _, _, _, 0, _, _, _, hk => by omega
  | [], a, out, k + 1, _, _, he, _ => by
    rw [allF, if_neg (frame_none (List.drop_eq_nil_of_le (by simp at he; omega)))]
    simp
  | p :: P, a, out, k + 1, hP, hs, he, hk => by
    rw [List.flatMap_cons] at hs he
    have h0 := hP p (by simp)
    rw [allF, frame_at h0.1 h0.2 hs.left, if_pos rfl]
    have := allF_frames P (a + (p.length + 6)) (out ++ [p]) k (fun q hq => hP q (by simp [hq])) (by have := hs.right; rwa [frameL_len] at this) (by rw [List.length_append, frameL_len] at he; omega) (by simp at hk; omega)
    simpa using this
theorem sbs_extract (s : ByteArray) (a b : Nat) : sbs (s.extract a b) = ((sbs s).take b).drop a := by
  unfold sbs byt
  rw [ByteArray.data_extract, Array.toList_extract, List.extract_eq_take_drop, List.map_take, List.map_drop, List.drop_take]
theorem sbs_empty : sbs ByteArray.empty = [] := rfl
theorem pc_flat : ∀ (f : Nat) (s : ByteArray), s.size < f → ((pcB f s).map sbs).flatten = sbs s
  | f + 1, s, h => by
    rw [pcB_succ]
    split
    · rename_i h0
      have : sbs s = [] := List.eq_nil_of_length_eq_zero (by rw [sbs_len]; exact h0)
      rw [this]
      simp [sbs_empty]
    · rw [List.map_cons, List.flatten_cons, pc_flat f _ (by simp; omega), sbs_extract, sbs_extract, List.drop_zero]
      conv => lhs; rhs; rw [List.take_of_length_le (by rw [sbs_len]; exact Nat.le_refl _)]
      exact List.take_append_drop _ _
theorem flL_map (P : List ByteArray) : flL P = (P.map sbs).flatMap frameL := by
  unfold flL
  rw [List.flatMap_map]
theorem fr_many (P : List (List Int)) : P.length ≤ (P.flatMap frameL).length := by
  induction P with
  | nil => simp
  | cons p P ih =>
    rw [List.flatMap_cons, List.length_append, List.length_cons, frameL_len]
    omega
theorem allW_laid (s : ByteArray) : (allW (laidL s)).1.flatten = sbs s := by
  have hp := (pcB_len (s.size + 1) s (by omega)).2
  unfold allW laidL
  rw [flL_map]
  have h := allF_frames (bs := ((pieces s).map sbs).flatMap frameL) ((pieces s).map sbs) 0 [] ((((pieces s).map sbs).flatMap frameL).length + 1) (fun p hx => by
    obtain ⟨q, hq, rfl⟩ := List.mem_map.1 hx
    have := hp q hq
    exact ⟨byt_in _, by rw [sbs_len]; omega⟩) (Sits.all _) (by omega) (by have := fr_many ((pieces s).map sbs); omega)
  rw [h, List.nil_append]
  exact pc_flat _ _ (by omega)
theorem str_sbs (s : ByteArray) : strOfNums (sbs s) = s := by
  unfold strOfNums sbs byt
  rw [List.map_map]
  have : ((fun n : Int => UInt8.ofNat n.toNat) ∘ fun x : UInt8 => (x.toNat : Int)) = id := by
    funext x
    simp
  rw [this, List.map_id]
theorem sbs_str {l : List Int} (h : ∀ b ∈ l, 0 ≤ b ∧ b < 256) : sbs (strOfNums l) = l := byt_ofI h
/-- **A TEXT IS TOLD AS IT WAS LAID.** -/
theorem told_whole {s : ByteArray} (h : s.size ≤ 65536) : toldV (laidL s) = (s, 0) := by
  rw [told_yes (by rw [allW_laid, sbs_len]; omega) (by rw [allW_laid, str_sbs]), allW_laid, str_sbs]
theorem frame_head {p q x y : List Int} (hp : p.length ≤ 1024) (hq : q.length ≤ 1024) (h : frameL p ++ x = frameL q ++ y) : p = q ∧ x = y := by
  have h1 : p.length = q.length := by
    have := congrArg hdr h
    rw [hdr_frame hp, hdr_frame hq] at this
    exact this
  obtain ⟨h2, h3⟩ := List.append_inj h (by rw [frameL_len, frameL_len, h1])
  refine ⟨?_, h3⟩
  have h4 : headL p = headL q := by
    rw [← (frame_take (body := p)).1, ← (frame_take (body := q)).1, h2, h1]
  unfold headL at h4
  rw [h1] at h4
  exact List.append_cancel_left h4
theorem flL_cons (p : ByteArray) (P : List ByteArray) : flL (p :: P) = frameL (sbs p) ++ flL P := by simp [flL]
/-- No text's frames are the beginning of another's. -/
theorem pc_free : ∀ (f g : Nat) (s t : ByteArray) (z : List Int), s.size < f → t.size < g → flL (pcB f s) = flL (pcB g t) ++ z → z = []
  | f + 1, g + 1, s, t, z, hs, ht, h => by
    rw [pcB_succ, pcB_succ] at h
    by_cases h1 : s.size = 0
    · by_cases h2 : t.size = 0
      · rw [if_pos h1, if_pos h2] at h
        have := congrArg List.length h
        rw [List.length_append] at this
        exact List.eq_nil_of_length_eq_zero (by omega)
      · rw [if_pos h1, if_neg h2, flL_cons, flL_cons, List.append_assoc] at h
        obtain ⟨h3, _⟩ := frame_head (by rw [sbs_len]; simp) (by rw [sbs_len]; simp; omega) h
        have := congrArg List.length h3
        rw [sbs_len, sbs_len] at this
        simp at this
        omega
    · by_cases h2 : t.size = 0
      · rw [if_neg h1, if_pos h2, flL_cons, flL_cons, List.append_assoc] at h
        obtain ⟨h3, _⟩ := frame_head (by rw [sbs_len]; simp; omega) (by rw [sbs_len]; simp) h
        have := congrArg List.length h3
        rw [sbs_len, sbs_len] at this
        simp at this
        first | omega | (subst this; exact absurd rfl h1)
      · rw [if_neg h1, if_neg h2, flL_cons, flL_cons, List.append_assoc] at h
        obtain ⟨_, h4⟩ := frame_head (by rw [sbs_len]; simp; omega) (by rw [sbs_len]; simp; omega) h
        exact pc_free f g _ _ z (by simp; omega) (by simp; omega) h4
/-- **A TEXT THAT WAS CUT OFF IS NOT TOLD.** -/
theorem told_part {s : ByteArray} {m : Nat} (h : m < (laidL s).length) : toldV ((laidL s).take m) = (ByteArray.empty, 6) := by
  by_cases hb : 65536 < (allW ((laidL s).take m)).1.flatten.length
  · exact told_big hb
  · refine told_no hb (fun he => ?_)
    generalize strOfNums (allW ((laidL s).take m)).1.flatten = t at he
    have h1 : laidL t = (laidL s).take m := by
      rw [← sbs_str (laidL_in t), he, sbs_str (fun b hb => laidL_in s b (List.mem_of_mem_take hb))]
    have h2 : laidL s = laidL t ++ (laidL s).drop m := by rw [h1, List.take_append_drop]
    have h3 := pc_free (s.size + 1) (t.size + 1) s t _ (by omega) (by omega) h2
    have := congrArg List.length h3
    rw [List.length_drop] at this
    simp at this
    omega
theorem pc_size : ∀ (f : Nat) (s : ByteArray), s.size < f → (flL (pcB f s)).length ≤ s.size + 6 * ((s.size + 999) / 1000 + 1)
  | f + 1, s, h => by
    rw [pcB_succ]
    split
    · simp [flL, frameL_len, sbs_len]
      omega
    · have h1 := pc_size f (s.extract (min s.size 1000) s.size) (by simp; omega)
      rw [flL_cons, List.length_append, frameL_len, sbs_len]
      simp at h1 ⊢
      omega
theorem laid_size {s : ByteArray} (h : s.size ≤ 9000) : (laidL s).length ≤ 9060 := by
  have : (laidL s).length ≤ s.size + 6 * ((s.size + 999) / 1000 + 1) := pc_size (s.size + 1) s (by omega)
  omega
/-- A disk whose last file alone holds bytes. -/
def tdD (B : List UInt8) (y : Nat) (r fuse : Int) (down : Bool) : DS := { fs := [⟨[], 0⟩, ⟨[], 0⟩, ⟨B, y⟩], room := r, fuse := fuse, down := down }
theorem td_put {text : ByteArray} {r n : Int} (hr : ((laidL text).length : Int) ≤ r) : ∃ B y r' n' dn c, putS (tdD [] 0 r n false) 2 text = (tdD B y r' n' dn, c) ∧ r' + B.length = r ∧ ((c = 9 ∧ y = 0 ∧ (B = [] ∨ B = ofI (laidL text)) ∧ ¬ n < 0) ∨ (c = 0 ∧ B = ofI (laidL text) ∧ y = B.length ∧ dn = false)) := by
  unfold putS
  by_cases h0 : n = 0
  · have e : appR (tdD [] 0 r n false) ((2 : Nat) : Int) (ofI (laidL text)) = (tdD [] 0 r n true, 9) := by
      unfold appR doW
      rw [if_neg (by simp [tdD]), if_neg (by simp [tdD]), if_neg (by simp only [tdD, ofI_len]; rw [if_neg (by omega)]; simp), if_pos (by simp [tdD, h0])]
      rfl
    rw [e, if_pos (by simp)]
    exact ⟨[], 0, r, n, true, 9, rfl, by simp, .inl ⟨rfl, rfl, .inl rfl, by omega⟩⟩
  · have e : appR (tdD [] 0 r n false) ((2 : Nat) : Int) (ofI (laidL text)) = (tdD (ofI (laidL text)) 0 (r - (laidL text).length) (if 0 < n then n - 1 else n) false, 0) := by
      unfold appR doW
      rw [if_neg (by simp [tdD]), if_neg (by simp [tdD]), if_neg (by simp only [tdD, ofI_len]; rw [if_neg (by omega)]; simp), if_neg (by simp [tdD, h0])]
      congr 1
      unfold DS.burn DS.app tdD
      split <;> simp_all [ofI_len]
    rw [e, if_neg (by simp)]
    simp only
    by_cases h1 : n = 1
    · subst h1
      have e2 : syncR (tdD (ofI (laidL text)) 0 (r - (laidL text).length) (if (0 : Int) < 1 then 1 - 1 else 1) false) ((2 : Nat) : Int) = (tdD (ofI (laidL text)) 0 (r - (laidL text).length) 0 true, 9) := by
        unfold syncR doW
        rw [if_neg (by simp [tdD]), if_neg (by simp [tdD]), if_neg (by simp), if_pos (by simp [tdD])]
        rfl
      rw [e2]
      exact ⟨_, _, _, _, _, _, rfl, by rw [ofI_len]; omega, .inl ⟨rfl, rfl, .inr rfl, by omega⟩⟩
    · obtain ⟨n2, hn2⟩ : ∃ n2, (if 0 < n then n - 1 else n) = n2 := ⟨_, rfl⟩
      have hn0 : n2 ≠ 0 := by rw [← hn2]; split <;> omega
      rw [hn2]
      have e2 : syncR (tdD (ofI (laidL text)) 0 (r - (laidL text).length) n2 false) ((2 : Nat) : Int) = (tdD (ofI (laidL text)) (ofI (laidL text)).length (r - (laidL text).length) (if 0 < n2 then n2 - 1 else n2) false, 0) := by
        unfold syncR doW
        rw [if_neg (by simp [tdD]), if_neg (by simp [tdD]), if_neg (by simp), if_neg (by simp [tdD, hn0])]
        congr 1
        unfold DS.burn DS.sync tdD
        split <;> simp_all
      rw [e2]
      exact ⟨_, _, _, _, _, _, rfl, by rw [ofI_len]; omega, .inr ⟨rfl, rfl, rfl, rfl⟩⟩
theorem crash_tot {s : DS} {C : Int} (h : s.Ok C) (ks : List Int) : ∀ j, j ≤ s.fs.length → (crashN s ks j).tot = s.tot
  | 0, _ => rfl
  | j + 1, hj => by
    refine (keep_tot (s := crashN s ks j) (i := j) (by rw [crash_len]; omega) ?_).trans (crash_tot h ks j (by omega))
    rw [crash_file s ks (by omega)]
    simp only [List.getD_eq_getElem?_getD, List.getElem?_eq_getElem (show j < s.fs.length by omega), Option.getD_some]
    exact cutN_le (h.sync _ (List.getElem_mem _)) _
theorem td_crash {B : List UInt8} {y : Nat} {r n keep C : Int} {dn : Bool} (hs : (tdD B y r n dn).Ok C) (hy : y ≤ B.length) : ∃ (r' : Int) (m : Nat), y ≤ m ∧ m ≤ B.length ∧ r' + m = r + B.length ∧ (tdD B y r n dn).crash [0, 0, keep] = tdD (B.take m) m r' (-1) false := by
  have hm : cutN ⟨B, y⟩ (some keep) ≤ B.length := cutN_le (f := ⟨B, y⟩) hy _
  have h0 := crash_done (tdD B y r n dn) [0, 0, keep] (j := 0) (by simp [tdD]) 3 (by omega) (by simp [tdD])
  have h1 := crash_done (tdD B y r n dn) [0, 0, keep] (j := 1) (by simp [tdD]) 3 (by omega) (by simp [tdD])
  have h2 := crash_done (tdD B y r n dn) [0, 0, keep] (j := 2) (by simp [tdD]) 3 (by omega) (by simp [tdD])
  have hlen : (crashN (tdD B y r n dn) [0, 0, keep] 3).fs.length = 3 := by rw [crash_len]; rfl
  obtain ⟨m, hme⟩ : ∃ m, cutN ⟨B, y⟩ (some keep) = m := ⟨_, rfl⟩
  have hym : y ≤ m := by rw [← hme]; unfold cutN; exact Nat.le_add_right _ _
  rw [hme] at hm
  have e0 : (tdD B y r n dn).fs[0]'(by simp [tdD]) = ⟨[], 0⟩ := rfl
  have e1 : (tdD B y r n dn).fs[1]'(by simp [tdD]) = ⟨[], 0⟩ := rfl
  have e2 : (tdD B y r n dn).fs[2]'(by simp [tdD]) = ⟨B, y⟩ := rfl
  rw [e0] at h0
  rw [e1] at h1
  rw [e2] at h2
  have g1 : ([0, 0, keep] : List Int)[2]? = some keep := rfl
  rw [g1, hme] at h2
  have hfs : (crashN (tdD B y r n dn) [0, 0, keep] 3).fs = [⟨[], 0⟩, ⟨[], 0⟩, ⟨B.take m, m⟩] := by
    refine List.ext_getElem? (fun j => ?_)
    match j with
    | 0 => exact h0.trans (by simp [cutN])
    | 1 => exact h1.trans (by simp [cutN])
    | 2 => exact h2
    | j + 3 => rw [List.getElem?_eq_none (by omega), List.getElem?_eq_none (by simp)]
  have htot := crash_tot hs [0, 0, keep] 3 (by simp [tdD])
  have ht2 : (crashN (tdD B y r n dn) [0, 0, keep] 3).tot = (crashN (tdD B y r n dn) [0, 0, keep] 3).room + m := by
    unfold DS.tot
    rw [hfs]
    simp [bytes]
    omega
  have ht3 : (tdD B y r n dn).tot = r + B.length := by simp [DS.tot, tdD, bytes]
  refine ⟨(crashN (tdD B y r n dn) [0, 0, keep] 3).room, m, hym, hm, by omega, ?_⟩
  show ({ fs := (crashN (tdD B y r n dn) [0, 0, keep] 3).fs, room := (crashN (tdD B y r n dn) [0, 0, keep] 3).room, fuse := -1, down := false } : DS) = _
  rw [hfs]
  rfl
theorem put_ok {s : DS} {C : Int} (h : s.Ok C) (i : Nat) (text : ByteArray) : (putS s i text).1.Ok C := by
  unfold putS
  split
  · exact app_ok h _ _
  · exact sync_ok (app_ok h _ _) _
theorem begin_ok {s : DS} {C : Int} (h : s.Ok C) (text : ByteArray) : (beginS s text).1.Ok C := by
  unfold beginS
  split
  · exact h
  · split
    · exact h
    · split
      · exact put_ok h _ _
      · split
        · exact cut_ok h _ _
        · exact put_ok (cut_ok h _ _) _ _
theorem td_file {B : List UInt8} {y : Nat} {r n : Int} {dn : Bool} : fileB (tdD B y r n dn) ((tdD B y r n dn).fs.length - 1) = B := rfl
theorem td_begin {text : ByteArray} {B : List UInt8} {y : Nat} {r n : Int} (ht : text.size ≤ 9000) (hyb : y ≤ B.length) (htot : 9060 ≤ r + B.length) (hB : toldV (byt B) = (ByteArray.empty, 6)) (hn : B = [] ∨ n < 0) : ∃ B' y' r' n' dn c, beginS (tdD B y r n false) text = (tdD B' y' r' n' dn, c) ∧ r' + B'.length = r + B.length ∧ ((c = 9 ∧ y' = 0 ∧ (B' = [] ∨ B' = ofI (laidL text)) ∧ ¬ n < 0) ∨ (c = 0 ∧ B' = ofI (laidL text) ∧ y' = B'.length ∧ dn = false)) := by
  have hl := laid_size ht
  unfold beginS
  rw [if_neg (by omega), td_file, hB, if_neg (by simp)]
  by_cases hb : B = []
  · subst hb
    rw [if_pos rfl]
    have hy0 : y = 0 := by simpa using hyb
    subst hy0
    have hr : ((laidL text).length : Int) ≤ r := by simp at htot; omega
    obtain ⟨B', y', r', n', dn, c, h1, h2, h3⟩ := td_put hr (n := n)
    exact ⟨B', y', r', n', dn, c, h1, by simp; omega, h3⟩
  · have hn : n < 0 := hn.resolve_left hb
    have hc : cutR (tdD B y r n false) (((tdD B y r n false).fs.length - 1 : Nat) : Int) 0 = (tdD [] 0 (r + B.length) n false, 0) := by
      show cutR (tdD B y r n false) ((2 : Nat) : Int) 0 = _
      unfold cutR doW
      have e1 : ((tdD B y r n false).fs.getD 2 ⟨[], 0⟩).b = B := rfl
      rw [if_neg (by simp [tdD]), if_neg (by simp [tdD]), if_neg (by
        show ¬ (if (0 : Int) < 0 ∨ (((tdD B y r n false).fs.getD 2 ⟨[], 0⟩).b.length : Int) < 0 then (2 : Int) else 0) ≠ 0
        rw [e1, if_neg (by omega)]; simp), if_neg (by simp [tdD]; omega)]
      congr 1
      show (tdD B y r n false).burn.keep 2 _ = _
      rw [burn_no (by simpa [tdD] using hn)]
      simp [DS.keep, tdD]
    rw [if_neg hb, hc, if_neg (by simp)]
    obtain ⟨B', y', r', n', dn, c, h1, h2, h3⟩ := td_put (text := text) (r := r + B.length) (n := n) (by omega)
    exact ⟨B', y', r', n', dn, c, h1, h2, h3⟩
theorem told_nil : toldV (byt []) = (ByteArray.empty, 6) := by
  have := told_part (s := ByteArray.empty) (m := 0) (by have := laidL_ne ByteArray.empty; exact List.length_pos_iff.2 this)
  simpa [byt] using this
theorem byt_take {l : List Int} (h : ∀ b ∈ l, 0 ≤ b ∧ b < 256) (m : Nat) : byt ((ofI l).take m) = l.take m := by rw [← ofI_take, byt_ofI (fun b hb => h b (List.mem_of_mem_take hb))]
/-- **BEHIND A CRASH A TEXT IS TOLD WHOLE OR NOT AT ALL; where it is not, another one is begun.** -/
theorem told_law {text second : ByteArray} {n keep : Int} (h1 : text.size ≤ 9000) (h2 : second.size ≤ 9000) (hs : (tdD [] 0 20000 n false).Ok 20000) : ∃ s1 c1 s2 v1 s3 c2, beginS (tdD [] 0 20000 n false) text = (s1, c1) ∧ s1.Ok 20000 ∧ s1.crash [0, 0, keep] = s2 ∧ s2.Ok 20000 ∧ s2.fs.length = 3 ∧ toldV (byt (fileB s2 2)) = v1 ∧ beginS s2 second = (s3, c2) ∧ s3.Ok 20000 ∧ s3.fs.length = 3 ∧
    ((v1 = (text, 0) ∧ c2 = 7 ∧ (c1 = 0 ∨ c1 = 9)) ∨ (v1 = (ByteArray.empty, 6) ∧ c1 = 9 ∧ c2 = 0 ∧ toldV (byt (fileB s3 2)) = (second, 0))) := by
  obtain ⟨B, y, r, n', dn, c, hb, hrb, hc⟩ := td_begin (y := 0) (r := 20000) (n := n) h1 (by simp) (by simp) told_nil (.inl rfl)
  have hok1 := begin_ok hs text
  rw [hb] at hok1
  have hy : y ≤ B.length := hok1.sync ⟨B, y⟩ (by simp [tdD])
  obtain ⟨r', m, m1, m2, m4, m3⟩ := td_crash (keep := keep) hok1 hy
  have hok2 := crashS_ok hok1 [0, 0, keep]
  rw [m3] at hok2
  have hok3 := begin_ok hok2 second
  by_cases hw : B = ofI (laidL text) ∧ m = B.length
  · obtain ⟨hw1, hw2⟩ := hw
    have hBt : B.take m = ofI (laidL text) := by rw [List.take_of_length_le (by omega), hw1]
    have hv : toldV (byt (B.take m)) = (text, 0) := by rw [hBt, byt_ofI (laidL_in text), told_whole (by omega)]
    have hbg : beginS (tdD (B.take m) m r' (-1) false) second = (tdD (B.take m) m r' (-1) false, 7) := by
      unfold beginS
      rw [if_neg (by omega), td_file, hv, if_pos rfl]
    rw [hbg] at hok3
    exact ⟨_, c, _, _, _, 7, hb, hok1, m3, hok2, rfl, hv, hbg, hok3, rfl, .inl ⟨rfl, rfl, by rcases hc with hc | hc <;> simp [hc.1]⟩⟩
  · have hv : toldV (byt (B.take m)) = (ByteArray.empty, 6) ∧ c = 9 := by
      rcases hc with ⟨c1, c2, c3, _⟩ | ⟨c1, c2, c3, _⟩
      · refine ⟨?_, c1⟩
        rcases c3 with rfl | rfl
        · simpa using told_nil
        · rw [byt_take (laidL_in text)]
          refine told_part ?_
          rw [ofI_len] at m2
          have : m ≠ (ofI (laidL text)).length := fun e => hw ⟨rfl, e⟩
          rw [ofI_len] at this
          omega
      · exact absurd ⟨c2, by omega⟩ hw
    obtain ⟨B3, y3, r3, n3, dn3, c3, hb3, _, hc3⟩ := td_begin (text := second) (y := m) (r := r') (n := -1) h2 (by rw [List.length_take]; omega) (by rw [List.length_take]; simp at hrb; omega) hv.1 (.inr (by omega))
    rw [hb3] at hok3
    obtain ⟨d1, d2, _, _⟩ : c3 = 0 ∧ B3 = ofI (laidL second) ∧ y3 = B3.length ∧ dn3 = false := by
      rcases hc3 with ⟨_, _, _, e⟩ | e
      · omega
      · exact e
    refine ⟨_, c, _, _, _, c3, hb, hok1, m3, hok2, rfl, hv.1, hb3, hok3, rfl, .inr ⟨rfl, hv.2, d1, ?_⟩⟩
    show toldV (byt B3) = _
    rw [d2, byt_ofI (laidL_in second), told_whole (by omega)]
end Go.Proofs.Ytgpcgndmdkgbdaa

/- BranchTold: behind a crash a text is told whole or not at all. -/
namespace Go.Proofs.Ytgpcgndmdkgbdaa
open Go.RowKit Go.Shelf

theorem hold_start {w W : World} {d : Nat} {s : DS} (hd : w.heap.size ≤ d) (hk : Dk W d (fun _ => False) s) (hb : Below w.heap.size w W) : Hold w.heap.size w d s (fun _ => False) W :=
  ⟨⟨fun _ => False, hk, fun _ h => h.elim, fun _ h => h.elim⟩, hd, hb⟩
theorem Hold.told {N d : Nat} {R : Nat → Prop} {w W : World} {s : DS} {C : Int} {t : ByteArray} {c : Int} (h : Hold N w d s R W) (hs : s.Ok C) (hC : C ≤ 1000000000) (hl : s.fs.length = 3) (hv : toldV (byt (fileB s 2)) = (t, c)) :
    Calls Try.prog 17 #[.pointer (some ⟨d, 0, none⟩)] W fun e X => e = .returned (.tuple #[.string t, .int .i64 c]) ∧ Below W.heap.size W X := by
  obtain ⟨G, h1, _⟩ := h.ex
  have := told_any (i := 2) h1 hs hC (by omega) rfl
  rw [show (s.fs[2]'(by omega)).b = fileB s 2 by unfold fileB; simp [show 2 < s.fs.length by omega], hv] at this
  exact this
set_option maxRecDepth 8000 in
set_option maxHeartbeats 4000000 in
theorem told4_any {w : World} {text second : ByteArray} {n keep : Int} (hn : n ≤ 9223372036854775807) : Calls Try.prog 4 #[.string text, .int .i64 n, .int .i64 keep, .string second] w fun e w' => e = .returned (.bool true) ∧ Below w.heap.size w w' := by
  by_cases h1 : text.size ≤ 9000
  · by_cases h2 : second.size ≤ 9000
    · have g1 : ¬ (9000 : Int) < (text.size : Int) := by omega
      have g2 : ¬ (9000 : Int) < (second.size : Int) := by omega
      have hs0 : ({ fs := fs0 3, room := 20000, fuse := -1, down := false } : DS).Ok 20000 := ⟨by simp, by simp [DS.tot, bytes, fs0], by simp [fs0], by simp [fs0], by simp [fs0], by simp, by simp⟩
      have harm : armR { fs := fs0 3, room := 20000, fuse := -1, down := false } n = (tdD [] 0 20000 (max n (-1)) false, 0) := rfl
      have hs1 : (tdD [] 0 20000 (max n (-1)) false).Ok 20000 := by have := arm_ok hs0 hn; rw [harm] at this; exact this
      obtain ⟨s1, c1, s2, v1, s3, c2, t1, t2, t3, t4, t5, t6, t7, t8, t9, t10⟩ := told_law (keep := keep) h1 h2 hs1
      obtain ⟨v1, e1⟩ := v1
      have HS0 := hid hs0
      have HARM := hid harm
      have HS1 := hid hs1
      have HB1 := hid t1
      have HSB := hid t2
      have HCR := hid t3
      have HS2 := hid t4
      have HL2 := hid t5
      have HV1 := hid t6
      have HB2 := hid t7
      have HS3 := hid t8
      have HL3 := hid t9
      have HT := hid t10
      have HTX : Hid (text.size ≤ 100000000) := hid (by omega)
      have HTX2 : Hid (second.size ≤ 100000000) := hid (by omega)
      have M1 := hid trivial
      have M2 := hid trivial
      have M3 := hid trivial
      clear hs0 harm hs1 t1 t2 t3 t4 t5 t6 t7 t8 t9 t10 h1 h2 hn
      go_enter Try.func4, Try.ntmps4
      go_upto_region 10 with (first | (go_at_call 13; refine (begun_any (room := 20000) (by omega) (by omega)).mono ?_; rintro e w1 ⟨d, r, g, rfl, hd, _, _, _, _, hdk, _, hb1⟩; have HH1 := hid (hold_start hd hdk hb1); clear hd hdk hb1) | (go_at_call 14; refine ((HH1.out.below (by repeat (first | (with_reducible exact Below.refl _ _) | (with_reducible exact bl_mm) | (with_reducible refine bl_dr ?_) | (with_reducible refine bl_drN ?_ _) | (with_reducible refine bl_al ?_ _) | (with_reducible refine bl_more ?_ _ _)))).op HARM.out (fun G hD => arm_all hD HS0.out n)).mono ?_; rintro e w2 ⟨rfl, hh2, _⟩; have HH2 := hid hh2; clear hh2) | (go_at_call 15; clear M1; refine ((HH2.out.below (by repeat (first | (with_reducible exact Below.refl _ _) | (with_reducible exact bl_mm) | (with_reducible refine bl_dr ?_) | (with_reducible refine bl_drN ?_ _) | (with_reducible refine bl_al ?_ _) | (with_reducible refine bl_more ?_ _ _)))).op HB1.out (fun G hD => begin_any hD HS1.out (by omega) HTX.out)).mono ?_; rintro e w3 ⟨rfl, hh3, _⟩; have hd3 := hh3.lt; have HH3 := hid hh3; clear hh3) | (go_at_call 16; refine ((HH3.out.below (by repeat (first | (with_reducible exact Below.refl _ _) | (with_reducible exact bl_mm) | (with_reducible refine bl_dr ?_) | (with_reducible refine bl_drN ?_ _) | (with_reducible refine bl_al ?_ _) | (with_reducible refine bl_more ?_ _ _)))).crash (K := fun b => b = w3.heap.size) (ks := [0, 0, keep]) HSB.out (by omega) (row_lit (n := 3) rfl (alloc_blk (by simp)) (by simp) rfl) (fun b hb => by rw [hb]; omega)).mono ?_; rintro e w4 ⟨rfl, hh4, _⟩; rw [HCR.out] at hh4; have HH4 := hid hh4; clear hh4) | (go_at_call 17; clear M2; refine ((HH4.out.below (by repeat (first | (with_reducible exact Below.refl _ _) | (with_reducible exact bl_mm) | (with_reducible refine bl_dr ?_) | (with_reducible refine bl_drN ?_ _) | (with_reducible refine bl_al ?_ _) | (with_reducible refine bl_more ?_ _ _)))).told HS2.out (by omega) HL2.out HV1.out).mono ?_; rintro e w5 ⟨rfl, hb5⟩; obtain ⟨ex5, dx5, rfl⟩ := more_of hb5; clear hb5))
      rcases HT.out with ⟨hv, hc2, hc1⟩ | ⟨hv, hc1, hc2, hv2⟩
      · cases hv
        subst hc2
        clear HT
        rcases hc1 with rfl | rfl
        · go_wp2_with (first | (go_at_call 15; clear M3; refine ((HH4.out.below (by repeat (first | (with_reducible exact Below.refl _ _) | (with_reducible exact bl_mm) | (with_reducible refine bl_dr ?_) | (with_reducible refine bl_drN ?_ _) | (with_reducible refine bl_al ?_ _) | (with_reducible refine bl_more ?_ _ _)))).op HB2.out (fun G hD => begin_any hD HS2.out (by omega) HTX2.out)).mono ?_; rintro e w6 ⟨rfl, hh6, _⟩; have HH6 := hid hh6; clear hh6) | (go_at_call 8; refine lives_any.mono ?_; rintro e wl ⟨rfl, hbl⟩; obtain ⟨exl, dxl, rfl⟩ := more_of hbl; clear hbl))
          go_ret
          exact ⟨rfl, bl_then HH6.out.low (by repeat (first | (with_reducible exact Below.refl _ _) | (with_reducible exact bl_mm) | (with_reducible refine bl_dr ?_) | (with_reducible refine bl_drN ?_ _) | (with_reducible refine bl_al ?_ _) | (with_reducible refine bl_more ?_ _ _)))⟩
        · go_wp2_with (first | (go_at_call 15; clear M3; refine ((HH4.out.below (by repeat (first | (with_reducible exact Below.refl _ _) | (with_reducible exact bl_mm) | (with_reducible refine bl_dr ?_) | (with_reducible refine bl_drN ?_ _) | (with_reducible refine bl_al ?_ _) | (with_reducible refine bl_more ?_ _ _)))).op HB2.out (fun G hD => begin_any hD HS2.out (by omega) HTX2.out)).mono ?_; rintro e w6 ⟨rfl, hh6, _⟩; have HH6 := hid hh6; clear hh6) | (go_at_call 8; refine lives_any.mono ?_; rintro e wl ⟨rfl, hbl⟩; obtain ⟨exl, dxl, rfl⟩ := more_of hbl; clear hbl))
          go_ret
          exact ⟨rfl, bl_then HH6.out.low (by repeat (first | (with_reducible exact Below.refl _ _) | (with_reducible exact bl_mm) | (with_reducible refine bl_dr ?_) | (with_reducible refine bl_drN ?_ _) | (with_reducible refine bl_al ?_ _) | (with_reducible refine bl_more ?_ _ _)))⟩
      · cases hv
        subst hc1
        subst hc2
        have HV2 := hid hv2
        clear HT hv2
        go_wp2_with (first | (go_at_call 15; clear M3; refine ((HH4.out.below (by repeat (first | (with_reducible exact Below.refl _ _) | (with_reducible exact bl_mm) | (with_reducible refine bl_dr ?_) | (with_reducible refine bl_drN ?_ _) | (with_reducible refine bl_al ?_ _) | (with_reducible refine bl_more ?_ _ _)))).op HB2.out (fun G hD => begin_any hD HS2.out (by omega) HTX2.out)).mono ?_; rintro e w6 ⟨rfl, hh6, _⟩; have HH6 := hid hh6; clear hh6) | (go_at_call 17; refine ((HH6.out.below (by repeat (first | (with_reducible exact Below.refl _ _) | (with_reducible exact bl_mm) | (with_reducible refine bl_dr ?_) | (with_reducible refine bl_drN ?_ _) | (with_reducible refine bl_al ?_ _) | (with_reducible refine bl_more ?_ _ _)))).told HS3.out (by omega) HL3.out HV2.out).mono ?_; rintro e w7 ⟨rfl, hb7⟩; obtain ⟨ex7, dx7, rfl⟩ := more_of hb7; clear hb7) | (go_at_call 8; refine lives_any.mono ?_; rintro e wl ⟨rfl, hbl⟩; obtain ⟨exl, dxl, rfl⟩ := more_of hbl; clear hbl))
        go_ret
        exact ⟨rfl, bl_then HH6.out.low (by repeat (first | (with_reducible exact Below.refl _ _) | (with_reducible exact bl_mm) | (with_reducible refine bl_dr ?_) | (with_reducible refine bl_drN ?_ _) | (with_reducible refine bl_al ?_ _) | (with_reducible refine bl_more ?_ _ _)))⟩
    · have g1 : ¬ (9000 : Int) < (text.size : Int) := by omega
      have g2 : (9000 : Int) < (second.size : Int) := by omega
      clear h1 h2
      go_enter Try.func4, Try.ntmps4
      go_wp2_with (first | (go_at_call 8; refine lives_any.mono ?_; rintro e wl ⟨rfl, hbl⟩; obtain ⟨exl, dxl, rfl⟩ := more_of hbl; clear hbl))
      go_ret
      exact ⟨rfl, (by repeat (first | (with_reducible exact Below.refl _ _) | (with_reducible exact bl_mm) | (with_reducible refine bl_dr ?_) | (with_reducible refine bl_drN ?_ _) | (with_reducible refine bl_al ?_ _) | (with_reducible refine bl_more ?_ _ _)))⟩
  · have g1 : (9000 : Int) < (text.size : Int) := by omega
    clear h1
    go_enter Try.func4, Try.ntmps4
    go_wp2_with (first | (go_at_call 8; refine lives_any.mono ?_; rintro e wl ⟨rfl, hbl⟩; obtain ⟨exl, dxl, rfl⟩ := more_of hbl; clear hbl))
    go_ret
    exact ⟨rfl, (by repeat (first | (with_reducible exact Below.refl _ _) | (with_reducible exact bl_mm) | (with_reducible refine bl_dr ?_) | (with_reducible refine bl_drN ?_ _) | (with_reducible refine bl_al ?_ _) | (with_reducible refine bl_more ?_ _ _)))⟩
theorem told4_wf {w : World} {text second : ByteArray} {n keep : Int} (hw : (Lit.int .i64 n).wf = true) : Calls Try.prog 4 #[.string text, .int .i64 n, .int .i64 keep, .string second] w fun e w' => e = .returned (.bool true) ∧ Below w.heap.size w w' :=
  told4_any (by simp only [Lit.wf, Bool.and_eq_true, decide_eq_true_eq] at hw; exact hw.2)
end Go.Proofs.Ytgpcgndmdkgbdaa

/- 'argosylaw.BranchTold' holds: 'Rows.BranchToldSaid', for every input, with no further condition. -/
namespace Go.Proofs.Ytgpcgndmdkgbdaa.branchTold
open Go.ChangeShapes Go.WideShapes Go.ChangeAt Go.RowKit
open Go.ChangeMaps (open_string shut_string)

theorem own : ownKnob Try.prog.godebug = none := by kernel_rfl
theorem laidOut : laidOutB Try.prog = true := by kernel_rfl

set_option maxRecDepth 100000 in
theorem lifted (os : Os) (started : os.Started) (H : Type) (enc : TypeId × Value → H) :
    ReturnsInHanded {} Try.checked os 4 .any (Rows.branchToldSpec.pre6 enc Try.prog Try.f4 Rows.branchToldRow.domain false) (Rows.branchToldSpec.post enc Try.prog Try.f4 false true false false) := by
  refine returnsInHanded_of_change (C := Try.checked) own started (by kernel_rfl) Try.func4
    (ChangeSpec.witness6 (enc := enc) (C := Try.checked) false ⟨#[], #[.string ByteArray.empty, .int .i64 0, .int .i64 0, .string ByteArray.empty], []⟩ 8 (by kernel_rfl) (by kernel_rfl) (by kernel_rfl) (by kernel_rfl)) ?_
  intro W base args ds gs before hval0 hW _ _
  have hval : ∀ (j : Nat) t v, Try.f4.params[j]? = some t → args[j]? = some v → Value.okWide Try.prog W .any base t v := hval0
  have hW' := hW
  obtain ⟨p, q, hA0, hV, rfl, _, _⟩ := hW
  have hA : DataW.TrodAll enc Try.prog W 0 (fun _ => true) true Try.f4.params.toList args.toList ds p := hA0
  rw [Try.params4] at hA hval
  obtain ⟨v0, vs0, d0, ds0, p0, q0, hargs, rfl, rfl, h0, r_0⟩ := trodAll_cons hA
  obtain ⟨v1, vs1, d1, ds1, p1, q1, rfl, rfl, rfl, h1, r_1⟩ := trodAll_cons r_0
  obtain ⟨v2, vs2, d2, ds2, p2, q2, rfl, rfl, rfl, h2, r_2⟩ := trodAll_cons r_1
  obtain ⟨v3, vs3, d3, ds3, p3, q3, rfl, rfl, rfl, h3, r_3⟩ := trodAll_cons r_2
  obtain ⟨rfl, rfl, rfl⟩ := trodAll_nil r_3
  obtain rfl : args = #[v0, v1, v2, v3] := by cases args; simp_all
  obtain ⟨rfl, rfl⟩ := trodVars_none hV
  obtain ⟨a0, rfl, rfl, rfl, w0⟩ := open_string Try.underlying9 (hval 0 9 v0 rfl rfl) h0
  obtain ⟨a1, rfl, rfl, rfl, w1⟩ := open_int Try.underlying3 (hval 1 3 v1 rfl rfl) h1
  obtain ⟨a2, rfl, rfl, rfl, w2⟩ := open_int Try.underlying3 (hval 2 3 v2 rfl rfl) h2
  obtain ⟨a3, rfl, rfl, rfl, w3⟩ := open_string Try.underlying9 (hval 3 9 v3 rfl rfl) h3
  clear hA0 hval0
  refine (told4_wf w1).mono fun e W' ⟨he, bel⟩ => ?_
  subst he
  exact ⟨_, rfl, _, _, _, [], _, [], hW', trodAll_mk1 (shut_bool Try.underlying4 _), (trodAll_cons_mk (shut_string Try.underlying9 w0) (trodAll_cons_mk (shut_int Try.underlying3 w1) (trodAll_cons_mk (shut_int Try.underlying3 w2) (trodAll_cons_mk (shut_string Try.underlying9 w3) trodAll_mk0)))), rfl, bel.frame _, fun h => by cases h⟩

theorem over : Rows.branchToldRow.holds Try.pinned (OpenSpec.ofChange Rows.branchToldSpec) :=
  OpenClaim.holds_of_wide 4 Try.f4 rfl rfl rfl rfl rfl rfl rfl ⟨rfl, rfl, rfl, rfl, rfl⟩ rfl rfl rfl rfl rfl (by kernel_rfl) Try.func4 (by kernel_rfl)
    (of_decide_eq_true (by kernel_rfl)) (by unfold Func.isWrapper; first | (rw [if_pos (by decide +kernel)]; kernel_rfl) | (rw [if_neg (by decide +kernel)]; exact ⟨rfl, rfl⟩))
    (fun os started H enc _ => lifted os started H enc)
end Go.Proofs.Ytgpcgndmdkgbdaa.branchTold
namespace Go.Proofs.Ytgpcgndmdkgbdaa
theorem branchTold_proved : Rows.BranchToldSaid := branchTold.over
#print axioms branchTold_proved
end Go.Proofs.Ytgpcgndmdkgbdaa
