/- The document's point. -/
import Derived.Test.YthekoefcienipaaLxT
namespace Go.Proofs.Ythekoefcienipaa
open Go.RowKit

def decB (b0 b1 b2 b3 : Nat) (h1 h2 h3 : Bool) : Nat × Nat :=
  if b0 < 128 then (b0, 1)
  else if (b0 / 32 == 6 && (h1 && b1 / 64 == 2)) = true then (if b0 % 32 * 64 + b1 % 64 ≥ 128 then (b0 % 32 * 64 + b1 % 64, 2) else (65533, 1))
  else if (b0 / 16 == 14 && (h1 && b1 / 64 == 2) && (h2 && b2 / 64 == 2)) = true then (if (decide (b0 % 16 * 4096 + b1 % 64 * 64 + b2 % 64 ≥ 2048) && Utf8.valid ((b0 % 16 * 4096 + b1 % 64 * 64 + b2 % 64 : Nat) : Int)) = true then (b0 % 16 * 4096 + b1 % 64 * 64 + b2 % 64, 3) else (65533, 1))
  else if (b0 / 8 == 30 && (h1 && b1 / 64 == 2) && (h2 && b2 / 64 == 2) && (h3 && b3 / 64 == 2)) = true then (if (decide (b0 % 8 * 262144 + b1 % 64 * 4096 + b2 % 64 * 64 + b3 % 64 ≥ 65536) && Utf8.valid ((b0 % 8 * 262144 + b1 % 64 * 4096 + b2 % 64 * 64 + b3 % 64 : Nat) : Int)) = true then (b0 % 8 * 262144 + b1 % 64 * 4096 + b2 % 64 * 64 + b3 % 64, 4) else (65533, 1))
  else (65533, 1)
theorem dec_decB (s : ByteArray) (i : Nat) : Utf8.decode s i = decB (by_ s i) (by_ s (i + 1)) (by_ s (i + 2)) (by_ s (i + 3)) (decide (i + 1 < s.size)) (decide (i + 2 < s.size)) (decide (i + 3 < s.size)) := rfl
theorem decB_cut {b0 b1 b2 b3 c0 c1 c2 c3 n : Nat} {h1 h2 h3 : Bool} {D : Nat × Nat} (hD : decB b0 b1 b2 b3 h1 h2 h3 = D) (hb : D ≠ (65533, 1)) (hn : D.2 = n) (g0 : c0 = b0) (g1 : 1 < n → c1 = b1) (g2 : 2 < n → c2 = b2) (g3 : 3 < n → c3 = b3) : decB c0 c1 c2 c3 (decide (1 < n)) (decide (2 < n)) (decide (3 < n)) = D := by
  subst g0
  unfold decB at hD
  split at hD
  · rename_i k0
    unfold decB
    rw [if_pos k0]; exact hD
  · rename_i k0
    split at hD
    · rename_i k1
      split at hD
      · rename_i k2
        subst hD
        have hn : 2 = n := hn
        subst hn
        obtain rfl := g1 (by decide)
        simp only [Bool.and_eq_true, beq_iff_eq] at k1
        unfold decB
        rw [if_neg k0, if_pos (by simp only [Bool.and_eq_true, beq_iff_eq, decide_eq_true_eq]; omega), if_pos k2]
      · exact absurd hD.symm hb
    · rename_i k1
      split at hD
      · rename_i k2
        split at hD
        · rename_i k3
          subst hD
          have hn : 3 = n := hn
          subst hn
          obtain rfl := g1 (by decide)
          obtain rfl := g2 (by decide)
          simp only [Bool.and_eq_true, beq_iff_eq] at k1 k2
          unfold decB
          rw [if_neg k0, if_neg (by simp only [Bool.and_eq_true, beq_iff_eq, decide_eq_true_eq]; omega), if_pos (by simp only [Bool.and_eq_true, beq_iff_eq, decide_eq_true_eq]; omega), if_pos k3]
        · exact absurd hD.symm hb
      · rename_i k2
        split at hD
        · rename_i k3
          split at hD
          · rename_i k4
            subst hD
            have hn : 4 = n := hn
            subst hn
            obtain rfl := g1 (by decide)
            obtain rfl := g2 (by decide)
            obtain rfl := g3 (by decide)
            simp only [Bool.and_eq_true, beq_iff_eq] at k1 k2 k3
            unfold decB
            rw [if_neg k0, if_neg (by simp only [Bool.and_eq_true, beq_iff_eq, decide_eq_true_eq]; omega), if_neg (by simp only [Bool.and_eq_true, beq_iff_eq, decide_eq_true_eq]; omega), if_pos (by simp only [Bool.and_eq_true, beq_iff_eq, decide_eq_true_eq]; omega), if_pos k4]
          · exact absurd hD.symm hb
        · exact absurd hD.symm hb
theorem dec_cut {s : ByteArray} {a : Nat} (ha : a < s.size) (hb : bad s a = false) : Utf8.decode (s.extract a (a + (Utf8.decode s a).2)) 0 = Utf8.decode s a := by
  have hle := width_le ha
  have hsz : (s.extract a (a + (Utf8.decode s a).2)).size = (Utf8.decode s a).2 := by rw [ByteArray.size_extract]; omega
  have hb := decide_eq_false_iff_not.1 hb
  have hw := width_pos s a
  rw [dec_decB (s.extract a _) 0, hsz]
  simp only [Nat.zero_add]
  exact decB_cut (dec_decB s a).symm hb rfl (by_ext hle (.inl (by omega))) (fun h => by_ext hle (.inl (by omega))) (fun h => by_ext hle (.inl (by omega))) (fun h => by_ext hle (.inl (by omega)))
/-- How long the first code point is; 0: there is none. -/
def cutW (s : ByteArray) : Nat := if s.size = 0 then 0 else if bad s 0 = true then 0 else (Utf8.decode s 0).2
theorem cutW_le (s : ByteArray) : cutW s ≤ s.size := by
  unfold cutW
  split
  · omega
  · split
    · omega
    · have := width_le (s := s) (i := 0) (by omega); omega
theorem Nums.cell {N : Nat} {w0 w : World} {g n c : Nat} {A : Option Addr} {x : Int} {xs : List Int} (h : Nums N w0 w g (.slice A n c) (x :: xs)) : ∃ b off, A = some ⟨b, off, none⟩ ∧ b < w.heap.size ∧ w.cell? ⟨b, off, none⟩ = some (.int .i64 x) := by
  have hr := h.sp.row (K' := fun _ => True) (fun _ _ _ => trivial) trivial
  obtain ⟨b, off, cs, e, _, hl, h1, h2⟩ := hr.get 0 (by simp)
  refine ⟨b, off, e, hl, ?_⟩
  have h1 : cs = [.int .i64 x] := h1
  have := h2 0 (.int .i64 x) (by rw [h1]; rfl)
  simpa using this
set_option maxHeartbeats 4000000 in
theorem cut_any {w : World} {s : ByteArray} (hz : s.size ≤ 65536) : Calls Try.prog 33 #[.string s, .int .i64 1] w fun e w' => e = .returned (.tuple #[.string (s.extract 0 (cutW s)), .string (s.extract (cutW s) s.size)]) ∧ Below w.heap.size w w' := by
  have HZ := hid hz
  by_cases h : s.size = 0 ∨ bad s 0 = true
  · have hl : rdL s 0 = [] := by
      rcases h with h | h
      · exact rdL_end (by omega)
      · exact rdL_bad h
    have hc : cutW s = 0 := by
      unfold cutW
      split
      · rfl
      · rw [if_pos (h.resolve_left (by assumption))]
    rw [hc]
    have hz' : (0 : Int) ≤ s.size := by omega
    have HL := hid hl
    clear hl hc hz h
    go_enter Try.func33, Try.ntmps33
    go_wp2_with (first | ((with_reducible refine wp_region_plan (id := 7) (.fin [(false, 0), (false, 1), (false, 2), (false, 3), (false, 4), (false, 5), (false, 6), (false, 7)]) ?_ ?_ ?_ ?_ ?_ ?_); kernel_rfl; kernel_rfl; kernel_rfl; kernel_rfl; (intro c a d v w h; cases d <;> exact h)) | (with_reducible refine wpPlan_eff ?_) | (with_reducible refine wpPlan_fin ?_) | (with_reducible refine wpPlan_two ?_) | (with_reducible refine wpOpPair ?_ ?_) | ((with_reducible apply wpPre_keep); rfl; intro K' hK'; go_simp; refine hK' _ _ ?_; intro f hf; clear hK' K') | ((with_reducible apply wpPre_drop); rfl; intro K' hK'; go_simp; refine hK' _ _ ?_; intro f; clear hK' K') | (with_reducible refine wpPre_nil ?_) | ((with_reducible apply wpOp_list); rfl) | (with_reducible refine heldPair ?_ ?_) | ((with_reducible refine heldH_no ?_ ?_); rfl) | (with_reducible refine heldH_yes ?_ ?_) | (with_reducible exact heldH_nil) | (unfold YAt; go_simp; done) | (go_at_call 43; refine (read_any HZ.out).mono ?_; rintro e w1 ⟨v1, g1, rfl, hn1⟩; obtain ⟨A1, c1, rfl, _, _⟩ := hn1.sp.form; have HN1 := hid hn1; have hlow := hn1.low; clear hn1; obtain ⟨ex1, dx1, rfl⟩ := more_of hlow; clear hlow; rw [HL.out] at HN1 ⊢))
    go_loopg [8, 9] 1 (fun k va vi wr => va = .int .i64 0 ∧ vi = .int .i64 0 ∧ wr = more w ex1 dx1)
    case atStart => exact ⟨rfl, rfl, rfl⟩
    case round =>
      obtain ⟨rfl, rfl, rfl⟩ := hrel
      go_wp2_with (first | ((with_reducible refine wp_region_plan (id := 7) (.fin [(false, 0), (false, 1), (false, 2), (false, 3), (false, 4), (false, 5), (false, 6), (false, 7)]) ?_ ?_ ?_ ?_ ?_ ?_); kernel_rfl; kernel_rfl; kernel_rfl; kernel_rfl; (intro c a d v w h; cases d <;> exact h)) | (with_reducible refine wpPlan_eff ?_) | (with_reducible refine wpPlan_fin ?_) | (with_reducible refine wpPlan_two ?_) | (with_reducible refine wpOpPair ?_ ?_) | ((with_reducible apply wpPre_keep); rfl; intro K' hK'; go_simp; refine hK' _ _ ?_; intro f hf; clear hK' K') | ((with_reducible apply wpPre_drop); rfl; intro K' hK'; go_simp; refine hK' _ _ ?_; intro f; clear hK' K') | (with_reducible refine wpPre_nil ?_) | ((with_reducible apply wpOp_list); rfl) | (with_reducible refine heldPair ?_ ?_) | ((with_reducible refine heldH_no ?_ ?_); rfl) | (with_reducible refine heldH_yes ?_ ?_) | (with_reducible exact heldH_nil) | (unfold YAt; go_simp; done) | (go_at_call 43; refine (read_any HZ.out).mono ?_; rintro e w1 ⟨v1, g1, rfl, hn1⟩; obtain ⟨A1, c1, rfl, _, _⟩ := hn1.sp.form; have HN1 := hid hn1; have hlow := hn1.low; clear hn1; obtain ⟨ex1, dx1, rfl⟩ := more_of hlow; clear hlow; rw [HL.out] at HN1 ⊢))
      go_ret2
      refine ⟨?_, (by repeat (first | (with_reducible exact Below.refl _ _) | (with_reducible exact bl_mm) | (with_reducible refine bl_dr ?_) | (with_reducible refine bl_drN ?_ _) | (with_reducible refine bl_al ?_ _) | (with_reducible refine bl_more ?_ _ _)))⟩
      rw [ByteArray.extract_zero_size, show s.extract 0 0 = ByteArray.empty by simp]
      rfl
  · have hn : 0 < s.size := by omega
    have hb : bad s 0 = false := by
      cases hbd : bad s 0 with
      | true => exact absurd (.inr hbd) h
      | false => rfl
    have hl := rdL_next hn hb
    have hc : cutW s = (Utf8.decode s 0).2 := by
      unfold cutW
      rw [if_neg (by omega), if_neg (by rw [hb]; decide)]
    have hwl := cutW_le s
    have hwd := wid_dec hb
    rw [← hc] at hl hwd
    rw [Nat.zero_add] at hl
    obtain ⟨c, hcc⟩ : ∃ c : Int, ((Utf8.decode s 0).1 : Int) = c := ⟨_, rfl⟩
    obtain ⟨W, hW⟩ : ∃ W, cutW s = W := ⟨_, rfl⟩
    obtain ⟨ls, hls⟩ : ∃ ls, rdL s (cutW s) = ls := ⟨_, rfl⟩
    rw [hls, hcc] at hl
    rw [hcc] at hwd
    rw [hW] at hwd hwl ⊢
    have HL := hid hl
    have HWD := hid hwd
    have hw1 : (W : Int) ≤ s.size := by omega
    have hw0 : (0 : Int) ≤ W := by omega
    have hw2 : wrap64 (W : Int) = (W : Int) := by rw [wrap64]; omega
    have hls0 : decide ((0 : Int) < (ls.length : Int) + 1) = true := by rw [decide_eq_true_eq]; omega
    clear hl hwd hls hcc hW hc hb hn h hz
    go_enter Try.func33, Try.ntmps33
    go_wp2_with (first | ((with_reducible refine wp_region_plan (id := 7) (.fin [(false, 0), (false, 1), (false, 2), (false, 3), (false, 4), (false, 5), (false, 6), (false, 7)]) ?_ ?_ ?_ ?_ ?_ ?_); kernel_rfl; kernel_rfl; kernel_rfl; kernel_rfl; (intro c a d v w h; cases d <;> exact h)) | (with_reducible refine wpPlan_eff ?_) | (with_reducible refine wpPlan_fin ?_) | (with_reducible refine wpPlan_two ?_) | (with_reducible refine wpOpPair ?_ ?_) | ((with_reducible apply wpPre_keep); rfl; intro K' hK'; go_simp; refine hK' _ _ ?_; intro f hf; clear hK' K') | ((with_reducible apply wpPre_drop); rfl; intro K' hK'; go_simp; refine hK' _ _ ?_; intro f; clear hK' K') | (with_reducible refine wpPre_nil ?_) | ((with_reducible apply wpOp_list); rfl) | (with_reducible refine heldPair ?_ ?_) | ((with_reducible refine heldH_no ?_ ?_); rfl) | (with_reducible refine heldH_yes ?_ ?_) | (with_reducible exact heldH_nil) | (unfold YAt; go_simp; done) | (go_at_call 43; refine (read_any HZ.out).mono ?_; rintro e w1 ⟨v1, g1, rfl, hn1⟩; obtain ⟨A1, c1, rfl, _, _⟩ := hn1.sp.form; have HN1 := hid hn1; have hlow := hn1.low; clear hn1; obtain ⟨ex1, dx1, rfl⟩ := more_of hlow; clear hlow; rw [HL.out] at HN1 ⊢))
    obtain ⟨bb, oo, rfl, hlt, hcell⟩ := HN1.out.cell
    go_loopg [8, 9] 1 (fun k va vi wr => wr = more w ex1 dx1 ∧ ((k = 1 ∧ va = .int .i64 0 ∧ vi = .int .i64 0) ∨ (k = 0 ∧ va = .int .i64 (W : Int) ∧ vi = .int .i64 1)))
    case atStart => exact ⟨rfl, .inl ⟨rfl, rfl, rfl⟩⟩
    case round =>
      obtain ⟨rfl, hrel⟩ := hrel
      rcases hrel with ⟨rfl, rfl, rfl⟩ | ⟨rfl, rfl, rfl⟩
      · go_wp2_with (first | ((with_reducible refine wp_region_plan (id := 7) (.fin [(false, 0), (false, 1), (false, 2), (false, 3), (false, 4), (false, 5), (false, 6), (false, 7)]) ?_ ?_ ?_ ?_ ?_ ?_); kernel_rfl; kernel_rfl; kernel_rfl; kernel_rfl; (intro c a d v w h; cases d <;> exact h)) | (with_reducible refine wpPlan_eff ?_) | (with_reducible refine wpPlan_fin ?_) | (with_reducible refine wpPlan_two ?_) | (with_reducible refine wpOpPair ?_ ?_) | ((with_reducible apply wpPre_keep); rfl; intro K' hK'; go_simp; refine hK' _ _ ?_; intro f hf; clear hK' K') | ((with_reducible apply wpPre_drop); rfl; intro K' hK'; go_simp; refine hK' _ _ ?_; intro f; clear hK' K') | (with_reducible refine wpPre_nil ?_) | ((with_reducible apply wpOp_list); rfl) | (with_reducible refine heldPair ?_ ?_) | ((with_reducible refine heldH_no ?_ ?_); rfl) | (with_reducible refine heldH_yes ?_ ?_) | (with_reducible exact heldH_nil) | (unfold YAt; go_simp; done) | (go_at_call 44; refine wid_any.mono ?_; rintro e w3 ⟨rfl, rfl⟩; rw [HWD.out]))
        go_roundg 0
        case measure => decide
        case rel => exact ⟨rfl, .inr ⟨rfl, by rw [hw2], rfl⟩⟩
      · go_wp2_with (first | ((with_reducible refine wp_region_plan (id := 7) (.fin [(false, 0), (false, 1), (false, 2), (false, 3), (false, 4), (false, 5), (false, 6), (false, 7)]) ?_ ?_ ?_ ?_ ?_ ?_); kernel_rfl; kernel_rfl; kernel_rfl; kernel_rfl; (intro c a d v w h; cases d <;> exact h)) | (with_reducible refine wpPlan_eff ?_) | (with_reducible refine wpPlan_fin ?_) | (with_reducible refine wpPlan_two ?_) | (with_reducible refine wpOpPair ?_ ?_) | ((with_reducible apply wpPre_keep); rfl; intro K' hK'; go_simp; refine hK' _ _ ?_; intro f hf; clear hK' K') | ((with_reducible apply wpPre_drop); rfl; intro K' hK'; go_simp; refine hK' _ _ ?_; intro f; clear hK' K') | (with_reducible refine wpPre_nil ?_) | ((with_reducible apply wpOp_list); rfl) | (with_reducible refine heldPair ?_ ?_) | ((with_reducible refine heldH_no ?_ ?_); rfl) | (with_reducible refine heldH_yes ?_ ?_) | (with_reducible exact heldH_nil) | (unfold YAt; go_simp; done) | (go_at_call 44; refine wid_any.mono ?_; rintro e w3 ⟨rfl, rfl⟩; rw [HWD.out]))
        all_goals
          go_ret2
          exact ⟨rfl, (by repeat (first | (with_reducible exact Below.refl _ _) | (with_reducible exact bl_mm) | (with_reducible refine bl_dr ?_) | (with_reducible refine bl_drN ?_ _) | (with_reducible refine bl_al ?_ _) | (with_reducible refine bl_more ?_ _ _)))⟩
theorem one_rd {s : ByteArray} (hs : cutW s ≠ 0) : rdL (s.extract 0 (cutW s)) 0 = [((Utf8.decode s 0).1 : Int)] ∧ badAt (s.extract 0 (cutW s)) 0 = none := by
  unfold cutW at hs ⊢
  split at hs
  · exact absurd rfl hs
  · rename_i h0
    split at hs
    · exact absurd rfl hs
    · rename_i hb
      rw [if_neg h0, if_neg hb]
      have hb : bad s 0 = false := by
        cases hbd : bad s 0 with
        | true => exact absurd hbd hb
        | false => rfl
      have hp : 0 < s.size := by omega
      have hd := dec_cut hp hb
      rw [Nat.zero_add] at hd
      have hle := width_le hp
      have hw := width_pos s 0
      have hsz : (s.extract 0 (Utf8.decode s 0).2).size = (Utf8.decode s 0).2 := by rw [ByteArray.size_extract]; omega
      have hb' : bad (s.extract 0 (Utf8.decode s 0).2) 0 = false := by unfold bad; rw [hd]; exact hb
      have hend : ¬ 0 + (Utf8.decode s 0).2 < (s.extract 0 (Utf8.decode s 0).2).size := by omega
      constructor
      · rw [rdL_next (by omega) hb', hd, rdL_end hend]
      · rw [badAt_next (by omega) hb', hd, badAt_end hend]
theorem no_rd {s : ByteArray} (hs : cutW s = 0) : rdL (s.extract 0 (cutW s)) 0 = [] ∧ badAt (s.extract 0 (cutW s)) 0 = none := by
  have hsz : ¬ 0 < (s.extract 0 (cutW s)).size := by rw [ByteArray.size_extract]; omega
  exact ⟨rdL_end hsz, badAt_end hsz⟩
set_option maxHeartbeats 4000000 in
theorem runes_any {w : World} {s : ByteArray} {l : List Int} (hz : s.size ≤ 65536) (hl : rdL s 0 = l) (hb : badAt s 0 = none) : Calls Try.prog 34 #[.string s] w fun e w' => ∃ v g, e = .returned (.tuple #[v, .int .i64 0]) ∧ Nums w.heap.size w w' g v l := by
  have HZ := hid hz
  have HL := hid hl
  have HB := hid hb
  clear hz hl hb
  go_enter Try.func34, Try.ntmps34
  go_wp2_with (first | (go_at_call 43; refine (read_any HZ.out).mono ?_; rintro e w1 ⟨v1, g1, rfl, hn1⟩; rw [HL.out] at hn1; rw [HB.out]; obtain ⟨A1, c1, rfl, _, _⟩ := hn1.sp.form; have HN1 := hid hn1; have hlow := hn1.low; clear hn1))
  go_ret2
  exact ⟨.slice A1 l.length c1, g1, rfl, HN1.out⟩
def ptN (s : ByteArray) (a : Nat) : Nat := if bad s a = true then 0 else (Utf8.decode s a).2
def ptR (s : ByteArray) (a : Nat) : Int := if bad s a = true then 0 else ((Utf8.decode s a).1 : Int)
set_option maxHeartbeats 4000000 in
theorem point_any {w : World} {s : ByteArray} {a : Nat} (ha : a < s.size) (hz : s.size ≤ 65536) : Calls Try.prog 24 #[.string s, .int .i64 a] w fun e w' => e = .returned (.tuple #[.int .i64 (ptR s a), .int .i64 (ptN s a)]) ∧ Below w.heap.size w w' := by
  have hmin : min (s.size : Int) ((a : Int) + 4) = ((min s.size (a + 4) : Nat) : Int) := by omega
  have hw4 : wrap64 ((a : Int) + 4) = (a : Int) + 4 := by rw [wrap64]; omega
  obtain ⟨m, hm⟩ : ∃ m, min s.size (a + 4) = m := ⟨_, rfl⟩
  rw [hm] at hmin
  have hm1 : (m : Int) ≤ s.size := by omega
  have hm2 : (a : Int) ≤ m := by omega
  have hm0 : (0 : Int) ≤ a := by omega
  have hmb : m ≤ s.size := by omega
  have hm4 : a + 0 + 4 ≤ m ∨ m = s.size := by omega
  have hts : (s.extract a m).size = m - a := by rw [ByteArray.size_extract]; omega
  have hd := dec_ext (s := s) (a := a) (b := m) (i := 0) hmb hm4
  have hbb := bad_ext (s := s) (a := a) (b := m) (i := 0) hmb hm4
  rw [Nat.add_zero] at hd hbb
  have hcw : cutW (s.extract a m) = ptN s a := by
    unfold cutW ptN
    rw [if_neg (by omega), hbb, hd]
  have HZT : Hid ((s.extract a m).size ≤ 65536) := hid (by omega)
  have hfs : ((s.extract a m).extract 0 (cutW (s.extract a m))).size = ptN s a := by
    rw [ByteArray.size_extract, ← hcw]
    have := cutW_le (s.extract a m)
    omega
  have HZF : Hid (((s.extract a m).extract 0 (cutW (s.extract a m))).size ≤ 65536) := hid (by
    have := cutW_le (s.extract a m)
    rw [hfs]
    omega)
  by_cases hz0 : ptN s a = 0
  · have hb1 : bad s a = true := by
      cases hbd : bad s a with
      | true => rfl
      | false =>
        unfold ptN at hz0
        rw [if_neg (by rw [hbd]; decide)] at hz0
        have := width_pos s a
        omega
    have hr0 : ptR s a = 0 := by unfold ptR; rw [if_pos hb1]
    have hno := no_rd (hcw.trans hz0)
    have HL := hid hno.1
    have HB := hid hno.2
    rw [hz0, hr0]
    obtain ⟨t1, ht1⟩ : ∃ t1, (s.extract a m).extract 0 (cutW (s.extract a m)) = t1 := ⟨_, rfl⟩
    rw [ht1] at HL HB HZF
    have HT := hid ht1
    clear ha hz hm hmb hm4 hts hd hbb hcw hfs hz0 hb1 hr0 hno ht1
    go_enter Try.func24, Try.ntmps24
    go_wp2_with (first | (go_at_call 33; refine (cut_any HZT.out).mono ?_; rintro e w1 ⟨rfl, hb1⟩; rw [HT.out]; obtain ⟨ex1, dx1, rfl⟩ := more_of hb1; clear hb1) | (go_at_call 34; refine (runes_any HZF.out HL.out HB.out).mono ?_; rintro e w2 ⟨v2, g2, rfl, hn2⟩; obtain ⟨A2, c2, rfl, _, _⟩ := hn2.sp.form; have HN2 := hid hn2; have HLOW := hid hn2.low; clear hn2))
    go_ret2
    refine ⟨?_, (show Below w.heap.size w (more w ex1 dx1) from (by repeat (first | (with_reducible exact Below.refl _ _) | (with_reducible exact bl_mm) | (with_reducible refine bl_dr ?_) | (with_reducible refine bl_drN ?_ _) | (with_reducible refine bl_al ?_ _) | (with_reducible refine bl_more ?_ _ _)))).trans (HLOW.out.mono (by simp [more_size]))⟩
    rfl
  · have hb1 : bad s a = false := by
      cases hbd : bad s a with
      | false => rfl
      | true => exact absurd (by unfold ptN; rw [if_pos hbd]) hz0
    have hr0 : ptR s a = ((Utf8.decode s a).1 : Int) := by unfold ptR; rw [if_neg (by rw [hb1]; decide)]
    have hno := one_rd (by rw [hcw]; exact hz0)
    rw [hd, ← hr0] at hno
    have HL := hid hno.1
    have HB := hid hno.2
    obtain ⟨t1, ht1⟩ : ∃ t1, (s.extract a m).extract 0 (cutW (s.extract a m)) = t1 := ⟨_, rfl⟩
    rw [ht1] at HL HB HZF
    have HT := hid ht1
    have hfs' : (t1.size : Int) = (ptN s a : Nat) := by rw [← ht1, hfs]
    clear ha hz hm hmb hm4 hts hd hbb hcw hfs hz0 hb1 hr0 hno ht1
    go_enter Try.func24, Try.ntmps24
    go_wp2_with (first | (go_at_call 33; refine (cut_any HZT.out).mono ?_; rintro e w1 ⟨rfl, hb1⟩; rw [HT.out]; obtain ⟨ex1, dx1, rfl⟩ := more_of hb1; clear hb1) | (go_at_call 34; refine (runes_any HZF.out HL.out HB.out).mono ?_; rintro e w2 ⟨v2, g2, rfl, hn2⟩; obtain ⟨A2, c2, rfl, _, _⟩ := hn2.sp.form; have HLOW := hid hn2.low; obtain ⟨bb, oo, rfl, hlt, hcell⟩ := hn2.cell; clear hn2))
    go_ret2
    refine ⟨?_, (show Below w.heap.size w (more w ex1 dx1) from (by repeat (first | (with_reducible exact Below.refl _ _) | (with_reducible exact bl_mm) | (with_reducible refine bl_dr ?_) | (with_reducible refine bl_drN ?_ _) | (with_reducible refine bl_al ?_ _) | (with_reducible refine bl_more ?_ _ _)))).trans (HLOW.out.mono (by simp [more_size]))⟩
    rfl
end Go.Proofs.Ythekoefcienipaa
