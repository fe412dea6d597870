/- A pool: Len, List, Push. -/
import Derived.Test.YtlfdnjomjheioaaPaB
namespace Go.Proofs.Ytlfdnjomjheioaa
open Go.RowKit

def Wk.n (k : Wk) : Nat := k.l.length + (if k.h.isSome then 1 else 0)
def cnt (s : List Wk) : Nat := (s.map Wk.n).sum
theorem cnt_snoc {s : List Wk} {j : Nat} (h : j < s.length) : cnt (s.take (j + 1)) = cnt (s.take j) + (s[j]'h).n := by
  unfold cnt
  rw [List.take_succ_eq_append_getElem h, List.map_append, List.sum_append]
  simp
theorem cnt_le {N : Nat} {w : World} {F : Nat → Prop} {p : Nat} {s : List Wk} {ad : Nat → Ad} (h : Pl N w F p s ad) : ∀ j, j ≤ s.length → cnt (s.take j) ≤ j * 129
  | 0, _ => by simp [cnt]
  | j + 1, hj => by
    have h1 := cnt_le h j (by omega)
    have h2 := (h.at_ j (by omega)).dq.few
    rw [cnt_snoc (by omega : j < s.length)]
    have : (s[j]'(by omega)).n ≤ 129 := by unfold Wk.n; split <;> omega
    omega
theorem len_n {F : Nat → Prop} {w : World} {d g n : Nat} {l : List Job} (h : Dq w F d g l) (hn : l.length = n) : Calls Try.prog 25 #[.pointer (some ⟨d, 0, none⟩)] w fun e w' => e = .returned (.int .i64 n) ∧ Below w.heap.size w w' := by
  subst hn
  exact len_any h
set_option maxHeartbeats 1000000 in
theorem plen_any {N : Nat} {w : World} {F : Nat → Prop} {p : Nat} {s : List Wk} {ad : Nat → Ad} (h : Pl N w F p s ad) :
    Calls Try.prog 10 #[.pointer (some ⟨p, 0, none⟩)] w fun e w' => e = .returned (.int .i64 (cnt s)) ∧ Below w.heap.size w w' := by
  have hl := h.lt
  have n2 := h.n2
  have HP := hid h
  clear h
  go_enter Try.func10, Try.ntmps10
  go_wp2_with (first | (go_at_call 24; refine (size_any (HP.out.below (by repeat (first | (with_reducible exact Below.refl _ _) | (with_reducible exact bl_mm) | (with_reducible refine bl_dr ?_) | (with_reducible refine bl_drN ?_ _) | (with_reducible refine bl_al ?_ _) | (with_reducible refine bl_more ?_ _ _))))).mono ?_; rintro e w1 ⟨rfl, hb1⟩; obtain ⟨ex, dx, rfl⟩ := more_of hb1; clear hb1))
  go_loopg [3, 7] s.length (fun k sm i wr => ∃ j : Nat, j + k = s.length ∧ i = .int .i64 j ∧ sm = .int .i64 (cnt (s.take j)) ∧ Below w.heap.size w wr)
  case atStart => exact ⟨0, by omega, rfl, by simp [cnt], (by repeat (first | (with_reducible exact Below.refl _ _) | (with_reducible exact bl_mm) | (with_reducible refine bl_dr ?_) | (with_reducible refine bl_drN ?_ _) | (with_reducible refine bl_al ?_ _) | (with_reducible refine bl_more ?_ _ _)))⟩
  case round =>
    obtain ⟨j, hj, rfl, rfl, hb⟩ := hrel
    obtain ⟨ex0, dx0, rfl⟩ := more_of hb
    have HJ := hid hj
    clear hb
    by_cases hlt : j < s.length
    · have HI := hid (And.intro hlt trivial)
      have hw := HP.out.at_ j hlt
      have q1 := hw.dp
      have q2 := hw.hp
      have h5 := cnt_le HP.out j (by omega)
      have h6 := cnt_snoc hlt
      have h7 := hw.dq.few
      obtain ⟨ln, hln⟩ : ∃ ln, (s[j]'hlt).l.length = ln := ⟨_, rfl⟩
      obtain ⟨c0, hc0⟩ : ∃ c0, cnt (s.take j) = c0 := ⟨_, rfl⟩
      have hn : (s[j]'hlt).n = ln + (if (s[j]'hlt).h.isSome then 1 else 0) := by unfold Wk.n; rw [hln]
      rw [hn] at h6
      rw [hln] at h7
      rw [hc0] at h5 h6 ⊢
      have HLN := hid hln
      have i1 : (j : Int) < (s.length : Int) := by omega
      have i2 : (j : Int) < 64 := by omega
      have i3 : (0 : Int) ≤ (j : Int) := by omega
      have y1 : IntKind.i64.wrap ((c0 : Int) + (ln : Int)) = ((c0 + ln : Nat) : Int) := by rw [IntWalk.i64_in _ (by omega)]; omega
      have y2 : IntKind.i64.wrap (((c0 + ln : Nat) : Int) + 1) = ((c0 + ln + 1 : Nat) : Int) := by rw [IntWalk.i64_in _ (by omega)]; omega
      have y3 : IntKind.i64.wrap ((c0 : Int) + (ln : Int) + 1) = ((c0 + ln + 1 : Nat) : Int) := by rw [IntWalk.i64_in _ (by omega)]; omega
      have w1' : IntKind.i64.wrap ((j : Int) + 1) = ((j + 1 : Nat) : Int) := by rw [IntWalk.i64_in _ (by omega)]; rfl
      cases hh : (s[j]'hlt).h with
      | none =>
        rw [hh] at q2 h6
        simp only [Option.map_none] at q2
        simp at h6
        have H6 := hid h6
        clear hw h5 h6 h7 hn hln hc0 hh hj n2
        go_wp2_with (first | (go_at_call 25; refine (len_n ((HP.out.below (by repeat (first | (with_reducible exact Below.refl _ _) | (with_reducible exact bl_mm) | (with_reducible refine bl_dr ?_) | (with_reducible refine bl_drN ?_ _) | (with_reducible refine bl_al ?_ _) | (with_reducible refine bl_more ?_ _ _)))).at_ j HI.out.1).dq HLN.out).mono ?_; rintro e w1 ⟨rfl, hb1⟩; obtain ⟨ex, dx, rfl⟩ := more_of hb1; clear hb1))
        go_roundg (s.length - (j + 1))
        case measure => have := HJ.out; omega
        case rel => exact ⟨j + 1, by have := HJ.out; omega, rfl, by rw [H6.out]; congr 1, (by repeat (first | (with_reducible exact Below.refl _ _) | (with_reducible exact bl_mm) | (with_reducible refine bl_dr ?_) | (with_reducible refine bl_drN ?_ _) | (with_reducible refine bl_al ?_ _) | (with_reducible refine bl_more ?_ _ _)))⟩
      | some jb =>
        rw [hh] at q2 h6
        simp only [Option.map_some] at q2
        simp at h6
        have H6 := hid h6
        clear hw h5 h6 h7 hn hln hc0 hh hj n2
        go_wp2_with (first | (go_at_call 25; refine (len_n ((HP.out.below (by repeat (first | (with_reducible exact Below.refl _ _) | (with_reducible exact bl_mm) | (with_reducible refine bl_dr ?_) | (with_reducible refine bl_drN ?_ _) | (with_reducible refine bl_al ?_ _) | (with_reducible refine bl_more ?_ _ _)))).at_ j HI.out.1).dq HLN.out).mono ?_; rintro e w1 ⟨rfl, hb1⟩; obtain ⟨ex, dx, rfl⟩ := more_of hb1; clear hb1))
        go_roundg (s.length - (j + 1))
        case measure => have := HJ.out; omega
        case rel => exact ⟨j + 1, by have := HJ.out; omega, rfl, by rw [H6.out]; congr 1, (by repeat (first | (with_reducible exact Below.refl _ _) | (with_reducible exact bl_mm) | (with_reducible refine bl_dr ?_) | (with_reducible refine bl_drN ?_ _) | (with_reducible refine bl_al ?_ _) | (with_reducible refine bl_more ?_ _ _)))⟩
    · obtain rfl : j = s.length := by omega
      have i1 : ¬ (s.length : Int) < s.length := by omega
      clear hj
      go_wp2
      go_ret
      exact ⟨rfl, (by repeat (first | (with_reducible exact Below.refl _ _) | (with_reducible exact bl_mm) | (with_reducible refine bl_dr ?_) | (with_reducible refine bl_drN ?_ _) | (with_reducible refine bl_al ?_ _) | (with_reducible refine bl_more ?_ _ _)))⟩
set_option maxHeartbeats 1000000 in
theorem plist_any {N : Nat} {w : World} {F : Nat → Prop} {p : Nat} {s : List Wk} {ad : Nat → Ad} (h : Pl N w F p s ad) (i : Nat) (hi : i < s.length) :
    Calls Try.prog 21 #[.pointer (some ⟨p, 0, none⟩), .int .i64 i] w fun e w' => ∃ v', e = .returned v' ∧ jobE.Row (fun b => w.heap.size ≤ b) w' v' s[i].l ∧ Below w.heap.size w w' := by
  have hl := h.lt
  have q1 := (h.at_ i hi).dp
  have HP := hid h
  have HI := hid (And.intro hi trivial)
  clear h
  go_enter Try.func21, Try.ntmps21
  go_wp2_with (first | (go_at_call 26; refine (worker_any (HP.out.below (by repeat (first | (with_reducible exact Below.refl _ _) | (with_reducible exact bl_mm) | (with_reducible refine bl_dr ?_) | (with_reducible refine bl_drN ?_ _) | (with_reducible refine bl_al ?_ _) | (with_reducible refine bl_more ?_ _ _)))) i HI.out.1).mono ?_; rintro e w1 ⟨rfl, hb1⟩; obtain ⟨ex, dx, rfl⟩ := more_of hb1; clear hb1) | (go_at_call 41; refine (list_any ((HP.out.below (by repeat (first | (with_reducible exact Below.refl _ _) | (with_reducible exact bl_mm) | (with_reducible refine bl_dr ?_) | (with_reducible refine bl_drN ?_ _) | (with_reducible refine bl_al ?_ _) | (with_reducible refine bl_more ?_ _ _)))).at_ i HI.out.1).dq).mono ?_; rintro e w1 ⟨v', rfl, hr, hb1⟩; obtain ⟨ex, dx, rfl⟩ := more_of hb1; clear hb1))
  go_ret
  exact ⟨_, rfl, hr.mono (fun b hb _ => by simp only [more_size] at hb; omega), (by repeat (first | (with_reducible exact Below.refl _ _) | (with_reducible exact bl_mm) | (with_reducible refine bl_dr ?_) | (with_reducible refine bl_drN ?_ _) | (with_reducible refine bl_al ?_ _) | (with_reducible refine bl_more ?_ _ _)))⟩
set_option maxHeartbeats 1000000 in
theorem plist_none {N : Nat} {w : World} {F : Nat → Prop} {p : Nat} {s : List Wk} {ad : Nat → Ad} (h : Pl N w F p s ad) (i : Int) (hi : i < 0 ∨ (s.length : Int) ≤ i) :
    Calls Try.prog 21 #[.pointer (some ⟨p, 0, none⟩), .int .i64 i] w fun e w' => e = .returned (.slice none 0 0) ∧ Below w.heap.size w w' := by
  have HP := hid h
  have HI := hid hi
  clear h hi
  go_enter Try.func21, Try.ntmps21
  go_wp2_with (first | (go_at_call 26; refine (worker_none (HP.out.below (by repeat (first | (with_reducible exact Below.refl _ _) | (with_reducible exact bl_mm) | (with_reducible refine bl_dr ?_) | (with_reducible refine bl_drN ?_ _) | (with_reducible refine bl_al ?_ _) | (with_reducible refine bl_more ?_ _ _)))) i HI.out).mono ?_; rintro e w1 ⟨rfl, hb1⟩; obtain ⟨ex, dx, rfl⟩ := more_of hb1; clear hb1))
  go_ret
  exact ⟨rfl, (by repeat (first | (with_reducible exact Below.refl _ _) | (with_reducible exact bl_mm) | (with_reducible refine bl_dr ?_) | (with_reducible refine bl_drN ?_ _) | (with_reducible refine bl_al ?_ _) | (with_reducible refine bl_more ?_ _ _)))⟩
def Turned (N : Nat) (w : World) (p : Nat) (F : Nat → Prop) (ad : Nat → Ad) (s s' : List Wk) (c : Int) (e : Ending) (w' : World) : Prop := e = .returned (.int .i64 c) ∧ ∃ F' ad', Pl N w' F' p s' ad' ∧ Stp s s' p F F' ad ad' w w'
set_option maxHeartbeats 1000000 in
theorem ppush_any {N : Nat} {K0 : Nat → Prop} {w : World} {F : Nat → Prop} {p : Nat} {s : List Wk} {ad : Nat → Ad} {v : Value} {jb : Job} (h : Pl N w F p s ad) (i : Nat) (hi : i < s.length) (hv : intE.Row K0 w v jb.stamp) (hok : okJob jb) (hlt : s[i].l.length < 128) :
    Calls Try.prog 19 #[.pointer (some ⟨p, 0, none⟩), .int .i64 i, jobV jb v] w (Turned N w p F ad s (s.set i ⟨s[i].l ++ [jb], s[i].h⟩) 0) := by
  have hl := h.lt
  have q1 := (h.at_ i hi).dp
  obtain ⟨A, c, rfl, _, _⟩ := hv.form
  have HP := hid h
  have HI := hid (And.intro hi trivial)
  have HV := hid hv
  have HOK := hid hok
  have HLT := hid hlt
  clear h hv hok hlt
  go_enter Try.func19, Try.ntmps19
  go_wp2_with (first | ((with_reducible refine wp_region_plan (id := 4) (.eff [(false, 0), (false, 1), (false, 2), (false, 3), (false, 4)] 5 [] (.fin [(false, 6)])) ?_ ?_ ?_ ?_ ?_ ?_); kernel_rfl; kernel_rfl; kernel_rfl; kernel_rfl; (intro c a d v w h; cases d <;> exact h)) | (with_reducible refine wpPlan_eff ?_) | (with_reducible refine wpPlan_fin ?_) | (with_reducible refine wpPlan_two ?_) | (with_reducible refine wpOpPair ?_ ?_) | ((with_reducible apply wpPre_keep); rfl; intro K' hK'; go_simp; refine hK' _ _ ?_; intro f hf; clear hK' K') | ((with_reducible apply wpPre_drop); rfl; intro K' hK'; go_simp; refine hK' _ _ ?_; intro f; clear hK' K') | (with_reducible refine wpPre_nil ?_) | ((with_reducible apply wpOp_list); rfl) | (with_reducible refine heldPair ?_ ?_) | ((with_reducible refine heldH_no ?_ ?_); rfl) | (with_reducible refine heldH_yes ?_ ?_) | (with_reducible exact heldH_nil) | (unfold YAt; go_simp; done) | (go_at_call 26; refine (worker_any (HP.out.below (by repeat (first | (with_reducible exact Below.refl _ _) | (with_reducible exact bl_mm) | (with_reducible refine bl_dr ?_) | (with_reducible refine bl_drN ?_ _) | (with_reducible refine bl_al ?_ _) | (with_reducible refine bl_more ?_ _ _)))) i HI.out.1).mono ?_; rintro e w1 ⟨rfl, hb1⟩; obtain ⟨ex, dx, rfl⟩ := more_of hb1; clear hb1) | (go_at_call 40; refine (push_any (K0 := K0) ((HP.out.below (by repeat (first | (with_reducible exact Below.refl _ _) | (with_reducible exact bl_mm) | (with_reducible refine bl_dr ?_) | (with_reducible refine bl_drN ?_ _) | (with_reducible refine bl_al ?_ _) | (with_reducible refine bl_more ?_ _ _)))).at_ i HI.out.1).dq (HV.out.below (by repeat (first | (with_reducible exact Below.refl _ _) | (with_reducible exact bl_mm) | (with_reducible refine bl_dr ?_) | (with_reducible refine bl_drN ?_ _) | (with_reducible refine bl_al ?_ _) | (with_reducible refine bl_more ?_ _ _)))) HOK.out HLT.out).mono ?_; rintro e w1 ⟨g', rfl, hd, hu⟩; have HD := hid ((HP.out.below (by repeat (first | (with_reducible exact Below.refl _ _) | (with_reducible exact bl_mm) | (with_reducible refine bl_dr ?_) | (with_reducible refine bl_drN ?_ _) | (with_reducible refine bl_al ?_ _) | (with_reducible refine bl_more ?_ _ _)))).deq i HI.out.1 hd hu); have HB := hid (Pl.deqs (F := F) (p := p) (k := ⟨s[i].l ++ [jb], s[i].h⟩) i HI.out.1 hu); clear hd hu))
  go_ret
  exact ⟨rfl, _, _, HD.out, (Stp.of_below (by repeat (first | (with_reducible exact Below.refl _ _) | (with_reducible exact bl_mm) | (with_reducible refine bl_dr ?_) | (with_reducible refine bl_drN ?_ _) | (with_reducible refine bl_al ?_ _) | (with_reducible refine bl_more ?_ _ _)))).trans HB.out⟩
end Go.Proofs.Ytlfdnjomjheioaa
