/- The document's first code point of a text. -/
import Derived.Test.YthekoefcienipaaLxQ
import Derived.Test.YthekoefcienipaaDraw
namespace Go.Proofs.Ythekoefcienipaa
open Go.RowKit

def oneB (r : Nat) : ByteArray := if wid (r : Int) = 1 then ⟨#[b8 r]⟩ else if wid (r : Int) = 2 then ⟨(b8 (192 + r / 64 ^ 1) :: tl r 1).toArray⟩ else if wid (r : Int) = 3 then ⟨(b8 (224 + r / 64 ^ 2) :: tl r 2).toArray⟩ else ⟨(b8 (240 + r / 64 ^ 3) :: tl r 3).toArray⟩
theorem wid_1 {r : Nat} (h : wid (r : Int) = 1) : r < 128 := by
  unfold wid at h
  (repeat' split at h) <;> omega
theorem wid_is (r : Int) : wid r = 0 ∨ wid r = 1 ∨ wid r = 2 ∨ wid r = 3 ∨ wid r = 4 := by
  unfold wid
  (repeat' split) <;> simp
theorem one_any {w : World} {r : Nat} (h : wid (r : Int) ≠ 0) : Calls Try.prog 57 #[.int .i64 r] w fun e w' => e = .returned (.string (oneB r)) ∧ Below w.heap.size w w' := by
  unfold oneB
  by_cases h1 : wid (r : Int) = 1
  · rw [if_pos h1]; exact one_1 (wid_1 h1)
  · rw [if_neg h1]
    by_cases h2 : wid (r : Int) = 2
    · rw [if_pos h2]; exact one_2 h2
    · rw [if_neg h2]
      by_cases h3 : wid (r : Int) = 3
      · rw [if_pos h3]; exact one_3 h3
      · rw [if_neg h3]; exact one_4 (by have := wid_is r; omega)
def by_ (s : ByteArray) (i : Nat) : Nat := (s.get! i).toNat
/-- j more bytes taken to a number. -/
def cd (s : ByteArray) (b : Nat) : Nat → Nat
  | 0 => b
  | j + 1 => 64 * cd s b j + by_ s (j + 1) % 64
def base (s : ByteArray) (n : Nat) : Nat := if n = 1 then by_ s 0 else if n = 2 then by_ s 0 % 32 else if n = 3 then by_ s 0 % 16 else by_ s 0 % 8
def cand (s : ByteArray) (n : Nat) : Nat := cd s (base s n) (n - 1)
def okN (s : ByteArray) (n : Nat) : Bool := decide (wid (cand s n : Int) = n) && decide (oneB (cand s n) = s.extract 0 n)
def firstF (s : ByteArray) (n : Nat) : Int := if _h : n ≤ 4 then (if n ≤ s.size then (if okN s n = true then cand s n else firstF s (n + 1)) else -1) else -1
termination_by 5 - n
theorem by_lt (s : ByteArray) (i : Nat) : by_ s i < 256 := (s.get! i).toNat_lt
theorem by_get {s : ByteArray} {i : Nat} (h : i < s.size) : wrap64 ((s[i]'h).toNat : Int) = (by_ s i : Int) := by
  have e : s[i]'h = s.get! i := by
    have h' : i < s.data.size := h
    simp only [ByteArray.get!, Array.getElem!_eq_getD, Array.getD, h', dite_true]
    rfl
  rw [e]
  have := by_lt s i
  show wrap64 (by_ s i : Int) = _
  rw [wrap64]
  omega
theorem cd_next {s : ByteArray} {b q : Nat} (hq : 1 ≤ q) : cd s b (q + 1 - 1) = 64 * cd s b (q - 1) + by_ s q % 64 := by
  obtain ⟨j, rfl⟩ : ∃ j, q = j + 1 := ⟨q - 1, by omega⟩
  rfl
theorem cd_lt {s : ByteArray} {b j : Nat} (hb : b < 256) (hj : j ≤ 3) : cd s b j < 67108864 := by
  have h : j = 0 ∨ j = 1 ∨ j = 2 ∨ j = 3 := by omega
  rcases h with rfl | rfl | rfl | rfl <;> simp only [cd] <;> omega
def EqF (s : ByteArray) (n : Nat) : Prop := firstF s 1 = firstF s n
theorem eqs_t {a b : ByteArray} (h : a = b) : (a.toList == b.toList) = true := by rw [h]; simp
theorem eqs_f {a b : ByteArray} (h : a ≠ b) : (a.toList == b.toList) = false := by
  rw [beq_eq_false_iff_ne]
  exact fun h' => h (ByteArray.ext (Array.ext' (by rw [← ByteArray.toList_eq, ← ByteArray.toList_eq]; exact h')))
set_option maxHeartbeats 4000000 in
theorem first_any {w : World} {s : ByteArray} (hs : 1 ≤ s.size) : Calls Try.prog 50 #[.string s] w fun e w' => e = .returned (.int .i64 (firstF s 1)) ∧ Below w.heap.size w w' := by
  have hs0 : (0 : Int) < s.size := by omega
  have HS := hid hs
  have h0 : 0 < s.size := hs
  clear hs
  go_enter Try.func50, Try.ntmps50
  go_wp2_with (first | ((with_reducible refine wp_region_plan (id := 11) (.eff [(false, 0), (true, 2)] 1 [2] (.eff [(false, 3), (false, 4), (false, 5), (true, 7), (true, 8), (true, 9)] 6 [7, 8, 9] (.fin [(false, 10), (false, 11)]))) ?_ ?_ ?_ ?_ ?_ ?_); kernel_rfl; kernel_rfl; kernel_rfl; kernel_rfl; (intro c a d v w h; cases d <;> exact h)) | (with_reducible refine wpPlan_eff ?_) | (with_reducible refine wpPlan_fin ?_) | (with_reducible refine wpPlan_two ?_) | (with_reducible refine wpOpPair ?_ ?_) | ((with_reducible apply wpPre_keep); rfl; intro K' hK'; go_simp; refine hK' _ _ ?_; intro f hf; clear hK' K') | ((with_reducible apply wpPre_drop); rfl; intro K' hK'; go_simp; refine hK' _ _ ?_; intro f; clear hK' K') | (with_reducible refine wpPre_nil ?_) | ((with_reducible apply wpOp_list); rfl) | (with_reducible refine heldPair ?_ ?_) | ((with_reducible refine heldH_no ?_ ?_); rfl) | (with_reducible refine heldH_yes ?_ ?_) | (with_reducible exact heldH_nil) | (unfold YAt; go_simp; done))
  go_loopg [3] 4 (fun k vn wr => ∃ m : Nat, m + k = 5 ∧ 1 ≤ m ∧ vn = .int .i64 (m : Int) ∧ EqF s m ∧ ∃ ex dx, wr = more w ex dx)
  case atStart => exact ⟨1, by omega, by omega, rfl, rfl, more_of (Below.refl _ _)⟩
  case round =>
    obtain ⟨m, hk, hm, rfl, hf, ex, dx, rfl⟩ := hrel
    have HF := hid hf
    have HGK := hid hk
    clear hf
    have hcs : m = 5 ∨ m = 1 ∨ m = 2 ∨ m = 3 ∨ m = 4 := by omega
    rcases hcs with rfl | rfl | rfl | rfl | rfl
    · clear hk hm
      go_wp2_with (first | ((with_reducible refine wp_region_plan (id := 11) (.eff [(false, 0), (true, 2)] 1 [2] (.eff [(false, 3), (false, 4), (false, 5), (true, 7), (true, 8), (true, 9)] 6 [7, 8, 9] (.fin [(false, 10), (false, 11)]))) ?_ ?_ ?_ ?_ ?_ ?_); kernel_rfl; kernel_rfl; kernel_rfl; kernel_rfl; (intro c a d v w h; cases d <;> exact h)) | (with_reducible refine wpPlan_eff ?_) | (with_reducible refine wpPlan_fin ?_) | (with_reducible refine wpPlan_two ?_) | (with_reducible refine wpOpPair ?_ ?_) | ((with_reducible apply wpPre_keep); rfl; intro K' hK'; go_simp; refine hK' _ _ ?_; intro f hf; clear hK' K') | ((with_reducible apply wpPre_drop); rfl; intro K' hK'; go_simp; refine hK' _ _ ?_; intro f; clear hK' K') | (with_reducible refine wpPre_nil ?_) | ((with_reducible apply wpOp_list); rfl) | (with_reducible refine heldPair ?_ ?_) | ((with_reducible refine heldH_no ?_ ?_); rfl) | (with_reducible refine heldH_yes ?_ ?_) | (with_reducible exact heldH_nil) | (unfold YAt; go_simp; done))
      go_ret
      refine ⟨?_, (by repeat (first | (with_reducible exact Below.refl _ _) | (with_reducible exact bl_mm) | (with_reducible refine bl_dr ?_) | (with_reducible refine bl_drN ?_ _) | (with_reducible refine bl_al ?_ _) | (with_reducible refine bl_more ?_ _ _)))⟩
      rw [show firstF s 1 = _ from HF.out, firstF, dif_neg (by decide)]
      rfl

    · by_cases hsz : 1 ≤ s.size
      · have HZ := hid hsz
        have hsz' : (1 : Int) ≤ s.size := by omega
        have hwb : wrap64 ((s[0]'h0).toNat : Int) = (by_ s 0 : Int) := by_get h0
        have hb8 := by_lt s 0
        obtain ⟨b0, hb0⟩ : ∃ b, by_ s 0 = b := ⟨_, rfl⟩
        rw [hb0] at hwb hb8
        have hmd : (b0 : Int).tmod 64 = ((b0 % 64 : Nat) : Int) := rfl
        have hbs : base s 1 = b0 := by unfold base; rw [hb0]; rfl
        have HB := hid hbs
        have HWB := hid hwb
        have hbl : base s 1 < 256 := by rw [hbs]; omega
        have HBL := hid hbl
        clear hk hm hsz hb8 hb0 hbs hbl
        go_wp2_with (first | ((with_reducible refine wp_region_plan (id := 11) (.eff [(false, 0), (true, 2)] 1 [2] (.eff [(false, 3), (false, 4), (false, 5), (true, 7), (true, 8), (true, 9)] 6 [7, 8, 9] (.fin [(false, 10), (false, 11)]))) ?_ ?_ ?_ ?_ ?_ ?_); kernel_rfl; kernel_rfl; kernel_rfl; kernel_rfl; (intro c a d v w h; cases d <;> exact h)) | (with_reducible refine wpPlan_eff ?_) | (with_reducible refine wpPlan_fin ?_) | (with_reducible refine wpPlan_two ?_) | (with_reducible refine wpOpPair ?_ ?_) | ((with_reducible apply wpPre_keep); rfl; intro K' hK'; go_simp; refine hK' _ _ ?_; intro f hf; clear hK' K') | ((with_reducible apply wpPre_drop); rfl; intro K' hK'; go_simp; refine hK' _ _ ?_; intro f; clear hK' K') | (with_reducible refine wpPre_nil ?_) | ((with_reducible apply wpOp_list); rfl) | (with_reducible refine heldPair ?_ ?_) | ((with_reducible refine heldH_no ?_ ?_); rfl) | (with_reducible refine heldH_yes ?_ ?_) | (with_reducible exact heldH_nil) | (unfold YAt; go_simp; done))
        go_loopg [4, 5] 0 (fun k vr vi wr => ∃ q : Nat, q + k = 1 ∧ 1 ≤ q ∧ vr = .int .i64 (cd s (base s 1) (q - 1) : Nat) ∧ vi = .int .i64 (q : Int) ∧ ∃ ex dx, wr = more w ex dx)
        case atStart => exact ⟨1, by omega, by omega, by rw [HB.out]; first | rfl | (rw [HWB.out]; rfl), rfl, more_of (by repeat (first | (with_reducible exact Below.refl _ _) | (with_reducible exact bl_mm) | (with_reducible refine bl_dr ?_) | (with_reducible refine bl_drN ?_ _) | (with_reducible refine bl_al ?_ _) | (with_reducible refine bl_more ?_ _ _)))⟩
        case round =>
          obtain ⟨q, hk, hq, rfl, rfl, ex1, dx1, rfl⟩ := hrel
          have HK := hid hk
          by_cases hqn : q < 1
          · have hq1 : (q : Int) < 1 := by omega
            have hq2 : (0 : Int) ≤ q := by omega
            have hqs : q < s.size := by have := HZ.out; omega
            have hqs' : (q : Int) < s.size := by omega
            have hwq : wrap64 ((s[q]'hqs).toNat : Int) = (by_ s q : Int) := by_get hqs
            have hcl : cd s (base s 1) (q - 1) < 67108864 := cd_lt HBL.out (by omega)
            have hcn : cd s (base s 1) (q + 1 - 1) = 64 * cd s (base s 1) (q - 1) + by_ s q % 64 := cd_next hq
            have HCN := hid hcn
            clear hk hq hqn hcn
            go_wp2_with (first | ((with_reducible refine wp_region_plan (id := 11) (.eff [(false, 0), (true, 2)] 1 [2] (.eff [(false, 3), (false, 4), (false, 5), (true, 7), (true, 8), (true, 9)] 6 [7, 8, 9] (.fin [(false, 10), (false, 11)]))) ?_ ?_ ?_ ?_ ?_ ?_); kernel_rfl; kernel_rfl; kernel_rfl; kernel_rfl; (intro c a d v w h; cases d <;> exact h)) | (with_reducible refine wpPlan_eff ?_) | (with_reducible refine wpPlan_fin ?_) | (with_reducible refine wpPlan_two ?_) | (with_reducible refine wpOpPair ?_ ?_) | ((with_reducible apply wpPre_keep); rfl; intro K' hK'; go_simp; refine hK' _ _ ?_; intro f hf; clear hK' K') | ((with_reducible apply wpPre_drop); rfl; intro K' hK'; go_simp; refine hK' _ _ ?_; intro f; clear hK' K') | (with_reducible refine wpPre_nil ?_) | ((with_reducible apply wpOp_list); rfl) | (with_reducible refine heldPair ?_ ?_) | ((with_reducible refine heldH_no ?_ ?_); rfl) | (with_reducible refine heldH_yes ?_ ?_) | (with_reducible exact heldH_nil) | (unfold YAt; go_simp; done))
            go_roundg (1 - (q + 1))
            case measure => have := HK.out; omega
            case rel => exact ⟨q + 1, by have := HK.out; omega, by omega, by rw [HCN.out]; push_cast; rfl, by push_cast; rfl, more_of (by repeat (first | (with_reducible exact Below.refl _ _) | (with_reducible exact bl_mm) | (with_reducible refine bl_dr ?_) | (with_reducible refine bl_drN ?_ _) | (with_reducible refine bl_al ?_ _) | (with_reducible refine bl_more ?_ _ _)))⟩
          · have hqe : q = 1 := by omega
            subst hqe
            clear hk hq hqn
            have hcc : cd s (base s 1) (1 - 1) = cand s 1 := rfl
            rw [hcc]
            have HOK := hid (show okN s 1 = (decide (wid (cand s 1 : Int) = 1) && decide (oneB (cand s 1) = s.extract 0 1)) from rfl)
            have HN : Hid (∀ b, okN s 1 = b → firstF s 1 = if b = true then (cand s 1 : Int) else firstF s (1 + 1)) := hid (fun b hb => by rw [show firstF s 1 = _ from HF.out, firstF, dif_pos (by decide), if_pos HZ.out, hb])
            clear hcc
            obtain ⟨c, hc⟩ : ∃ c, cand s 1 = c := ⟨_, rfl⟩
            rw [hc] at HOK HN ⊢
            clear hc
            by_cases hw : wid (c : Int) = 1
            · have HW0 : Hid (wid (c : Int) ≠ 0) := hid (by rw [hw]; decide)
              by_cases ho : oneB c = s.extract 0 1
              · have hoe := eqs_t ho
                have HR : Hid (firstF s 1 = (c : Int)) := hid (HN.out true (by rw [HOK.out, decide_eq_true hw, decide_eq_true ho]; rfl))
                clear ho HOK HN
                go_wp2_with (first | ((with_reducible refine wp_region_plan (id := 11) (.eff [(false, 0), (true, 2)] 1 [2] (.eff [(false, 3), (false, 4), (false, 5), (true, 7), (true, 8), (true, 9)] 6 [7, 8, 9] (.fin [(false, 10), (false, 11)]))) ?_ ?_ ?_ ?_ ?_ ?_); kernel_rfl; kernel_rfl; kernel_rfl; kernel_rfl; (intro c a d v w h; cases d <;> exact h)) | (with_reducible refine wpPlan_eff ?_) | (with_reducible refine wpPlan_fin ?_) | (with_reducible refine wpPlan_two ?_) | (with_reducible refine wpOpPair ?_ ?_) | ((with_reducible apply wpPre_keep); rfl; intro K' hK'; go_simp; refine hK' _ _ ?_; intro f hf; clear hK' K') | ((with_reducible apply wpPre_drop); rfl; intro K' hK'; go_simp; refine hK' _ _ ?_; intro f; clear hK' K') | (with_reducible refine wpPre_nil ?_) | ((with_reducible apply wpOp_list); rfl) | (with_reducible refine heldPair ?_ ?_) | ((with_reducible refine heldH_no ?_ ?_); rfl) | (with_reducible refine heldH_yes ?_ ?_) | (with_reducible exact heldH_nil) | (unfold YAt; go_simp; done) | (go_at_call 44; refine wid_any.mono ?_; rintro e w1 ⟨rfl, rfl⟩) | (go_at_call 57; refine (one_any HW0.out).mono ?_; rintro e w2 ⟨rfl, hb2⟩; obtain ⟨ex2, dx2, rfl⟩ := more_of hb2; clear hb2))
                go_ret
                exact ⟨by rw [HR.out]; rfl, (by repeat (first | (with_reducible exact Below.refl _ _) | (with_reducible exact bl_mm) | (with_reducible refine bl_dr ?_) | (with_reducible refine bl_drN ?_ _) | (with_reducible refine bl_al ?_ _) | (with_reducible refine bl_more ?_ _ _)))⟩
              · have hoe := eqs_f ho
                have HR : Hid (EqF s (1 + 1)) := hid (HN.out false (by rw [HOK.out, decide_eq_false ho]; simp))
                clear ho HOK HN
                go_wp2_with (first | ((with_reducible refine wp_region_plan (id := 11) (.eff [(false, 0), (true, 2)] 1 [2] (.eff [(false, 3), (false, 4), (false, 5), (true, 7), (true, 8), (true, 9)] 6 [7, 8, 9] (.fin [(false, 10), (false, 11)]))) ?_ ?_ ?_ ?_ ?_ ?_); kernel_rfl; kernel_rfl; kernel_rfl; kernel_rfl; (intro c a d v w h; cases d <;> exact h)) | (with_reducible refine wpPlan_eff ?_) | (with_reducible refine wpPlan_fin ?_) | (with_reducible refine wpPlan_two ?_) | (with_reducible refine wpOpPair ?_ ?_) | ((with_reducible apply wpPre_keep); rfl; intro K' hK'; go_simp; refine hK' _ _ ?_; intro f hf; clear hK' K') | ((with_reducible apply wpPre_drop); rfl; intro K' hK'; go_simp; refine hK' _ _ ?_; intro f; clear hK' K') | (with_reducible refine wpPre_nil ?_) | ((with_reducible apply wpOp_list); rfl) | (with_reducible refine heldPair ?_ ?_) | ((with_reducible refine heldH_no ?_ ?_); rfl) | (with_reducible refine heldH_yes ?_ ?_) | (with_reducible exact heldH_nil) | (unfold YAt; go_simp; done) | (go_at_call 44; refine wid_any.mono ?_; rintro e w1 ⟨rfl, rfl⟩) | (go_at_call 57; refine (one_any HW0.out).mono ?_; rintro e w2 ⟨rfl, hb2⟩; obtain ⟨ex2, dx2, rfl⟩ := more_of hb2; clear hb2))
                go_roundg (5 - (1 + 1))
                case measure => have := HGK.out; omega
                case rel => exact ⟨1 + 1, by omega, by omega, rfl, HR.out, more_of (by repeat (first | (with_reducible exact Below.refl _ _) | (with_reducible exact bl_mm) | (with_reducible refine bl_dr ?_) | (with_reducible refine bl_drN ?_ _) | (with_reducible refine bl_al ?_ _) | (with_reducible refine bl_more ?_ _ _)))⟩
            · have hwe : (wid (c : Int) == 1) = false := beq_eq_false_iff_ne.2 hw
              have HR : Hid (EqF s (1 + 1)) := hid (HN.out false (by rw [HOK.out, decide_eq_false hw]; rfl))
              clear hw HOK HN
              go_wp2_with (first | ((with_reducible refine wp_region_plan (id := 11) (.eff [(false, 0), (true, 2)] 1 [2] (.eff [(false, 3), (false, 4), (false, 5), (true, 7), (true, 8), (true, 9)] 6 [7, 8, 9] (.fin [(false, 10), (false, 11)]))) ?_ ?_ ?_ ?_ ?_ ?_); kernel_rfl; kernel_rfl; kernel_rfl; kernel_rfl; (intro c a d v w h; cases d <;> exact h)) | (with_reducible refine wpPlan_eff ?_) | (with_reducible refine wpPlan_fin ?_) | (with_reducible refine wpPlan_two ?_) | (with_reducible refine wpOpPair ?_ ?_) | ((with_reducible apply wpPre_keep); rfl; intro K' hK'; go_simp; refine hK' _ _ ?_; intro f hf; clear hK' K') | ((with_reducible apply wpPre_drop); rfl; intro K' hK'; go_simp; refine hK' _ _ ?_; intro f; clear hK' K') | (with_reducible refine wpPre_nil ?_) | ((with_reducible apply wpOp_list); rfl) | (with_reducible refine heldPair ?_ ?_) | ((with_reducible refine heldH_no ?_ ?_); rfl) | (with_reducible refine heldH_yes ?_ ?_) | (with_reducible exact heldH_nil) | (unfold YAt; go_simp; done) | (go_at_call 44; refine wid_any.mono ?_; rintro e w1 ⟨rfl, rfl⟩) | (go_at_call 57; refine (one_any HW0.out).mono ?_; rintro e w2 ⟨rfl, hb2⟩; obtain ⟨ex2, dx2, rfl⟩ := more_of hb2; clear hb2))
              go_roundg (5 - (1 + 1))
              case measure => have := HGK.out; omega
              case rel => exact ⟨1 + 1, by omega, by omega, rfl, HR.out, more_of (by repeat (first | (with_reducible exact Below.refl _ _) | (with_reducible exact bl_mm) | (with_reducible refine bl_dr ?_) | (with_reducible refine bl_drN ?_ _) | (with_reducible refine bl_al ?_ _) | (with_reducible refine bl_more ?_ _ _)))⟩
      · have hsz' : decide ((1 : Int) ≤ s.size) = false := by rw [decide_eq_false_iff_not]; omega
        have HZ := hid hsz
        clear hk hm hsz
        go_wp2_with (first | ((with_reducible refine wp_region_plan (id := 11) (.eff [(false, 0), (true, 2)] 1 [2] (.eff [(false, 3), (false, 4), (false, 5), (true, 7), (true, 8), (true, 9)] 6 [7, 8, 9] (.fin [(false, 10), (false, 11)]))) ?_ ?_ ?_ ?_ ?_ ?_); kernel_rfl; kernel_rfl; kernel_rfl; kernel_rfl; (intro c a d v w h; cases d <;> exact h)) | (with_reducible refine wpPlan_eff ?_) | (with_reducible refine wpPlan_fin ?_) | (with_reducible refine wpPlan_two ?_) | (with_reducible refine wpOpPair ?_ ?_) | ((with_reducible apply wpPre_keep); rfl; intro K' hK'; go_simp; refine hK' _ _ ?_; intro f hf; clear hK' K') | ((with_reducible apply wpPre_drop); rfl; intro K' hK'; go_simp; refine hK' _ _ ?_; intro f; clear hK' K') | (with_reducible refine wpPre_nil ?_) | ((with_reducible apply wpOp_list); rfl) | (with_reducible refine heldPair ?_ ?_) | ((with_reducible refine heldH_no ?_ ?_); rfl) | (with_reducible refine heldH_yes ?_ ?_) | (with_reducible exact heldH_nil) | (unfold YAt; go_simp; done))
        go_ret
        refine ⟨?_, (by repeat (first | (with_reducible exact Below.refl _ _) | (with_reducible exact bl_mm) | (with_reducible refine bl_dr ?_) | (with_reducible refine bl_drN ?_ _) | (with_reducible refine bl_al ?_ _) | (with_reducible refine bl_more ?_ _ _)))⟩
        rw [show firstF s 1 = _ from HF.out, firstF, dif_pos (by decide), if_neg HZ.out]
        rfl

    · by_cases hsz : 2 ≤ s.size
      · have HZ := hid hsz
        have hsz' : (2 : Int) ≤ s.size := by omega
        have hwb : wrap64 ((s[0]'h0).toNat : Int) = (by_ s 0 : Int) := by_get h0
        have hb8 := by_lt s 0
        obtain ⟨b0, hb0⟩ : ∃ b, by_ s 0 = b := ⟨_, rfl⟩
        rw [hb0] at hwb hb8
        have hmd : (b0 : Int).tmod 32 = ((b0 % 32 : Nat) : Int) := rfl
        have hbs : base s 2 = b0 % 32 := by unfold base; rw [hb0]; rfl
        have HB := hid hbs
        have HWB := hid hwb
        have hbl : base s 2 < 256 := by rw [hbs]; omega
        have HBL := hid hbl
        clear hk hm hsz hb8 hb0 hbs hbl
        go_wp2_with (first | ((with_reducible refine wp_region_plan (id := 11) (.eff [(false, 0), (true, 2)] 1 [2] (.eff [(false, 3), (false, 4), (false, 5), (true, 7), (true, 8), (true, 9)] 6 [7, 8, 9] (.fin [(false, 10), (false, 11)]))) ?_ ?_ ?_ ?_ ?_ ?_); kernel_rfl; kernel_rfl; kernel_rfl; kernel_rfl; (intro c a d v w h; cases d <;> exact h)) | (with_reducible refine wpPlan_eff ?_) | (with_reducible refine wpPlan_fin ?_) | (with_reducible refine wpPlan_two ?_) | (with_reducible refine wpOpPair ?_ ?_) | ((with_reducible apply wpPre_keep); rfl; intro K' hK'; go_simp; refine hK' _ _ ?_; intro f hf; clear hK' K') | ((with_reducible apply wpPre_drop); rfl; intro K' hK'; go_simp; refine hK' _ _ ?_; intro f; clear hK' K') | (with_reducible refine wpPre_nil ?_) | ((with_reducible apply wpOp_list); rfl) | (with_reducible refine heldPair ?_ ?_) | ((with_reducible refine heldH_no ?_ ?_); rfl) | (with_reducible refine heldH_yes ?_ ?_) | (with_reducible exact heldH_nil) | (unfold YAt; go_simp; done))
        go_loopg [4, 5] 1 (fun k vr vi wr => ∃ q : Nat, q + k = 2 ∧ 1 ≤ q ∧ vr = .int .i64 (cd s (base s 2) (q - 1) : Nat) ∧ vi = .int .i64 (q : Int) ∧ ∃ ex dx, wr = more w ex dx)
        case atStart => exact ⟨1, by omega, by omega, by rw [HB.out]; first | rfl | (rw [HWB.out]; rfl), rfl, more_of (by repeat (first | (with_reducible exact Below.refl _ _) | (with_reducible exact bl_mm) | (with_reducible refine bl_dr ?_) | (with_reducible refine bl_drN ?_ _) | (with_reducible refine bl_al ?_ _) | (with_reducible refine bl_more ?_ _ _)))⟩
        case round =>
          obtain ⟨q, hk, hq, rfl, rfl, ex1, dx1, rfl⟩ := hrel
          have HK := hid hk
          by_cases hqn : q < 2
          · have hq1 : (q : Int) < 2 := by omega
            have hq2 : (0 : Int) ≤ q := by omega
            have hqs : q < s.size := by have := HZ.out; omega
            have hqs' : (q : Int) < s.size := by omega
            have hwq : wrap64 ((s[q]'hqs).toNat : Int) = (by_ s q : Int) := by_get hqs
            have hcl : cd s (base s 2) (q - 1) < 67108864 := cd_lt HBL.out (by omega)
            have hcn : cd s (base s 2) (q + 1 - 1) = 64 * cd s (base s 2) (q - 1) + by_ s q % 64 := cd_next hq
            have HCN := hid hcn
            clear hk hq hqn hcn
            go_wp2_with (first | ((with_reducible refine wp_region_plan (id := 11) (.eff [(false, 0), (true, 2)] 1 [2] (.eff [(false, 3), (false, 4), (false, 5), (true, 7), (true, 8), (true, 9)] 6 [7, 8, 9] (.fin [(false, 10), (false, 11)]))) ?_ ?_ ?_ ?_ ?_ ?_); kernel_rfl; kernel_rfl; kernel_rfl; kernel_rfl; (intro c a d v w h; cases d <;> exact h)) | (with_reducible refine wpPlan_eff ?_) | (with_reducible refine wpPlan_fin ?_) | (with_reducible refine wpPlan_two ?_) | (with_reducible refine wpOpPair ?_ ?_) | ((with_reducible apply wpPre_keep); rfl; intro K' hK'; go_simp; refine hK' _ _ ?_; intro f hf; clear hK' K') | ((with_reducible apply wpPre_drop); rfl; intro K' hK'; go_simp; refine hK' _ _ ?_; intro f; clear hK' K') | (with_reducible refine wpPre_nil ?_) | ((with_reducible apply wpOp_list); rfl) | (with_reducible refine heldPair ?_ ?_) | ((with_reducible refine heldH_no ?_ ?_); rfl) | (with_reducible refine heldH_yes ?_ ?_) | (with_reducible exact heldH_nil) | (unfold YAt; go_simp; done))
            go_roundg (2 - (q + 1))
            case measure => have := HK.out; omega
            case rel => exact ⟨q + 1, by have := HK.out; omega, by omega, by rw [HCN.out]; push_cast; rfl, by push_cast; rfl, more_of (by repeat (first | (with_reducible exact Below.refl _ _) | (with_reducible exact bl_mm) | (with_reducible refine bl_dr ?_) | (with_reducible refine bl_drN ?_ _) | (with_reducible refine bl_al ?_ _) | (with_reducible refine bl_more ?_ _ _)))⟩
          · have hqe : q = 2 := by omega
            subst hqe
            clear hk hq hqn
            have hcc : cd s (base s 2) (2 - 1) = cand s 2 := rfl
            rw [hcc]
            have HOK := hid (show okN s 2 = (decide (wid (cand s 2 : Int) = 2) && decide (oneB (cand s 2) = s.extract 0 2)) from rfl)
            have HN : Hid (∀ b, okN s 2 = b → firstF s 1 = if b = true then (cand s 2 : Int) else firstF s (2 + 1)) := hid (fun b hb => by rw [show firstF s 1 = _ from HF.out, firstF, dif_pos (by decide), if_pos HZ.out, hb])
            clear hcc
            obtain ⟨c, hc⟩ : ∃ c, cand s 2 = c := ⟨_, rfl⟩
            rw [hc] at HOK HN ⊢
            clear hc
            by_cases hw : wid (c : Int) = 2
            · have HW0 : Hid (wid (c : Int) ≠ 0) := hid (by rw [hw]; decide)
              by_cases ho : oneB c = s.extract 0 2
              · have hoe := eqs_t ho
                have HR : Hid (firstF s 1 = (c : Int)) := hid (HN.out true (by rw [HOK.out, decide_eq_true hw, decide_eq_true ho]; rfl))
                clear ho HOK HN
                go_wp2_with (first | ((with_reducible refine wp_region_plan (id := 11) (.eff [(false, 0), (true, 2)] 1 [2] (.eff [(false, 3), (false, 4), (false, 5), (true, 7), (true, 8), (true, 9)] 6 [7, 8, 9] (.fin [(false, 10), (false, 11)]))) ?_ ?_ ?_ ?_ ?_ ?_); kernel_rfl; kernel_rfl; kernel_rfl; kernel_rfl; (intro c a d v w h; cases d <;> exact h)) | (with_reducible refine wpPlan_eff ?_) | (with_reducible refine wpPlan_fin ?_) | (with_reducible refine wpPlan_two ?_) | (with_reducible refine wpOpPair ?_ ?_) | ((with_reducible apply wpPre_keep); rfl; intro K' hK'; go_simp; refine hK' _ _ ?_; intro f hf; clear hK' K') | ((with_reducible apply wpPre_drop); rfl; intro K' hK'; go_simp; refine hK' _ _ ?_; intro f; clear hK' K') | (with_reducible refine wpPre_nil ?_) | ((with_reducible apply wpOp_list); rfl) | (with_reducible refine heldPair ?_ ?_) | ((with_reducible refine heldH_no ?_ ?_); rfl) | (with_reducible refine heldH_yes ?_ ?_) | (with_reducible exact heldH_nil) | (unfold YAt; go_simp; done) | (go_at_call 44; refine wid_any.mono ?_; rintro e w1 ⟨rfl, rfl⟩) | (go_at_call 57; refine (one_any HW0.out).mono ?_; rintro e w2 ⟨rfl, hb2⟩; obtain ⟨ex2, dx2, rfl⟩ := more_of hb2; clear hb2))
                go_ret
                exact ⟨by rw [HR.out]; rfl, (by repeat (first | (with_reducible exact Below.refl _ _) | (with_reducible exact bl_mm) | (with_reducible refine bl_dr ?_) | (with_reducible refine bl_drN ?_ _) | (with_reducible refine bl_al ?_ _) | (with_reducible refine bl_more ?_ _ _)))⟩
              · have hoe := eqs_f ho
                have HR : Hid (EqF s (2 + 1)) := hid (HN.out false (by rw [HOK.out, decide_eq_false ho]; simp))
                clear ho HOK HN
                go_wp2_with (first | ((with_reducible refine wp_region_plan (id := 11) (.eff [(false, 0), (true, 2)] 1 [2] (.eff [(false, 3), (false, 4), (false, 5), (true, 7), (true, 8), (true, 9)] 6 [7, 8, 9] (.fin [(false, 10), (false, 11)]))) ?_ ?_ ?_ ?_ ?_ ?_); kernel_rfl; kernel_rfl; kernel_rfl; kernel_rfl; (intro c a d v w h; cases d <;> exact h)) | (with_reducible refine wpPlan_eff ?_) | (with_reducible refine wpPlan_fin ?_) | (with_reducible refine wpPlan_two ?_) | (with_reducible refine wpOpPair ?_ ?_) | ((with_reducible apply wpPre_keep); rfl; intro K' hK'; go_simp; refine hK' _ _ ?_; intro f hf; clear hK' K') | ((with_reducible apply wpPre_drop); rfl; intro K' hK'; go_simp; refine hK' _ _ ?_; intro f; clear hK' K') | (with_reducible refine wpPre_nil ?_) | ((with_reducible apply wpOp_list); rfl) | (with_reducible refine heldPair ?_ ?_) | ((with_reducible refine heldH_no ?_ ?_); rfl) | (with_reducible refine heldH_yes ?_ ?_) | (with_reducible exact heldH_nil) | (unfold YAt; go_simp; done) | (go_at_call 44; refine wid_any.mono ?_; rintro e w1 ⟨rfl, rfl⟩) | (go_at_call 57; refine (one_any HW0.out).mono ?_; rintro e w2 ⟨rfl, hb2⟩; obtain ⟨ex2, dx2, rfl⟩ := more_of hb2; clear hb2))
                go_roundg (5 - (2 + 1))
                case measure => have := HGK.out; omega
                case rel => exact ⟨2 + 1, by omega, by omega, rfl, HR.out, more_of (by repeat (first | (with_reducible exact Below.refl _ _) | (with_reducible exact bl_mm) | (with_reducible refine bl_dr ?_) | (with_reducible refine bl_drN ?_ _) | (with_reducible refine bl_al ?_ _) | (with_reducible refine bl_more ?_ _ _)))⟩
            · have hwe : (wid (c : Int) == 2) = false := beq_eq_false_iff_ne.2 hw
              have HR : Hid (EqF s (2 + 1)) := hid (HN.out false (by rw [HOK.out, decide_eq_false hw]; rfl))
              clear hw HOK HN
              go_wp2_with (first | ((with_reducible refine wp_region_plan (id := 11) (.eff [(false, 0), (true, 2)] 1 [2] (.eff [(false, 3), (false, 4), (false, 5), (true, 7), (true, 8), (true, 9)] 6 [7, 8, 9] (.fin [(false, 10), (false, 11)]))) ?_ ?_ ?_ ?_ ?_ ?_); kernel_rfl; kernel_rfl; kernel_rfl; kernel_rfl; (intro c a d v w h; cases d <;> exact h)) | (with_reducible refine wpPlan_eff ?_) | (with_reducible refine wpPlan_fin ?_) | (with_reducible refine wpPlan_two ?_) | (with_reducible refine wpOpPair ?_ ?_) | ((with_reducible apply wpPre_keep); rfl; intro K' hK'; go_simp; refine hK' _ _ ?_; intro f hf; clear hK' K') | ((with_reducible apply wpPre_drop); rfl; intro K' hK'; go_simp; refine hK' _ _ ?_; intro f; clear hK' K') | (with_reducible refine wpPre_nil ?_) | ((with_reducible apply wpOp_list); rfl) | (with_reducible refine heldPair ?_ ?_) | ((with_reducible refine heldH_no ?_ ?_); rfl) | (with_reducible refine heldH_yes ?_ ?_) | (with_reducible exact heldH_nil) | (unfold YAt; go_simp; done) | (go_at_call 44; refine wid_any.mono ?_; rintro e w1 ⟨rfl, rfl⟩) | (go_at_call 57; refine (one_any HW0.out).mono ?_; rintro e w2 ⟨rfl, hb2⟩; obtain ⟨ex2, dx2, rfl⟩ := more_of hb2; clear hb2))
              go_roundg (5 - (2 + 1))
              case measure => have := HGK.out; omega
              case rel => exact ⟨2 + 1, by omega, by omega, rfl, HR.out, more_of (by repeat (first | (with_reducible exact Below.refl _ _) | (with_reducible exact bl_mm) | (with_reducible refine bl_dr ?_) | (with_reducible refine bl_drN ?_ _) | (with_reducible refine bl_al ?_ _) | (with_reducible refine bl_more ?_ _ _)))⟩
      · have hsz' : decide ((2 : Int) ≤ s.size) = false := by rw [decide_eq_false_iff_not]; omega
        have HZ := hid hsz
        clear hk hm hsz
        go_wp2_with (first | ((with_reducible refine wp_region_plan (id := 11) (.eff [(false, 0), (true, 2)] 1 [2] (.eff [(false, 3), (false, 4), (false, 5), (true, 7), (true, 8), (true, 9)] 6 [7, 8, 9] (.fin [(false, 10), (false, 11)]))) ?_ ?_ ?_ ?_ ?_ ?_); kernel_rfl; kernel_rfl; kernel_rfl; kernel_rfl; (intro c a d v w h; cases d <;> exact h)) | (with_reducible refine wpPlan_eff ?_) | (with_reducible refine wpPlan_fin ?_) | (with_reducible refine wpPlan_two ?_) | (with_reducible refine wpOpPair ?_ ?_) | ((with_reducible apply wpPre_keep); rfl; intro K' hK'; go_simp; refine hK' _ _ ?_; intro f hf; clear hK' K') | ((with_reducible apply wpPre_drop); rfl; intro K' hK'; go_simp; refine hK' _ _ ?_; intro f; clear hK' K') | (with_reducible refine wpPre_nil ?_) | ((with_reducible apply wpOp_list); rfl) | (with_reducible refine heldPair ?_ ?_) | ((with_reducible refine heldH_no ?_ ?_); rfl) | (with_reducible refine heldH_yes ?_ ?_) | (with_reducible exact heldH_nil) | (unfold YAt; go_simp; done))
        go_ret
        refine ⟨?_, (by repeat (first | (with_reducible exact Below.refl _ _) | (with_reducible exact bl_mm) | (with_reducible refine bl_dr ?_) | (with_reducible refine bl_drN ?_ _) | (with_reducible refine bl_al ?_ _) | (with_reducible refine bl_more ?_ _ _)))⟩
        rw [show firstF s 1 = _ from HF.out, firstF, dif_pos (by decide), if_neg HZ.out]
        rfl

    · by_cases hsz : 3 ≤ s.size
      · have HZ := hid hsz
        have hsz' : (3 : Int) ≤ s.size := by omega
        have hwb : wrap64 ((s[0]'h0).toNat : Int) = (by_ s 0 : Int) := by_get h0
        have hb8 := by_lt s 0
        obtain ⟨b0, hb0⟩ : ∃ b, by_ s 0 = b := ⟨_, rfl⟩
        rw [hb0] at hwb hb8
        have hmd : (b0 : Int).tmod 16 = ((b0 % 16 : Nat) : Int) := rfl
        have hbs : base s 3 = b0 % 16 := by unfold base; rw [hb0]; rfl
        have HB := hid hbs
        have HWB := hid hwb
        have hbl : base s 3 < 256 := by rw [hbs]; omega
        have HBL := hid hbl
        clear hk hm hsz hb8 hb0 hbs hbl
        go_wp2_with (first | ((with_reducible refine wp_region_plan (id := 11) (.eff [(false, 0), (true, 2)] 1 [2] (.eff [(false, 3), (false, 4), (false, 5), (true, 7), (true, 8), (true, 9)] 6 [7, 8, 9] (.fin [(false, 10), (false, 11)]))) ?_ ?_ ?_ ?_ ?_ ?_); kernel_rfl; kernel_rfl; kernel_rfl; kernel_rfl; (intro c a d v w h; cases d <;> exact h)) | (with_reducible refine wpPlan_eff ?_) | (with_reducible refine wpPlan_fin ?_) | (with_reducible refine wpPlan_two ?_) | (with_reducible refine wpOpPair ?_ ?_) | ((with_reducible apply wpPre_keep); rfl; intro K' hK'; go_simp; refine hK' _ _ ?_; intro f hf; clear hK' K') | ((with_reducible apply wpPre_drop); rfl; intro K' hK'; go_simp; refine hK' _ _ ?_; intro f; clear hK' K') | (with_reducible refine wpPre_nil ?_) | ((with_reducible apply wpOp_list); rfl) | (with_reducible refine heldPair ?_ ?_) | ((with_reducible refine heldH_no ?_ ?_); rfl) | (with_reducible refine heldH_yes ?_ ?_) | (with_reducible exact heldH_nil) | (unfold YAt; go_simp; done))
        go_loopg [4, 5] 2 (fun k vr vi wr => ∃ q : Nat, q + k = 3 ∧ 1 ≤ q ∧ vr = .int .i64 (cd s (base s 3) (q - 1) : Nat) ∧ vi = .int .i64 (q : Int) ∧ ∃ ex dx, wr = more w ex dx)
        case atStart => exact ⟨1, by omega, by omega, by rw [HB.out]; first | rfl | (rw [HWB.out]; rfl), rfl, more_of (by repeat (first | (with_reducible exact Below.refl _ _) | (with_reducible exact bl_mm) | (with_reducible refine bl_dr ?_) | (with_reducible refine bl_drN ?_ _) | (with_reducible refine bl_al ?_ _) | (with_reducible refine bl_more ?_ _ _)))⟩
        case round =>
          obtain ⟨q, hk, hq, rfl, rfl, ex1, dx1, rfl⟩ := hrel
          have HK := hid hk
          by_cases hqn : q < 3
          · have hq1 : (q : Int) < 3 := by omega
            have hq2 : (0 : Int) ≤ q := by omega
            have hqs : q < s.size := by have := HZ.out; omega
            have hqs' : (q : Int) < s.size := by omega
            have hwq : wrap64 ((s[q]'hqs).toNat : Int) = (by_ s q : Int) := by_get hqs
            have hcl : cd s (base s 3) (q - 1) < 67108864 := cd_lt HBL.out (by omega)
            have hcn : cd s (base s 3) (q + 1 - 1) = 64 * cd s (base s 3) (q - 1) + by_ s q % 64 := cd_next hq
            have HCN := hid hcn
            clear hk hq hqn hcn
            go_wp2_with (first | ((with_reducible refine wp_region_plan (id := 11) (.eff [(false, 0), (true, 2)] 1 [2] (.eff [(false, 3), (false, 4), (false, 5), (true, 7), (true, 8), (true, 9)] 6 [7, 8, 9] (.fin [(false, 10), (false, 11)]))) ?_ ?_ ?_ ?_ ?_ ?_); kernel_rfl; kernel_rfl; kernel_rfl; kernel_rfl; (intro c a d v w h; cases d <;> exact h)) | (with_reducible refine wpPlan_eff ?_) | (with_reducible refine wpPlan_fin ?_) | (with_reducible refine wpPlan_two ?_) | (with_reducible refine wpOpPair ?_ ?_) | ((with_reducible apply wpPre_keep); rfl; intro K' hK'; go_simp; refine hK' _ _ ?_; intro f hf; clear hK' K') | ((with_reducible apply wpPre_drop); rfl; intro K' hK'; go_simp; refine hK' _ _ ?_; intro f; clear hK' K') | (with_reducible refine wpPre_nil ?_) | ((with_reducible apply wpOp_list); rfl) | (with_reducible refine heldPair ?_ ?_) | ((with_reducible refine heldH_no ?_ ?_); rfl) | (with_reducible refine heldH_yes ?_ ?_) | (with_reducible exact heldH_nil) | (unfold YAt; go_simp; done))
            go_roundg (3 - (q + 1))
            case measure => have := HK.out; omega
            case rel => exact ⟨q + 1, by have := HK.out; omega, by omega, by rw [HCN.out]; push_cast; rfl, by push_cast; rfl, more_of (by repeat (first | (with_reducible exact Below.refl _ _) | (with_reducible exact bl_mm) | (with_reducible refine bl_dr ?_) | (with_reducible refine bl_drN ?_ _) | (with_reducible refine bl_al ?_ _) | (with_reducible refine bl_more ?_ _ _)))⟩
          · have hqe : q = 3 := by omega
            subst hqe
            clear hk hq hqn
            have hcc : cd s (base s 3) (3 - 1) = cand s 3 := rfl
            rw [hcc]
            have HOK := hid (show okN s 3 = (decide (wid (cand s 3 : Int) = 3) && decide (oneB (cand s 3) = s.extract 0 3)) from rfl)
            have HN : Hid (∀ b, okN s 3 = b → firstF s 1 = if b = true then (cand s 3 : Int) else firstF s (3 + 1)) := hid (fun b hb => by rw [show firstF s 1 = _ from HF.out, firstF, dif_pos (by decide), if_pos HZ.out, hb])
            clear hcc
            obtain ⟨c, hc⟩ : ∃ c, cand s 3 = c := ⟨_, rfl⟩
            rw [hc] at HOK HN ⊢
            clear hc
            by_cases hw : wid (c : Int) = 3
            · have HW0 : Hid (wid (c : Int) ≠ 0) := hid (by rw [hw]; decide)
              by_cases ho : oneB c = s.extract 0 3
              · have hoe := eqs_t ho
                have HR : Hid (firstF s 1 = (c : Int)) := hid (HN.out true (by rw [HOK.out, decide_eq_true hw, decide_eq_true ho]; rfl))
                clear ho HOK HN
                go_wp2_with (first | ((with_reducible refine wp_region_plan (id := 11) (.eff [(false, 0), (true, 2)] 1 [2] (.eff [(false, 3), (false, 4), (false, 5), (true, 7), (true, 8), (true, 9)] 6 [7, 8, 9] (.fin [(false, 10), (false, 11)]))) ?_ ?_ ?_ ?_ ?_ ?_); kernel_rfl; kernel_rfl; kernel_rfl; kernel_rfl; (intro c a d v w h; cases d <;> exact h)) | (with_reducible refine wpPlan_eff ?_) | (with_reducible refine wpPlan_fin ?_) | (with_reducible refine wpPlan_two ?_) | (with_reducible refine wpOpPair ?_ ?_) | ((with_reducible apply wpPre_keep); rfl; intro K' hK'; go_simp; refine hK' _ _ ?_; intro f hf; clear hK' K') | ((with_reducible apply wpPre_drop); rfl; intro K' hK'; go_simp; refine hK' _ _ ?_; intro f; clear hK' K') | (with_reducible refine wpPre_nil ?_) | ((with_reducible apply wpOp_list); rfl) | (with_reducible refine heldPair ?_ ?_) | ((with_reducible refine heldH_no ?_ ?_); rfl) | (with_reducible refine heldH_yes ?_ ?_) | (with_reducible exact heldH_nil) | (unfold YAt; go_simp; done) | (go_at_call 44; refine wid_any.mono ?_; rintro e w1 ⟨rfl, rfl⟩) | (go_at_call 57; refine (one_any HW0.out).mono ?_; rintro e w2 ⟨rfl, hb2⟩; obtain ⟨ex2, dx2, rfl⟩ := more_of hb2; clear hb2))
                go_ret
                exact ⟨by rw [HR.out]; rfl, (by repeat (first | (with_reducible exact Below.refl _ _) | (with_reducible exact bl_mm) | (with_reducible refine bl_dr ?_) | (with_reducible refine bl_drN ?_ _) | (with_reducible refine bl_al ?_ _) | (with_reducible refine bl_more ?_ _ _)))⟩
              · have hoe := eqs_f ho
                have HR : Hid (EqF s (3 + 1)) := hid (HN.out false (by rw [HOK.out, decide_eq_false ho]; simp))
                clear ho HOK HN
                go_wp2_with (first | ((with_reducible refine wp_region_plan (id := 11) (.eff [(false, 0), (true, 2)] 1 [2] (.eff [(false, 3), (false, 4), (false, 5), (true, 7), (true, 8), (true, 9)] 6 [7, 8, 9] (.fin [(false, 10), (false, 11)]))) ?_ ?_ ?_ ?_ ?_ ?_); kernel_rfl; kernel_rfl; kernel_rfl; kernel_rfl; (intro c a d v w h; cases d <;> exact h)) | (with_reducible refine wpPlan_eff ?_) | (with_reducible refine wpPlan_fin ?_) | (with_reducible refine wpPlan_two ?_) | (with_reducible refine wpOpPair ?_ ?_) | ((with_reducible apply wpPre_keep); rfl; intro K' hK'; go_simp; refine hK' _ _ ?_; intro f hf; clear hK' K') | ((with_reducible apply wpPre_drop); rfl; intro K' hK'; go_simp; refine hK' _ _ ?_; intro f; clear hK' K') | (with_reducible refine wpPre_nil ?_) | ((with_reducible apply wpOp_list); rfl) | (with_reducible refine heldPair ?_ ?_) | ((with_reducible refine heldH_no ?_ ?_); rfl) | (with_reducible refine heldH_yes ?_ ?_) | (with_reducible exact heldH_nil) | (unfold YAt; go_simp; done) | (go_at_call 44; refine wid_any.mono ?_; rintro e w1 ⟨rfl, rfl⟩) | (go_at_call 57; refine (one_any HW0.out).mono ?_; rintro e w2 ⟨rfl, hb2⟩; obtain ⟨ex2, dx2, rfl⟩ := more_of hb2; clear hb2))
                go_roundg (5 - (3 + 1))
                case measure => have := HGK.out; omega
                case rel => exact ⟨3 + 1, by omega, by omega, rfl, HR.out, more_of (by repeat (first | (with_reducible exact Below.refl _ _) | (with_reducible exact bl_mm) | (with_reducible refine bl_dr ?_) | (with_reducible refine bl_drN ?_ _) | (with_reducible refine bl_al ?_ _) | (with_reducible refine bl_more ?_ _ _)))⟩
            · have hwe : (wid (c : Int) == 3) = false := beq_eq_false_iff_ne.2 hw
              have HR : Hid (EqF s (3 + 1)) := hid (HN.out false (by rw [HOK.out, decide_eq_false hw]; rfl))
              clear hw HOK HN
              go_wp2_with (first | ((with_reducible refine wp_region_plan (id := 11) (.eff [(false, 0), (true, 2)] 1 [2] (.eff [(false, 3), (false, 4), (false, 5), (true, 7), (true, 8), (true, 9)] 6 [7, 8, 9] (.fin [(false, 10), (false, 11)]))) ?_ ?_ ?_ ?_ ?_ ?_); kernel_rfl; kernel_rfl; kernel_rfl; kernel_rfl; (intro c a d v w h; cases d <;> exact h)) | (with_reducible refine wpPlan_eff ?_) | (with_reducible refine wpPlan_fin ?_) | (with_reducible refine wpPlan_two ?_) | (with_reducible refine wpOpPair ?_ ?_) | ((with_reducible apply wpPre_keep); rfl; intro K' hK'; go_simp; refine hK' _ _ ?_; intro f hf; clear hK' K') | ((with_reducible apply wpPre_drop); rfl; intro K' hK'; go_simp; refine hK' _ _ ?_; intro f; clear hK' K') | (with_reducible refine wpPre_nil ?_) | ((with_reducible apply wpOp_list); rfl) | (with_reducible refine heldPair ?_ ?_) | ((with_reducible refine heldH_no ?_ ?_); rfl) | (with_reducible refine heldH_yes ?_ ?_) | (with_reducible exact heldH_nil) | (unfold YAt; go_simp; done) | (go_at_call 44; refine wid_any.mono ?_; rintro e w1 ⟨rfl, rfl⟩) | (go_at_call 57; refine (one_any HW0.out).mono ?_; rintro e w2 ⟨rfl, hb2⟩; obtain ⟨ex2, dx2, rfl⟩ := more_of hb2; clear hb2))
              go_roundg (5 - (3 + 1))
              case measure => have := HGK.out; omega
              case rel => exact ⟨3 + 1, by omega, by omega, rfl, HR.out, more_of (by repeat (first | (with_reducible exact Below.refl _ _) | (with_reducible exact bl_mm) | (with_reducible refine bl_dr ?_) | (with_reducible refine bl_drN ?_ _) | (with_reducible refine bl_al ?_ _) | (with_reducible refine bl_more ?_ _ _)))⟩
      · have hsz' : decide ((3 : Int) ≤ s.size) = false := by rw [decide_eq_false_iff_not]; omega
        have HZ := hid hsz
        clear hk hm hsz
        go_wp2_with (first | ((with_reducible refine wp_region_plan (id := 11) (.eff [(false, 0), (true, 2)] 1 [2] (.eff [(false, 3), (false, 4), (false, 5), (true, 7), (true, 8), (true, 9)] 6 [7, 8, 9] (.fin [(false, 10), (false, 11)]))) ?_ ?_ ?_ ?_ ?_ ?_); kernel_rfl; kernel_rfl; kernel_rfl; kernel_rfl; (intro c a d v w h; cases d <;> exact h)) | (with_reducible refine wpPlan_eff ?_) | (with_reducible refine wpPlan_fin ?_) | (with_reducible refine wpPlan_two ?_) | (with_reducible refine wpOpPair ?_ ?_) | ((with_reducible apply wpPre_keep); rfl; intro K' hK'; go_simp; refine hK' _ _ ?_; intro f hf; clear hK' K') | ((with_reducible apply wpPre_drop); rfl; intro K' hK'; go_simp; refine hK' _ _ ?_; intro f; clear hK' K') | (with_reducible refine wpPre_nil ?_) | ((with_reducible apply wpOp_list); rfl) | (with_reducible refine heldPair ?_ ?_) | ((with_reducible refine heldH_no ?_ ?_); rfl) | (with_reducible refine heldH_yes ?_ ?_) | (with_reducible exact heldH_nil) | (unfold YAt; go_simp; done))
        go_ret
        refine ⟨?_, (by repeat (first | (with_reducible exact Below.refl _ _) | (with_reducible exact bl_mm) | (with_reducible refine bl_dr ?_) | (with_reducible refine bl_drN ?_ _) | (with_reducible refine bl_al ?_ _) | (with_reducible refine bl_more ?_ _ _)))⟩
        rw [show firstF s 1 = _ from HF.out, firstF, dif_pos (by decide), if_neg HZ.out]
        rfl

    · by_cases hsz : 4 ≤ s.size
      · have HZ := hid hsz
        have hsz' : (4 : Int) ≤ s.size := by omega
        have hwb : wrap64 ((s[0]'h0).toNat : Int) = (by_ s 0 : Int) := by_get h0
        have hb8 := by_lt s 0
        obtain ⟨b0, hb0⟩ : ∃ b, by_ s 0 = b := ⟨_, rfl⟩
        rw [hb0] at hwb hb8
        have hmd : (b0 : Int).tmod 8 = ((b0 % 8 : Nat) : Int) := rfl
        have hbs : base s 4 = b0 % 8 := by unfold base; rw [hb0]; rfl
        have HB := hid hbs
        have HWB := hid hwb
        have hbl : base s 4 < 256 := by rw [hbs]; omega
        have HBL := hid hbl
        clear hk hm hsz hb8 hb0 hbs hbl
        go_wp2_with (first | ((with_reducible refine wp_region_plan (id := 11) (.eff [(false, 0), (true, 2)] 1 [2] (.eff [(false, 3), (false, 4), (false, 5), (true, 7), (true, 8), (true, 9)] 6 [7, 8, 9] (.fin [(false, 10), (false, 11)]))) ?_ ?_ ?_ ?_ ?_ ?_); kernel_rfl; kernel_rfl; kernel_rfl; kernel_rfl; (intro c a d v w h; cases d <;> exact h)) | (with_reducible refine wpPlan_eff ?_) | (with_reducible refine wpPlan_fin ?_) | (with_reducible refine wpPlan_two ?_) | (with_reducible refine wpOpPair ?_ ?_) | ((with_reducible apply wpPre_keep); rfl; intro K' hK'; go_simp; refine hK' _ _ ?_; intro f hf; clear hK' K') | ((with_reducible apply wpPre_drop); rfl; intro K' hK'; go_simp; refine hK' _ _ ?_; intro f; clear hK' K') | (with_reducible refine wpPre_nil ?_) | ((with_reducible apply wpOp_list); rfl) | (with_reducible refine heldPair ?_ ?_) | ((with_reducible refine heldH_no ?_ ?_); rfl) | (with_reducible refine heldH_yes ?_ ?_) | (with_reducible exact heldH_nil) | (unfold YAt; go_simp; done))
        go_loopg [4, 5] 3 (fun k vr vi wr => ∃ q : Nat, q + k = 4 ∧ 1 ≤ q ∧ vr = .int .i64 (cd s (base s 4) (q - 1) : Nat) ∧ vi = .int .i64 (q : Int) ∧ ∃ ex dx, wr = more w ex dx)
        case atStart => exact ⟨1, by omega, by omega, by rw [HB.out]; first | rfl | (rw [HWB.out]; rfl), rfl, more_of (by repeat (first | (with_reducible exact Below.refl _ _) | (with_reducible exact bl_mm) | (with_reducible refine bl_dr ?_) | (with_reducible refine bl_drN ?_ _) | (with_reducible refine bl_al ?_ _) | (with_reducible refine bl_more ?_ _ _)))⟩
        case round =>
          obtain ⟨q, hk, hq, rfl, rfl, ex1, dx1, rfl⟩ := hrel
          have HK := hid hk
          by_cases hqn : q < 4
          · have hq1 : (q : Int) < 4 := by omega
            have hq2 : (0 : Int) ≤ q := by omega
            have hqs : q < s.size := by have := HZ.out; omega
            have hqs' : (q : Int) < s.size := by omega
            have hwq : wrap64 ((s[q]'hqs).toNat : Int) = (by_ s q : Int) := by_get hqs
            have hcl : cd s (base s 4) (q - 1) < 67108864 := cd_lt HBL.out (by omega)
            have hcn : cd s (base s 4) (q + 1 - 1) = 64 * cd s (base s 4) (q - 1) + by_ s q % 64 := cd_next hq
            have HCN := hid hcn
            clear hk hq hqn hcn
            go_wp2_with (first | ((with_reducible refine wp_region_plan (id := 11) (.eff [(false, 0), (true, 2)] 1 [2] (.eff [(false, 3), (false, 4), (false, 5), (true, 7), (true, 8), (true, 9)] 6 [7, 8, 9] (.fin [(false, 10), (false, 11)]))) ?_ ?_ ?_ ?_ ?_ ?_); kernel_rfl; kernel_rfl; kernel_rfl; kernel_rfl; (intro c a d v w h; cases d <;> exact h)) | (with_reducible refine wpPlan_eff ?_) | (with_reducible refine wpPlan_fin ?_) | (with_reducible refine wpPlan_two ?_) | (with_reducible refine wpOpPair ?_ ?_) | ((with_reducible apply wpPre_keep); rfl; intro K' hK'; go_simp; refine hK' _ _ ?_; intro f hf; clear hK' K') | ((with_reducible apply wpPre_drop); rfl; intro K' hK'; go_simp; refine hK' _ _ ?_; intro f; clear hK' K') | (with_reducible refine wpPre_nil ?_) | ((with_reducible apply wpOp_list); rfl) | (with_reducible refine heldPair ?_ ?_) | ((with_reducible refine heldH_no ?_ ?_); rfl) | (with_reducible refine heldH_yes ?_ ?_) | (with_reducible exact heldH_nil) | (unfold YAt; go_simp; done))
            go_roundg (4 - (q + 1))
            case measure => have := HK.out; omega
            case rel => exact ⟨q + 1, by have := HK.out; omega, by omega, by rw [HCN.out]; push_cast; rfl, by push_cast; rfl, more_of (by repeat (first | (with_reducible exact Below.refl _ _) | (with_reducible exact bl_mm) | (with_reducible refine bl_dr ?_) | (with_reducible refine bl_drN ?_ _) | (with_reducible refine bl_al ?_ _) | (with_reducible refine bl_more ?_ _ _)))⟩
          · have hqe : q = 4 := by omega
            subst hqe
            clear hk hq hqn
            have hcc : cd s (base s 4) (4 - 1) = cand s 4 := rfl
            rw [hcc]
            have HOK := hid (show okN s 4 = (decide (wid (cand s 4 : Int) = 4) && decide (oneB (cand s 4) = s.extract 0 4)) from rfl)
            have HN : Hid (∀ b, okN s 4 = b → firstF s 1 = if b = true then (cand s 4 : Int) else firstF s (4 + 1)) := hid (fun b hb => by rw [show firstF s 1 = _ from HF.out, firstF, dif_pos (by decide), if_pos HZ.out, hb])
            clear hcc
            obtain ⟨c, hc⟩ : ∃ c, cand s 4 = c := ⟨_, rfl⟩
            rw [hc] at HOK HN ⊢
            clear hc
            by_cases hw : wid (c : Int) = 4
            · have HW0 : Hid (wid (c : Int) ≠ 0) := hid (by rw [hw]; decide)
              by_cases ho : oneB c = s.extract 0 4
              · have hoe := eqs_t ho
                have HR : Hid (firstF s 1 = (c : Int)) := hid (HN.out true (by rw [HOK.out, decide_eq_true hw, decide_eq_true ho]; rfl))
                clear ho HOK HN
                go_wp2_with (first | ((with_reducible refine wp_region_plan (id := 11) (.eff [(false, 0), (true, 2)] 1 [2] (.eff [(false, 3), (false, 4), (false, 5), (true, 7), (true, 8), (true, 9)] 6 [7, 8, 9] (.fin [(false, 10), (false, 11)]))) ?_ ?_ ?_ ?_ ?_ ?_); kernel_rfl; kernel_rfl; kernel_rfl; kernel_rfl; (intro c a d v w h; cases d <;> exact h)) | (with_reducible refine wpPlan_eff ?_) | (with_reducible refine wpPlan_fin ?_) | (with_reducible refine wpPlan_two ?_) | (with_reducible refine wpOpPair ?_ ?_) | ((with_reducible apply wpPre_keep); rfl; intro K' hK'; go_simp; refine hK' _ _ ?_; intro f hf; clear hK' K') | ((with_reducible apply wpPre_drop); rfl; intro K' hK'; go_simp; refine hK' _ _ ?_; intro f; clear hK' K') | (with_reducible refine wpPre_nil ?_) | ((with_reducible apply wpOp_list); rfl) | (with_reducible refine heldPair ?_ ?_) | ((with_reducible refine heldH_no ?_ ?_); rfl) | (with_reducible refine heldH_yes ?_ ?_) | (with_reducible exact heldH_nil) | (unfold YAt; go_simp; done) | (go_at_call 44; refine wid_any.mono ?_; rintro e w1 ⟨rfl, rfl⟩) | (go_at_call 57; refine (one_any HW0.out).mono ?_; rintro e w2 ⟨rfl, hb2⟩; obtain ⟨ex2, dx2, rfl⟩ := more_of hb2; clear hb2))
                go_ret
                exact ⟨by rw [HR.out]; rfl, (by repeat (first | (with_reducible exact Below.refl _ _) | (with_reducible exact bl_mm) | (with_reducible refine bl_dr ?_) | (with_reducible refine bl_drN ?_ _) | (with_reducible refine bl_al ?_ _) | (with_reducible refine bl_more ?_ _ _)))⟩
              · have hoe := eqs_f ho
                have HR : Hid (EqF s (4 + 1)) := hid (HN.out false (by rw [HOK.out, decide_eq_false ho]; simp))
                clear ho HOK HN
                go_wp2_with (first | ((with_reducible refine wp_region_plan (id := 11) (.eff [(false, 0), (true, 2)] 1 [2] (.eff [(false, 3), (false, 4), (false, 5), (true, 7), (true, 8), (true, 9)] 6 [7, 8, 9] (.fin [(false, 10), (false, 11)]))) ?_ ?_ ?_ ?_ ?_ ?_); kernel_rfl; kernel_rfl; kernel_rfl; kernel_rfl; (intro c a d v w h; cases d <;> exact h)) | (with_reducible refine wpPlan_eff ?_) | (with_reducible refine wpPlan_fin ?_) | (with_reducible refine wpPlan_two ?_) | (with_reducible refine wpOpPair ?_ ?_) | ((with_reducible apply wpPre_keep); rfl; intro K' hK'; go_simp; refine hK' _ _ ?_; intro f hf; clear hK' K') | ((with_reducible apply wpPre_drop); rfl; intro K' hK'; go_simp; refine hK' _ _ ?_; intro f; clear hK' K') | (with_reducible refine wpPre_nil ?_) | ((with_reducible apply wpOp_list); rfl) | (with_reducible refine heldPair ?_ ?_) | ((with_reducible refine heldH_no ?_ ?_); rfl) | (with_reducible refine heldH_yes ?_ ?_) | (with_reducible exact heldH_nil) | (unfold YAt; go_simp; done) | (go_at_call 44; refine wid_any.mono ?_; rintro e w1 ⟨rfl, rfl⟩) | (go_at_call 57; refine (one_any HW0.out).mono ?_; rintro e w2 ⟨rfl, hb2⟩; obtain ⟨ex2, dx2, rfl⟩ := more_of hb2; clear hb2))
                go_roundg (5 - (4 + 1))
                case measure => have := HGK.out; omega
                case rel => exact ⟨4 + 1, by omega, by omega, rfl, HR.out, more_of (by repeat (first | (with_reducible exact Below.refl _ _) | (with_reducible exact bl_mm) | (with_reducible refine bl_dr ?_) | (with_reducible refine bl_drN ?_ _) | (with_reducible refine bl_al ?_ _) | (with_reducible refine bl_more ?_ _ _)))⟩
            · have hwe : (wid (c : Int) == 4) = false := beq_eq_false_iff_ne.2 hw
              have HR : Hid (EqF s (4 + 1)) := hid (HN.out false (by rw [HOK.out, decide_eq_false hw]; rfl))
              clear hw HOK HN
              go_wp2_with (first | ((with_reducible refine wp_region_plan (id := 11) (.eff [(false, 0), (true, 2)] 1 [2] (.eff [(false, 3), (false, 4), (false, 5), (true, 7), (true, 8), (true, 9)] 6 [7, 8, 9] (.fin [(false, 10), (false, 11)]))) ?_ ?_ ?_ ?_ ?_ ?_); kernel_rfl; kernel_rfl; kernel_rfl; kernel_rfl; (intro c a d v w h; cases d <;> exact h)) | (with_reducible refine wpPlan_eff ?_) | (with_reducible refine wpPlan_fin ?_) | (with_reducible refine wpPlan_two ?_) | (with_reducible refine wpOpPair ?_ ?_) | ((with_reducible apply wpPre_keep); rfl; intro K' hK'; go_simp; refine hK' _ _ ?_; intro f hf; clear hK' K') | ((with_reducible apply wpPre_drop); rfl; intro K' hK'; go_simp; refine hK' _ _ ?_; intro f; clear hK' K') | (with_reducible refine wpPre_nil ?_) | ((with_reducible apply wpOp_list); rfl) | (with_reducible refine heldPair ?_ ?_) | ((with_reducible refine heldH_no ?_ ?_); rfl) | (with_reducible refine heldH_yes ?_ ?_) | (with_reducible exact heldH_nil) | (unfold YAt; go_simp; done) | (go_at_call 44; refine wid_any.mono ?_; rintro e w1 ⟨rfl, rfl⟩) | (go_at_call 57; refine (one_any HW0.out).mono ?_; rintro e w2 ⟨rfl, hb2⟩; obtain ⟨ex2, dx2, rfl⟩ := more_of hb2; clear hb2))
              go_roundg (5 - (4 + 1))
              case measure => have := HGK.out; omega
              case rel => exact ⟨4 + 1, by omega, by omega, rfl, HR.out, more_of (by repeat (first | (with_reducible exact Below.refl _ _) | (with_reducible exact bl_mm) | (with_reducible refine bl_dr ?_) | (with_reducible refine bl_drN ?_ _) | (with_reducible refine bl_al ?_ _) | (with_reducible refine bl_more ?_ _ _)))⟩
      · have hsz' : decide ((4 : Int) ≤ s.size) = false := by rw [decide_eq_false_iff_not]; omega
        have HZ := hid hsz
        clear hk hm hsz
        go_wp2_with (first | ((with_reducible refine wp_region_plan (id := 11) (.eff [(false, 0), (true, 2)] 1 [2] (.eff [(false, 3), (false, 4), (false, 5), (true, 7), (true, 8), (true, 9)] 6 [7, 8, 9] (.fin [(false, 10), (false, 11)]))) ?_ ?_ ?_ ?_ ?_ ?_); kernel_rfl; kernel_rfl; kernel_rfl; kernel_rfl; (intro c a d v w h; cases d <;> exact h)) | (with_reducible refine wpPlan_eff ?_) | (with_reducible refine wpPlan_fin ?_) | (with_reducible refine wpPlan_two ?_) | (with_reducible refine wpOpPair ?_ ?_) | ((with_reducible apply wpPre_keep); rfl; intro K' hK'; go_simp; refine hK' _ _ ?_; intro f hf; clear hK' K') | ((with_reducible apply wpPre_drop); rfl; intro K' hK'; go_simp; refine hK' _ _ ?_; intro f; clear hK' K') | (with_reducible refine wpPre_nil ?_) | ((with_reducible apply wpOp_list); rfl) | (with_reducible refine heldPair ?_ ?_) | ((with_reducible refine heldH_no ?_ ?_); rfl) | (with_reducible refine heldH_yes ?_ ?_) | (with_reducible exact heldH_nil) | (unfold YAt; go_simp; done))
        go_ret
        refine ⟨?_, (by repeat (first | (with_reducible exact Below.refl _ _) | (with_reducible exact bl_mm) | (with_reducible refine bl_dr ?_) | (with_reducible refine bl_drN ?_ _) | (with_reducible refine bl_al ?_ _) | (with_reducible refine bl_more ?_ _ _)))⟩
        rw [show firstF s 1 = _ from HF.out, firstF, dif_pos (by decide), if_neg HZ.out]
        rfl

end Go.Proofs.Ythekoefcienipaa
