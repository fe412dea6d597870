/- The document's run of a name, and its marks. -/
import Derived.Test.YthekoefcienipaaLxU
namespace Go.Proofs.Ythekoefcienipaa
open Go.RowKit

theorem pt_ok (s : ByteArray) (a : Nat) : okR (ptR s a) := by
  unfold ptR
  split
  · exact small_ok (n := 0) (by decide)
  · exact decode_ok s a
def namC (r : Int) : Bool := decide (cls r = 1) || decide (cls r = 2)
/-- Where a name's code points end, from p on. -/
def runE (s : ByteArray) (p : Nat) : Nat :=
  if _h : p < s.size then (if bad s p = true then p else if namC (Utf8.decode s p).1 = true then runE s (p + max 1 (Utf8.decode s p).2) else p) else p
termination_by s.size - p
decreasing_by omega
theorem runE_end {s : ByteArray} {p : Nat} (h : ¬ p < s.size) : runE s p = p := by rw [runE, dif_neg h]
theorem runE_bad {s : ByteArray} {p : Nat} (h : bad s p = true) : runE s p = p := by
  rw [runE]
  split
  · simp [h]
  · rfl
theorem runE_no {s : ByteArray} {p : Nat} (h : namC (Utf8.decode s p).1 = false) : runE s p = p := by
  rw [runE]
  split
  · simp [h]
  · rfl
theorem runE_next {s : ByteArray} {p : Nat} (h : p < s.size) (hb : bad s p = false) (hn : namC (Utf8.decode s p).1 = true) : runE s p = runE s (p + (Utf8.decode s p).2) := by
  rw [runE, dif_pos h, if_neg (by rw [hb]; decide), if_pos hn, Nat.max_eq_right (width_pos s p)]
theorem runE_ge (s : ByteArray) (p : Nat) : p ≤ runE s p := by
  induction hk : s.size - p using Nat.strongRecOn generalizing p with
  | _ n ih =>
    rw [runE]
    split
    · split
      · exact Nat.le_refl _
      · split
        · have := ih (s.size - (p + max 1 (Utf8.decode s p).2)) (by omega) (p + max 1 (Utf8.decode s p).2) rfl
          omega
        · exact Nat.le_refl _
    · exact Nat.le_refl _
theorem runE_le {s : ByteArray} {p : Nat} (hp : p ≤ s.size) : runE s p ≤ s.size := by
  induction hk : s.size - p using Nat.strongRecOn generalizing p with
  | _ n ih =>
    rw [runE]
    split
    · rename_i h
      split
      · exact hp
      · split
        · have h1 := width_le h
          have h2 := width_pos s p
          exact ih (s.size - (p + max 1 (Utf8.decode s p).2)) (by omega) (p := p + max 1 (Utf8.decode s p).2) (by omega) rfl
        · exact hp
    · exact hp
set_option maxHeartbeats 4000000 in
theorem run_any {w : World} {s : ByteArray} {a : Nat} (ha : a ≤ s.size) (hz : s.size ≤ 65536) : Calls Try.prog 26 #[.string s, .int .i64 a] w fun e w' => e = .returned (.int .i64 (runE s a)) ∧ Below w.heap.size w w' := by
  have HZ := hid hz
  have hz' : (s.size : Int) ≤ 65536 := by omega
  have HA := hid ha
  clear hz ha
  go_enter Try.func26, Try.ntmps26
  go_wp2
  go_loopg [1] (s.size + 1) (fun k va wr => ∃ p : Nat, p + k = s.size + 1 + a ∧ a ≤ p ∧ p ≤ s.size ∧ va = .int .i64 (p : Int) ∧ runE s a = runE s p ∧ ∃ ex dx, wr = more w ex dx)
  case atStart => exact ⟨a, by omega, Nat.le_refl _, HA.out, rfl, rfl, more_of (Below.refl _ _)⟩
  case round =>
    obtain ⟨p, hk, hap, hps, rfl, hr, ex, dx, rfl⟩ := hrel
    have HK := hid hk
    have HPS := hid hps
    have HAP := hid hap
    have HR := hid hr
    clear hk hps hap hr
    by_cases hp : p < s.size
    · have hp1 : (p : Int) < s.size := by omega
      have HP := hid hp
      cases hbd : bad s p with
      | true =>
        have HPR : Hid (ptR s p = 0) := hid (by unfold ptR; rw [if_pos hbd])
        have HPN : Hid (ptN s p = 0) := hid (by unfold ptN; rw [if_pos hbd])
        have HOK : Hid (okR 0) := hid (small_ok (n := 0) (by decide))
        have HCL : Hid (cls 0 = 0) := hid rfl
        have HBD := hid hbd
        clear hbd hp
        go_wp2_with (first | (go_at_call 24; refine (point_any HP.out HZ.out).mono ?_; rintro e w1 ⟨rfl, hb1⟩; obtain ⟨ex1, dx1, rfl⟩ := more_of hb1; clear hb1; rw [HPR.out, HPN.out]) | (go_at_call 25; refine (rclass_any HOK.out).mono ?_; rintro e w2 ⟨rfl, hb2⟩; obtain ⟨ex2, dx2, rfl⟩ := more_of hb2; clear hb2; rw [HCL.out]))
        go_ret
        refine ⟨?_, (by repeat (first | (with_reducible exact Below.refl _ _) | (with_reducible exact bl_mm) | (with_reducible refine bl_dr ?_) | (with_reducible refine bl_drN ?_ _) | (with_reducible refine bl_al ?_ _) | (with_reducible refine bl_more ?_ _ _)))⟩
        rw [HR.out, runE_bad HBD.out]
        rfl
      | false =>
        obtain ⟨r, hre⟩ : ∃ r : Int, ((Utf8.decode s p).1 : Int) = r := ⟨_, rfl⟩
        obtain ⟨n, hne⟩ : ∃ n, (Utf8.decode s p).2 = n := ⟨_, rfl⟩
        have HPR : Hid (ptR s p = r) := hid (by unfold ptR; rw [if_neg (by rw [hbd]; decide), hre])
        have HPN : Hid (ptN s p = n) := hid (by unfold ptN; rw [if_neg (by rw [hbd]; decide), hne])
        have HOK : Hid (okR r) := hid (by rw [← hre]; exact decode_ok s p)
        have hw := width_pos s p
        have hwl := width_le hp
        rw [hne] at hw hwl
        obtain ⟨c, hcl⟩ : ∃ c, cls r = c := ⟨_, rfl⟩
        have HCL := hid hcl
        have HNX : Hid (namC r = true → runE s p = runE s (p + n)) := hid (fun h => by have := runE_next hp hbd (by rw [hre]; exact h); rwa [hne] at this)
        have HNO : Hid (namC r = false → runE s p = p) := hid (fun h => runE_no (by rw [hre]; exact h))
        have hn0 : ((n : Int) == 0) = false := by rw [beq_eq_false_iff_ne]; omega
        have hpn : wrap64 ((p : Int) + n) = ((p + n : Nat) : Int) := by rw [wrap64]; omega
        have HWL := hid hwl
        have HW := hid hw
        have HNC : Hid (namC r = (decide (c = 1) || decide (c = 2))) := hid (by unfold namC; rw [hcl])
        clear hre hne hbd hp hcl hw hwl
        by_cases hc1 : c = 1
        · subst hc1
          go_wp2_with (first | (go_at_call 24; refine (point_any HP.out HZ.out).mono ?_; rintro e w1 ⟨rfl, hb1⟩; obtain ⟨ex1, dx1, rfl⟩ := more_of hb1; clear hb1; rw [HPR.out, HPN.out]) | (go_at_call 25; refine (rclass_any HOK.out).mono ?_; rintro e w2 ⟨rfl, hb2⟩; obtain ⟨ex2, dx2, rfl⟩ := more_of hb2; clear hb2; rw [HCL.out]))
          go_roundg (s.size + 1 + a - (p + n))
          case measure => have := HK.out; have := HW.out; have := HWL.out; omega
          case rel => exact ⟨p + n, by have := HWL.out; have := HAP.out; omega, by have := HAP.out; omega, HWL.out, by rw [hpn], by rw [HR.out]; exact HNX.out (by rw [HNC.out]; rfl), more_of (by repeat (first | (with_reducible exact Below.refl _ _) | (with_reducible exact bl_mm) | (with_reducible refine bl_dr ?_) | (with_reducible refine bl_drN ?_ _) | (with_reducible refine bl_al ?_ _) | (with_reducible refine bl_more ?_ _ _)))⟩
        · by_cases hc2 : c = 2
          · subst hc2
            clear hc1
            go_wp2_with (first | (go_at_call 24; refine (point_any HP.out HZ.out).mono ?_; rintro e w1 ⟨rfl, hb1⟩; obtain ⟨ex1, dx1, rfl⟩ := more_of hb1; clear hb1; rw [HPR.out, HPN.out]) | (go_at_call 25; refine (rclass_any HOK.out).mono ?_; rintro e w2 ⟨rfl, hb2⟩; obtain ⟨ex2, dx2, rfl⟩ := more_of hb2; clear hb2; rw [HCL.out]))
            go_roundg (s.size + 1 + a - (p + n))
            case measure => have := HK.out; have := HW.out; have := HWL.out; omega
            case rel => exact ⟨p + n, by have := HWL.out; have := HAP.out; omega, by have := HAP.out; omega, HWL.out, by rw [hpn], by rw [HR.out]; exact HNX.out (by rw [HNC.out]; rfl), more_of (by repeat (first | (with_reducible exact Below.refl _ _) | (with_reducible exact bl_mm) | (with_reducible refine bl_dr ?_) | (with_reducible refine bl_drN ?_ _) | (with_reducible refine bl_al ?_ _) | (with_reducible refine bl_more ?_ _ _)))⟩
          · have hb1 : (c != 1) = true := by simpa using hc1
            have hb2 : (c != 2) = true := by simpa using hc2
            have HX : Hid (namC r = false) := hid (by rw [HNC.out, decide_eq_false hc1, decide_eq_false hc2]; rfl)
            clear hc1 hc2
            go_wp2_with (first | (go_at_call 24; refine (point_any HP.out HZ.out).mono ?_; rintro e w1 ⟨rfl, hb1⟩; obtain ⟨ex1, dx1, rfl⟩ := more_of hb1; clear hb1; rw [HPR.out, HPN.out]) | (go_at_call 25; refine (rclass_any HOK.out).mono ?_; rintro e w2 ⟨rfl, hb2⟩; obtain ⟨ex2, dx2, rfl⟩ := more_of hb2; clear hb2; rw [HCL.out]))
            go_ret
            refine ⟨?_, (by repeat (first | (with_reducible exact Below.refl _ _) | (with_reducible exact bl_mm) | (with_reducible refine bl_dr ?_) | (with_reducible refine bl_drN ?_ _) | (with_reducible refine bl_al ?_ _) | (with_reducible refine bl_more ?_ _ _)))⟩
            rw [HR.out, HNO.out HX.out]
            rfl
    · have hp1 : ¬ (p : Int) < s.size := by omega
      have HP := hid hp
      clear hp
      go_wp2
      go_ret
      refine ⟨?_, (by repeat (first | (with_reducible exact Below.refl _ _) | (with_reducible exact bl_mm) | (with_reducible refine bl_dr ?_) | (with_reducible refine bl_drN ?_ _) | (with_reducible refine bl_al ?_ _) | (with_reducible refine bl_more ?_ _ _)))⟩
      rw [HR.out, runE_end HP.out]
      rfl
def markD (r : Int) : Bool := (r == 123) || (r == 125) || (r == 40) || (r == 41) || (r == 59) || (r == 44)
set_option maxHeartbeats 1000000 in
theorem markD_any {w : World} {r : Int} : Calls Try.prog 27 #[.int .i64 r] w fun e w' => e = .returned (.bool (markD r)) ∧ w = w' := by
  unfold markD
  cases i0 : (r == 123) with
  | true =>
    go_enter Try.func27, Try.ntmps27
    go_wp2
    go_ret
    exact ⟨rfl, rfl⟩
  | false =>
    cases i1 : (r == 125) with
    | true =>
      go_enter Try.func27, Try.ntmps27
      go_wp2
      go_ret
      exact ⟨rfl, rfl⟩
    | false =>
      cases i2 : (r == 40) with
      | true =>
        go_enter Try.func27, Try.ntmps27
        go_wp2
        go_ret
        exact ⟨rfl, rfl⟩
      | false =>
        cases i3 : (r == 41) with
        | true =>
          go_enter Try.func27, Try.ntmps27
          go_wp2
          go_ret
          exact ⟨rfl, rfl⟩
        | false =>
          cases i4 : (r == 59) with
          | true =>
            go_enter Try.func27, Try.ntmps27
            go_wp2
            go_ret
            exact ⟨rfl, rfl⟩
          | false =>
            cases i5 : (r == 44) with
            | true =>
              go_enter Try.func27, Try.ntmps27
              go_wp2
              go_ret
              exact ⟨rfl, rfl⟩
            | false =>
              go_enter Try.func27, Try.ntmps27
              go_wp2
              go_ret
              exact ⟨rfl, rfl⟩
end Go.Proofs.Ythekoefcienipaa
