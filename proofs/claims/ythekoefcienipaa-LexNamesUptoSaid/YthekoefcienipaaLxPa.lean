/- The document's Join and Word. -/
import Derived.Test.YthekoefcienipaaLxO
namespace Go.Proofs.Ythekoefcienipaa
open Go.RowKit

theorem join_snoc (xs : List (List UInt8)) (x sep : List UInt8) : Lib.join (xs ++ [x]) sep = if xs = [] then x else Lib.join xs sep ++ (sep ++ x) := by
  cases xs with
  | nil => rw [if_pos rfl]; exact Lib.join_one x sep
  | cons y ys =>
    rw [if_neg (by simp), List.cons_append, Lib.join_cons, Lib.join_cons]
    simp [Lib.joinTail]
theorem cat_data (a b : ByteArray) : (a ++ b).data.toList = a.data.toList ++ b.data.toList := by simp
theorem bytes_eq {a b : ByteArray} (h : a.data.toList = b.data.toList) : a = b := ByteArray.ext (Array.ext' h)
theorem joinB_next {l : List Tok} {j : Nat} (hj : j < l.length) : joinB (l.take (j + 1)) = if j = 0 then (l[j]'hj).text else joinB (l.take j) ++ ⟨#[32]⟩ ++ (l[j]'hj).text := by
  apply bytes_eq
  unfold joinB
  rw [List.take_succ_eq_append_getElem hj, List.map_append, List.map_singleton, join_snoc]
  by_cases h0 : j = 0
  · subst h0
    rw [if_pos (by simp), if_pos rfl]
  · rw [if_neg (by intro h; rw [List.map_eq_nil_iff, List.take_eq_nil_iff] at h; rcases h with h | h; exact h0 h; subst h; exact absurd hj (by simp)), if_neg h0, cat_data, cat_data]
    simp
theorem joinB_size_le {l : List Tok} (j : Nat) : (joinB (l.take j)).size ≤ (joinB l).size := by
  have hs : ∀ m : List Tok, (joinB m).size = (Lib.join (m.map (·.text.data.toList)) [32]).length := fun m => by simp [joinB, ByteArray.size]
  induction hk : l.length - j generalizing j with
  | zero => rw [List.take_of_length_le (by omega)]; exact Nat.le_refl _
  | succ n ih =>
    have hj : j < l.length := by omega
    refine Nat.le_trans ?_ (ih (j + 1) (by omega))
    rw [joinB_next hj]
    split
    · rename_i h
      subst h
      rw [hs, List.take_zero, List.map_nil, Lib.join_nil]
      exact Nat.zero_le _
    · rw [ByteArray.size_append, ByteArray.size_append]
      omega
theorem add_str (a b : ByteArray) (h : a.size + b.size ≤ 9223372036854775807) (W : World) : (Op.stringOp .add a b).run Try.prog W = .ok (.string (a ++ b)) W := run_string_add_sum (P := Try.prog) (w := W) a b h
set_option maxHeartbeats 1000000 in
theorem djoin_any {w : World} {v : Value} {l : List Tok} {K : Nat → Prop} (h : tokE.Row K w v l) (hl : l.length ≤ 100000) (hj : (joinB l).size ≤ 140737488355328) : Calls Try.prog 18 #[v] w fun e w' => e = .returned (.string (joinB l)) ∧ Below w.heap.size w w' := by
  obtain ⟨A, ca, rfl, _, _⟩ := h.form
  have HR := hid h
  have hlx : (l.length : Int) ≤ 100000 := by omega
  have HL := hid hl
  have HJN := hid hj
  clear h hl hj
  go_enter Try.func18, Try.ntmps18
  go_wp2
  go_loopg [3, 4] l.length (fun k vs vi wr => ∃ j : Nat, j + k = l.length ∧ vi = .int .i64 (j : Int) ∧ vs = .string (joinB (l.take j)) ∧ ∃ ex dx, wr = more w ex dx)
  case atStart => exact ⟨0, by omega, rfl, rfl, more_of (Below.refl _ _)⟩
  case round =>
    obtain ⟨j, hk, rfl, rfl, ex, dx, rfl⟩ := hrel
    have HK := hid hk
    by_cases hjl : j < l.length
    · have HJ := hid (And.intro hjl trivial)
      obtain ⟨b1, o1, rfl, _, hl1, x1, x2, x3⟩ := row_tok HR.out j HJ.out.1
      have hj0 : (0 : Int) ≤ j := by omega
      have hjx : (j : Int) < l.length := by omega
      have hnx := joinB_next HJ.out.1
      have hsz := joinB_size_le (l := l) (j + 1)
      have hsj := HJN.out
      obtain ⟨S, hS⟩ : ∃ S, joinB (l.take j) = S := ⟨_, rfl⟩
      obtain ⟨T, hT⟩ : ∃ T, (l[j]'HJ.out.1).text = T := ⟨_, rfl⟩
      rw [hS, hT] at hnx
      rw [hS]
      rw [hT] at x2
      by_cases hz : j = 0
      · have hg : ¬ 0 < j := by omega
        have hSe : S = ByteArray.empty := by rw [← hS, hz]; rfl
        rw [if_pos hz] at hnx
        rw [hnx] at hsz
        have h2 : ¬ 9223372036854775807 < S.size + T.size := by rw [hSe, show ByteArray.empty.size = 0 from rfl]; omega
        have HN : Hid (joinB (l.take (j + 1)) = S ++ T) := hid (by rw [hnx, hSe]; simp)
        clear hk hjl hnx hsz hsj hS hT hz hSe
        go_wp2
        go_roundg (l.length - (j + 1))
        case measure => have := HK.out; have := HJ.out.1; omega
        case rel => exact ⟨j + 1, by have := HJ.out.1; omega, rfl, by rw [HN.out], more_of (by repeat (first | (with_reducible exact Below.refl _ _) | (with_reducible exact bl_mm) | (with_reducible refine bl_dr ?_) | (with_reducible refine bl_drN ?_ _) | (with_reducible refine bl_al ?_ _) | (with_reducible refine bl_more ?_ _ _)))⟩
      · have hg : 0 < j := by omega
        rw [if_neg hz] at hnx
        rw [hnx, ByteArray.size_append, ByteArray.size_append] at hsz
        have hone : (⟨#[32]⟩ : ByteArray).size = 1 := rfl
        have h1 : ¬ 9223372036854775807 < S.size + 1 := by omega
        have h2 : ¬ 9223372036854775807 < S.size + 1 + T.size := by omega
        have HN := hid hnx
        clear hk hjl hnx hsz hsj hS hT hz hone
        go_wp2
        go_roundg (l.length - (j + 1))
        case measure => have := HK.out; have := HJ.out.1; omega
        case rel => exact ⟨j + 1, by have := HJ.out.1; omega, rfl, by rw [HN.out], more_of (by repeat (first | (with_reducible exact Below.refl _ _) | (with_reducible exact bl_mm) | (with_reducible refine bl_dr ?_) | (with_reducible refine bl_drN ?_ _) | (with_reducible refine bl_al ?_ _) | (with_reducible refine bl_more ?_ _ _)))⟩
    · have hje : j = l.length := by omega
      subst hje
      rw [List.take_length]
      have hnl : ¬ (l.length : Int) < l.length := by omega
      clear hk hjl
      go_wp2
      go_ret
      exact ⟨rfl, (by repeat (first | (with_reducible exact Below.refl _ _) | (with_reducible exact bl_mm) | (with_reducible refine bl_dr ?_) | (with_reducible refine bl_drN ?_ _) | (with_reducible refine bl_al ?_ _) | (with_reducible refine bl_more ?_ _ _)))⟩
def wds : List ByteArray := [wd0, wd1, wd2, wd3, wd4, wd5, wd6, wd7]
def wordF (s : ByteArray) (j : Nat) : Bool := (wds.drop j).any (fun x => decide (s = x))
theorem wordF_0 (s : ByteArray) : wordF s 0 = wordB s := by
  simp only [wordF, wds, wordB, List.drop_zero, List.any_cons, List.any_nil, Bool.or_false, Bool.or_assoc]
def EqW (s : ByteArray) (j : Nat) : Prop := wordB s = wordF s j
abbrev wdO : Obj := .cells #[.string wd0, .string wd1, .string wd2, .string wd3, .string wd4, .string wd5, .string wd6, .string wd7] 9
set_option maxHeartbeats 1000000 in
theorem dword_any {w : World} {s : ByteArray} : Calls Try.prog 16 #[.string s] w fun e w' => e = .returned (.bool (wordB s)) ∧ Below w.heap.size w w' := by
  go_enter Try.func16, Try.ntmps16
  go_wp2
  go_loopg [4] 8 (fun k vi wr => ∃ j : Nat, j + k = 8 ∧ vi = .int .i64 (j : Int) ∧ EqW s j ∧ ∃ ex dx, wr = more (w.alloc wdO) ex dx)
  case atStart => exact ⟨0, by omega, rfl, (wordF_0 s).symm, more_of (Below.refl _ _)⟩
  case round =>
    obtain ⟨j, hk, rfl, hw, ex, dx, rfl⟩ := hrel
    have HK := hid hk
    have HW := hid hw
    have hcs : j = 8 ∨ j = 0 ∨ j = 1 ∨ j = 2 ∨ j = 3 ∨ j = 4 ∨ j = 5 ∨ j = 6 ∨ j = 7 := by omega
    rcases hcs with rfl | rfl | rfl | rfl | rfl | rfl | rfl | rfl | rfl
    · clear hk hw
      go_wp2
      go_ret
      exact ⟨by rw [show wordB s = _ from HW.out]; rfl, (by repeat (first | (with_reducible exact Below.refl _ _) | (with_reducible exact bl_mm) | (with_reducible refine bl_dr ?_) | (with_reducible refine bl_drN ?_ _) | (with_reducible refine bl_al ?_ _) | (with_reducible refine bl_more ?_ _ _)))⟩
    · by_cases he : wd0 = s
      · have HE : Hid (wordB s = true) := hid (by rw [show wordB s = _ from HW.out, ← he]; rfl)
        have hq : ([115, 97, 103, 97] == s.toList) = true := by rw [← (show wd0.toList = [115, 97, 103, 97] by rw [ByteArray.toList_eq])]; exact eqs_t he
        clear hk hw he
        go_wp2
        go_ret
        exact ⟨by rw [HE.out]; rfl, (by repeat (first | (with_reducible exact Below.refl _ _) | (with_reducible exact bl_mm) | (with_reducible refine bl_dr ?_) | (with_reducible refine bl_drN ?_ _) | (with_reducible refine bl_al ?_ _) | (with_reducible refine bl_more ?_ _ _)))⟩
      · have HE : Hid (EqW s (0 + 1)) := hid (by
          show wordB s = wordF s (0 + 1)
          have h : wordF s 0 = (decide (s = wd0) || wordF s (0 + 1)) := rfl
          rw [show wordB s = _ from HW.out, h, decide_eq_false (fun h => he h.symm), Bool.false_or])
        have hq : ([115, 97, 103, 97] == s.toList) = false := by rw [← (show wd0.toList = [115, 97, 103, 97] by rw [ByteArray.toList_eq])]; exact eqs_f he
        clear hk hw he
        go_wp2
        go_roundg (8 - (0 + 1))
        case measure => have := HK.out; omega
        case rel => exact ⟨0 + 1, by omega, rfl, HE.out, more_of (by repeat (first | (with_reducible exact Below.refl _ _) | (with_reducible exact bl_mm) | (with_reducible refine bl_dr ?_) | (with_reducible refine bl_drN ?_ _) | (with_reducible refine bl_al ?_ _) | (with_reducible refine bl_more ?_ _ _)))⟩
    · by_cases he : wd1 = s
      · have HE : Hid (wordB s = true) := hid (by rw [show wordB s = _ from HW.out, ← he]; rfl)
        have hq : ([115, 116, 101, 112] == s.toList) = true := by rw [← (show wd1.toList = [115, 116, 101, 112] by rw [ByteArray.toList_eq])]; exact eqs_t he
        clear hk hw he
        go_wp2
        go_ret
        exact ⟨by rw [HE.out]; rfl, (by repeat (first | (with_reducible exact Below.refl _ _) | (with_reducible exact bl_mm) | (with_reducible refine bl_dr ?_) | (with_reducible refine bl_drN ?_ _) | (with_reducible refine bl_al ?_ _) | (with_reducible refine bl_more ?_ _ _)))⟩
      · have HE : Hid (EqW s (1 + 1)) := hid (by
          show wordB s = wordF s (1 + 1)
          have h : wordF s 1 = (decide (s = wd1) || wordF s (1 + 1)) := rfl
          rw [show wordB s = _ from HW.out, h, decide_eq_false (fun h => he h.symm), Bool.false_or])
        have hq : ([115, 116, 101, 112] == s.toList) = false := by rw [← (show wd1.toList = [115, 116, 101, 112] by rw [ByteArray.toList_eq])]; exact eqs_f he
        clear hk hw he
        go_wp2
        go_roundg (8 - (1 + 1))
        case measure => have := HK.out; omega
        case rel => exact ⟨1 + 1, by omega, rfl, HE.out, more_of (by repeat (first | (with_reducible exact Below.refl _ _) | (with_reducible exact bl_mm) | (with_reducible refine bl_dr ?_) | (with_reducible refine bl_drN ?_ _) | (with_reducible refine bl_al ?_ _) | (with_reducible refine bl_more ?_ _ _)))⟩
    · by_cases he : wd2 = s
      · have HE : Hid (wordB s = true) := hid (by rw [show wordB s = _ from HW.out, ← he]; rfl)
        have hq : ([115, 117, 98] == s.toList) = true := by rw [← (show wd2.toList = [115, 117, 98] by rw [ByteArray.toList_eq])]; exact eqs_t he
        clear hk hw he
        go_wp2
        go_ret
        exact ⟨by rw [HE.out]; rfl, (by repeat (first | (with_reducible exact Below.refl _ _) | (with_reducible exact bl_mm) | (with_reducible refine bl_dr ?_) | (with_reducible refine bl_drN ?_ _) | (with_reducible refine bl_al ?_ _) | (with_reducible refine bl_more ?_ _ _)))⟩
      · have HE : Hid (EqW s (2 + 1)) := hid (by
          show wordB s = wordF s (2 + 1)
          have h : wordF s 2 = (decide (s = wd2) || wordF s (2 + 1)) := rfl
          rw [show wordB s = _ from HW.out, h, decide_eq_false (fun h => he h.symm), Bool.false_or])
        have hq : ([115, 117, 98] == s.toList) = false := by rw [← (show wd2.toList = [115, 117, 98] by rw [ByteArray.toList_eq])]; exact eqs_f he
        clear hk hw he
        go_wp2
        go_roundg (8 - (2 + 1))
        case measure => have := HK.out; omega
        case rel => exact ⟨2 + 1, by omega, rfl, HE.out, more_of (by repeat (first | (with_reducible exact Below.refl _ _) | (with_reducible exact bl_mm) | (with_reducible refine bl_dr ?_) | (with_reducible refine bl_drN ?_ _) | (with_reducible refine bl_al ?_ _) | (with_reducible refine bl_more ?_ _ _)))⟩
    · by_cases he : wd3 = s
      · have HE : Hid (wordB s = true) := hid (by rw [show wordB s = _ from HW.out, ← he]; rfl)
        have hq : ([117, 110, 100, 111] == s.toList) = true := by rw [← (show wd3.toList = [117, 110, 100, 111] by rw [ByteArray.toList_eq])]; exact eqs_t he
        clear hk hw he
        go_wp2
        go_ret
        exact ⟨by rw [HE.out]; rfl, (by repeat (first | (with_reducible exact Below.refl _ _) | (with_reducible exact bl_mm) | (with_reducible refine bl_dr ?_) | (with_reducible refine bl_drN ?_ _) | (with_reducible refine bl_al ?_ _) | (with_reducible refine bl_more ?_ _ _)))⟩
      · have HE : Hid (EqW s (3 + 1)) := hid (by
          show wordB s = wordF s (3 + 1)
          have h : wordF s 3 = (decide (s = wd3) || wordF s (3 + 1)) := rfl
          rw [show wordB s = _ from HW.out, h, decide_eq_false (fun h => he h.symm), Bool.false_or])
        have hq : ([117, 110, 100, 111] == s.toList) = false := by rw [← (show wd3.toList = [117, 110, 100, 111] by rw [ByteArray.toList_eq])]; exact eqs_f he
        clear hk hw he
        go_wp2
        go_roundg (8 - (3 + 1))
        case measure => have := HK.out; omega
        case rel => exact ⟨3 + 1, by omega, rfl, HE.out, more_of (by repeat (first | (with_reducible exact Below.refl _ _) | (with_reducible exact bl_mm) | (with_reducible refine bl_dr ?_) | (with_reducible refine bl_drN ?_ _) | (with_reducible refine bl_al ?_ _) | (with_reducible refine bl_more ?_ _ _)))⟩
    · by_cases he : wd4 = s
      · have HE : Hid (wordB s = true) := hid (by rw [show wordB s = _ from HW.out, ← he]; rfl)
        have hq : ([97, 102, 116, 101, 114] == s.toList) = true := by rw [← (show wd4.toList = [97, 102, 116, 101, 114] by rw [ByteArray.toList_eq])]; exact eqs_t he
        clear hk hw he
        go_wp2
        go_ret
        exact ⟨by rw [HE.out]; rfl, (by repeat (first | (with_reducible exact Below.refl _ _) | (with_reducible exact bl_mm) | (with_reducible refine bl_dr ?_) | (with_reducible refine bl_drN ?_ _) | (with_reducible refine bl_al ?_ _) | (with_reducible refine bl_more ?_ _ _)))⟩
      · have HE : Hid (EqW s (4 + 1)) := hid (by
          show wordB s = wordF s (4 + 1)
          have h : wordF s 4 = (decide (s = wd4) || wordF s (4 + 1)) := rfl
          rw [show wordB s = _ from HW.out, h, decide_eq_false (fun h => he h.symm), Bool.false_or])
        have hq : ([97, 102, 116, 101, 114] == s.toList) = false := by rw [← (show wd4.toList = [97, 102, 116, 101, 114] by rw [ByteArray.toList_eq])]; exact eqs_f he
        clear hk hw he
        go_wp2
        go_roundg (8 - (4 + 1))
        case measure => have := HK.out; omega
        case rel => exact ⟨4 + 1, by omega, rfl, HE.out, more_of (by repeat (first | (with_reducible exact Below.refl _ _) | (with_reducible exact bl_mm) | (with_reducible refine bl_dr ?_) | (with_reducible refine bl_drN ?_ _) | (with_reducible refine bl_al ?_ _) | (with_reducible refine bl_more ?_ _ _)))⟩
    · by_cases he : wd5 = s
      · have HE : Hid (wordB s = true) := hid (by rw [show wordB s = _ from HW.out, ← he]; rfl)
        have hq : ([118, 105, 116, 97, 108] == s.toList) = true := by rw [← (show wd5.toList = [118, 105, 116, 97, 108] by rw [ByteArray.toList_eq])]; exact eqs_t he
        clear hk hw he
        go_wp2
        go_ret
        exact ⟨by rw [HE.out]; rfl, (by repeat (first | (with_reducible exact Below.refl _ _) | (with_reducible exact bl_mm) | (with_reducible refine bl_dr ?_) | (with_reducible refine bl_drN ?_ _) | (with_reducible refine bl_al ?_ _) | (with_reducible refine bl_more ?_ _ _)))⟩
      · have HE : Hid (EqW s (5 + 1)) := hid (by
          show wordB s = wordF s (5 + 1)
          have h : wordF s 5 = (decide (s = wd5) || wordF s (5 + 1)) := rfl
          rw [show wordB s = _ from HW.out, h, decide_eq_false (fun h => he h.symm), Bool.false_or])
        have hq : ([118, 105, 116, 97, 108] == s.toList) = false := by rw [← (show wd5.toList = [118, 105, 116, 97, 108] by rw [ByteArray.toList_eq])]; exact eqs_f he
        clear hk hw he
        go_wp2
        go_roundg (8 - (5 + 1))
        case measure => have := HK.out; omega
        case rel => exact ⟨5 + 1, by omega, rfl, HE.out, more_of (by repeat (first | (with_reducible exact Below.refl _ _) | (with_reducible exact bl_mm) | (with_reducible refine bl_dr ?_) | (with_reducible refine bl_drN ?_ _) | (with_reducible refine bl_al ?_ _) | (with_reducible refine bl_more ?_ _ _)))⟩
    · by_cases he : wd6 = s
      · have HE : Hid (wordB s = true) := hid (by rw [show wordB s = _ from HW.out, ← he]; rfl)
        have hq : ([108, 111, 111, 115, 101] == s.toList) = true := by rw [← (show wd6.toList = [108, 111, 111, 115, 101] by rw [ByteArray.toList_eq])]; exact eqs_t he
        clear hk hw he
        go_wp2
        go_ret
        exact ⟨by rw [HE.out]; rfl, (by repeat (first | (with_reducible exact Below.refl _ _) | (with_reducible exact bl_mm) | (with_reducible refine bl_dr ?_) | (with_reducible refine bl_drN ?_ _) | (with_reducible refine bl_al ?_ _) | (with_reducible refine bl_more ?_ _ _)))⟩
      · have HE : Hid (EqW s (6 + 1)) := hid (by
          show wordB s = wordF s (6 + 1)
          have h : wordF s 6 = (decide (s = wd6) || wordF s (6 + 1)) := rfl
          rw [show wordB s = _ from HW.out, h, decide_eq_false (fun h => he h.symm), Bool.false_or])
        have hq : ([108, 111, 111, 115, 101] == s.toList) = false := by rw [← (show wd6.toList = [108, 111, 111, 115, 101] by rw [ByteArray.toList_eq])]; exact eqs_f he
        clear hk hw he
        go_wp2
        go_roundg (8 - (6 + 1))
        case measure => have := HK.out; omega
        case rel => exact ⟨6 + 1, by omega, rfl, HE.out, more_of (by repeat (first | (with_reducible exact Below.refl _ _) | (with_reducible exact bl_mm) | (with_reducible refine bl_dr ?_) | (with_reducible refine bl_drN ?_ _) | (with_reducible refine bl_al ?_ _) | (with_reducible refine bl_more ?_ _ _)))⟩
    · by_cases he : wd7 = s
      · have HE : Hid (wordB s = true) := hid (by rw [show wordB s = _ from HW.out, ← he]; rfl)
        have hq : ([111, 114] == s.toList) = true := by rw [← (show wd7.toList = [111, 114] by rw [ByteArray.toList_eq])]; exact eqs_t he
        clear hk hw he
        go_wp2
        go_ret
        exact ⟨by rw [HE.out]; rfl, (by repeat (first | (with_reducible exact Below.refl _ _) | (with_reducible exact bl_mm) | (with_reducible refine bl_dr ?_) | (with_reducible refine bl_drN ?_ _) | (with_reducible refine bl_al ?_ _) | (with_reducible refine bl_more ?_ _ _)))⟩
      · have HE : Hid (EqW s (7 + 1)) := hid (by
          show wordB s = wordF s (7 + 1)
          have h : wordF s 7 = (decide (s = wd7) || wordF s (7 + 1)) := rfl
          rw [show wordB s = _ from HW.out, h, decide_eq_false (fun h => he h.symm), Bool.false_or])
        have hq : ([111, 114] == s.toList) = false := by rw [← (show wd7.toList = [111, 114] by rw [ByteArray.toList_eq])]; exact eqs_f he
        clear hk hw he
        go_wp2
        go_roundg (8 - (7 + 1))
        case measure => have := HK.out; omega
        case rel => exact ⟨7 + 1, by omega, rfl, HE.out, more_of (by repeat (first | (with_reducible exact Below.refl _ _) | (with_reducible exact bl_mm) | (with_reducible refine bl_dr ?_) | (with_reducible refine bl_drN ?_ _) | (with_reducible refine bl_al ?_ _) | (with_reducible refine bl_more ?_ _ _)))⟩
end Go.Proofs.Ythekoefcienipaa
