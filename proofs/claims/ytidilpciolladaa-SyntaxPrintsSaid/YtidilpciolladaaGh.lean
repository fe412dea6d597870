/- Texts with blanks between; the document's 'put' and 'node'. -/
import Derived.Test.YtidilpciolladaaGg
/- Texts with blanks between; the document's 'put' and 'node'. -/
namespace Go.Proofs.Ytidilpciolladaa
open Go.RowKit

theorem jn_data (l : List ByteArray) : (jn l).data.toList = Lib.join (l.map (·.data.toList)) [32] := by
  unfold jn joinB
  simp only [List.map_map]
  rfl
theorem jn_app {xs ys : List ByteArray} (hx : xs ≠ []) (hy : ys ≠ []) : jn (xs ++ ys) = jn xs ++ ⟨#[32]⟩ ++ jn ys := by
  apply bytes_eq
  rw [cat_data, cat_data, jn_data, jn_data, jn_data, List.map_append]
  cases xs with
  | nil => exact absurd rfl hx
  | cons x xs =>
    cases ys with
    | nil => exact absurd rfl hy
    | cons y ys =>
      simp [Lib.join_cons, Lib.joinTail]
theorem jn_one (x : ByteArray) : jn [x] = x := by
  apply bytes_eq
  rw [jn_data]
  exact Lib.join_one _ _
theorem jn_size {xs ys : List ByteArray} (hx : xs ≠ []) (hy : ys ≠ []) : (jn (xs ++ ys)).size = (jn xs).size + 1 + (jn ys).size := by
  rw [jn_app hx hy, ByteArray.size_append, ByteArray.size_append]; rfl
theorem jn_le (xs ys : List ByteArray) : (jn xs).size ≤ (jn (xs ++ ys)).size := by
  by_cases hx : xs = []
  · subst hx; exact Nat.zero_le _
  · by_cases hy : ys = []
    · subst hy; rw [List.append_nil]; exact Nat.le_refl _
    · rw [jn_size hx hy]; omega
theorem jn_snoc {xs : List ByteArray} (hx : xs ≠ []) (c : ByteArray) : jn (xs ++ [c]) = jn xs ++ (⟨#[32]⟩ ++ c) := by
  rw [jn_app hx (by simp), jn_one, ByteArray.append_assoc]
theorem lit_or : (⟨#[32]⟩ ++ wd7 : ByteArray) = { data := #[32, 111, 114] } := by apply bytes_eq; rfl
theorem lit_l : (⟨#[32]⟩ ++ cL : ByteArray) = { data := #[32, 40] } := by apply bytes_eq; rfl
theorem lit_r : (⟨#[32]⟩ ++ cR : ByteArray) = { data := #[32, 41] } := by apply bytes_eq; rfl
theorem lit_rb : (⟨#[32]⟩ ++ cRb : ByteArray) = { data := #[32, 125] } := by apply bytes_eq; rfl
theorem lit_sm : (⟨#[32]⟩ ++ cSm : ByteArray) = { data := #[32, 59] } := by apply bytes_eq; rfl
theorem jn_v (nm : ByteArray) : jn [wd5, wd2, nm] = { data := #[118, 105, 116, 97, 108, 32, 115, 117, 98, 32] } ++ nm := by
  apply bytes_eq; rw [jn_data, cat_data]; simp [Lib.join_cons, Lib.joinTail]
theorem jn_l (nm : ByteArray) : jn [wd6, wd2, nm] = { data := #[108, 111, 111, 115, 101, 32, 115, 117, 98, 32] } ++ nm := by
  apply bytes_eq; rw [jn_data, cat_data]; simp [Lib.join_cons, Lib.joinTail]
theorem jn_s (nm : ByteArray) : jn [wd1, nm] = { data := #[115, 116, 101, 112, 32] } ++ nm := by
  apply bytes_eq; rw [jn_data, cat_data]; simp [Lib.join_cons, Lib.joinTail]
theorem jn_g (nm : ByteArray) : jn [wd0, nm] = { data := #[115, 97, 103, 97, 32] } ++ nm := by
  apply bytes_eq; rw [jn_data, cat_data]; simp [Lib.join_cons, Lib.joinTail]
theorem jn_un {xs : List ByteArray} (hx : xs ≠ []) (un : ByteArray) : jn (xs ++ [wd3, un]) = jn xs ++ { data := #[32, 117, 110, 100, 111, 32] } ++ un := by
  rw [jn_app hx (by simp)]; apply bytes_eq; simp only [cat_data, jn_data]; simp [Lib.join_cons, Lib.joinTail]
theorem jn_af {xs : List ByteArray} (hx : xs ≠ []) (s : ByteArray) : jn (xs ++ [wd4, s]) = jn xs ++ { data := #[32, 97, 102, 116, 101, 114, 32] } ++ s := by
  rw [jn_app hx (by simp)]; apply bytes_eq; simp only [cat_data, jn_data]; simp [Lib.join_cons, Lib.joinTail]
theorem jn_cm {xs : List ByteArray} (hx : xs ≠ []) (s : ByteArray) : jn (xs ++ [cCm, s]) = jn xs ++ { data := #[32, 44, 32] } ++ s := by
  rw [jn_app hx (by simp)]; apply bytes_eq; simp only [cat_data, jn_data]; simp [Lib.join_cons, Lib.joinTail]
theorem hdT_ne (nm : ByteArray) (sb vt : Bool) : hdT nm sb vt ≠ [] := by
  unfold hdT
  cases vt <;> cases sb <;> simp
theorem aft_pre (af : List ByteArray) (i : Nat) : ∃ r, aftT af = aftT (af.take i) ++ r := by
  cases af with
  | nil => exact ⟨[], by simp [aftT]⟩
  | cons x af =>
    cases i with
    | zero => exact ⟨_, rfl⟩
    | succ i =>
      refine ⟨aftO (af.drop i), ?_⟩
      rw [List.take_succ_cons, aftT, aftT, List.cons_append, List.cons_append, ← aftO_app, List.take_append_drop]
theorem tot_le {hd af tl : List ByteArray} {B : Nat} (h : (jn (hd ++ (aftT af ++ tl))).size ≤ B) (i : Nat) : (jn (hd ++ aftT (af.take i))).size ≤ B := by
  obtain ⟨r, hr⟩ := aft_pre af i
  have := jn_le (hd ++ aftT (af.take i)) (r ++ tl)
  rw [hr, List.append_assoc] at h
  rw [List.append_assoc] at this
  omega
def DPutP (m : Nat) : Prop := ∀ (w : World) (K : Nat → Prop) (lv : Value) (l : List (List Nd)), (bodyE m).Row K w lv l → (jn (tkA l)).size ≤ 140737488355328 →
  Calls Try.prog 33 #[lv] w fun e w' => e = .returned (.string (jn (tkA l))) ∧ Below w.heap.size w w'
theorem DPutP.at {m : Nat} (h : DPutP m) {w : World} {K : Nat → Prop} {lv : Value} {l : List (List Nd)} (hr : (bodyE m).Row K w lv l) (hl : (jn (tkA l)).size ≤ 140737488355328) :
    Calls Try.prog 33 #[lv] w fun e w' => e = .returned (.string (jn (tkA l))) ∧ Below w.heap.size w w' := h w K lv l hr hl
set_option maxRecDepth 8000 in
set_option maxHeartbeats 4000000 in
theorem dnode_of {m : Nat} (hP : DPutP m) {w : World} {K : Nat → Prop} {nm un : ByteArray} {af : List ByteArray} {sb vt : Bool} {al : List (List Nd)} {A1 A2 : Option Addr} {n1 c1 n2 c2 : Nat}
    (h1 : Enc.str.Row K w (.slice A1 n1 c1) af) (h2 : (bodyE m).Row K w (.slice A2 n2 c2) al) (hl : (jn (tkN (.mk nm un af sb vt al))).size ≤ 140737488355328) :
    Calls Try.prog 55 #[.agg #[.string nm, .string un, .slice A1 n1 c1, .bool sb, .bool vt, .slice A2 n2 c2]] w fun e w' => e = .returned (.string (jn (tkN (.mk nm un af sb vt al)))) ∧ Below w.heap.size w w' := by
  obtain ⟨_, _, he2, _, _⟩ := h2.form
  obtain ⟨rfl, _, _⟩ := (Value.slice.inj he2).2
  obtain ⟨_, _, he1, hz1, hz2⟩ := h1.form
  obtain ⟨rfl, _, _⟩ := (Value.slice.inj he1).2
  have hax : (af.length : Int) ≤ 9223372036854775807 := by unfold maxLen at hz2; omega
  rw [tkN_eq] at hl ⊢
  have HALL0 : Hid ((jn (hdT nm sb vt ++ (undoT un ++ (aftT af ++ (if sb = true then tkA al else [cSm]))))).size ≤ 140737488355328) := hid hl
  show Calls Try.prog 55 _ w fun e w' => e = .returned (.string (jn (hdT nm sb vt ++ (undoT un ++ (aftT af ++ (if sb = true then tkA al else [cSm])))))) ∧ Below w.heap.size w w'
  have HP := hid hP
  have HR1 := hid h1
  have HR2 := hid h2
  clear hP h1 h2 hl he1 he2 hz1 hz2
  cases vt with
  | true =>
    cases sb with
    | true =>
      have hnz : 10 + nm.size ≤ 140737488355328 := by
        have h := jn_le (hdT nm true true) (undoT un ++ (aftT af ++ if true = true then tkA al else [cSm]))
        rw [show jn (hdT nm true true) = _ from jn_v nm, ByteArray.size_append] at h
        have h2 := HALL0.out
        have h3 : ({ data := #[118, 105, 116, 97, 108, 32, 115, 117, 98, 32] } : ByteArray).size = 10 := rfl
        omega
      have g1 : ¬ 9223372036854775807 < 5 + nm.size := by omega
      have g2 : ¬ 9223372036854775807 < 10 + nm.size := by omega
      by_cases hu : un.size = 0
      · have hs := emp_t hu
        have hs2 : un.toList = [] := by cases h : un.toList with | nil => rfl | cons a l => rw [h] at hs; cases hs
        have hut : undoT un = [] := by unfold undoT; rw [if_pos hu]
        rw [hut] at HALL0 ⊢
        obtain ⟨PX2, hpx⟩ : ∃ y, hdT nm true true = y := ⟨_, rfl⟩
        have HGOAL : Hid (∀ tl : List ByteArray, PX2 ++ (aftT af ++ tl) = hdT nm true true ++ ([] ++ (aftT af ++ tl))) := hid (by rw [← hpx]; intro tl; rfl)
        have HALL : Hid ((jn (PX2 ++ (aftT af ++ if true = true then tkA al else [cSm]))).size ≤ 140737488355328) := hid (by rw [← hpx]; exact HALL0.out)
        have HTOT : Hid (∀ i, (jn (PX2 ++ aftT (af.take i))).size ≤ 140737488355328) := hid (tot_le HALL.out)
        have HNE : Hid (PX2 ≠ []) := hid (by rw [← hpx]; exact hdT_ne nm true true)
        have HJ : Hid (jn PX2 = { data := #[118, 105, 116, 97, 108, 32, 115, 117, 98, 32] } ++ nm) := hid (by rw [← hpx]; exact jn_v nm)
        clear hu hut hs hnz HALL0 hpx
        go_enter Try.func55, Try.ntmps55
        go_wp2
        go_loopg [3, 4] af.length (fun k vs vi wr => ∃ (i : Nat) (S : ByteArray), i + k = af.length ∧ vi = .int .i64 (i : Int) ∧ vs = .string S ∧ S = jn (PX2 ++ aftT (af.take i)) ∧ ∃ ex dx, wr = more (w.alloc (.cells #[.string nm, .string un, .slice A1 af.length c1, .bool true, .bool true, .slice A2 al.length c2] 73)) ex dx)
        case atStart => exact ⟨0, _, by omega, rfl, rfl, (by rw [show aftT (af.take 0) = [] by simp [aftT], List.append_nil]; exact HJ.out.symm), more_of (by repeat (first | (with_reducible exact Below.refl _ _) | (with_reducible exact bl_mm) | (with_reducible refine bl_dr ?_) | (with_reducible refine bl_drN ?_ _) | (with_reducible refine bl_al ?_ _) | (with_reducible refine bl_more ?_ _ _)))⟩
        case round =>
          obtain ⟨i, S, hk, rfl, rfl, hS, ex, dx, rfl⟩ := hrel
          have HK := hid hk
          have HSE := hid hS
          by_cases hil : i < af.length
          · obtain ⟨s, hx⟩ := get_lt hil
            have HX := hid hx
            have HI := hid (And.intro hil trivial)
            have hi0 : (0 : Int) ≤ i := by omega
            have hi1 : (i : Int) < af.length := by omega
            obtain ⟨b, off, rfl, _, hbl, y1⟩ := row_str HR1.out hx
            have hnx := aftT_next hx
            have hle := HTOT.out i
            have hle2 := HTOT.out (i + 1)
            rw [← hS] at hle
            by_cases hi : i = 0
            · have hie : ((i : Int) == 0) = true := by rw [hi]; rfl
              rw [if_pos hi] at hnx
              rw [hnx, ← List.append_assoc, jn_af (by simp [HNE.out]), ← hS, ByteArray.size_append, ByteArray.size_append] at hle2
              have hle3 : S.size + 7 + s.size ≤ 140737488355328 := hle2
              have h1 : ¬ 9223372036854775807 < S.size + 7 := by omega
              have h2 : ¬ 9223372036854775807 < S.size + 7 + s.size := by omega
              have HN : Hid (S ++ { data := #[32, 97, 102, 116, 101, 114, 32] } ++ s = jn (PX2 ++ aftT (af.take (i + 1)))) := hid (by rw [hnx, ← List.append_assoc, jn_af (by simp [HNE.out]), hS])
              clear hk hil hx hS hi hnx hle hle2 hle3
              go_wp2
              go_roundg (af.length - (i + 1))
              case measure => have := HK.out; have := HI.out.1; omega
              case rel => exact ⟨i + 1, _, by have := HI.out.1; omega, rfl, rfl, HN.out, more_of (by repeat (first | (with_reducible exact Below.refl _ _) | (with_reducible exact bl_mm) | (with_reducible refine bl_dr ?_) | (with_reducible refine bl_drN ?_ _) | (with_reducible refine bl_al ?_ _) | (with_reducible refine bl_more ?_ _ _)))⟩
            · have hie : ((i : Int) == 0) = false := by rw [beq_eq_false_iff_ne]; omega
              rw [if_neg hi] at hnx
              rw [hnx, ← List.append_assoc, jn_cm (by simp [HNE.out]), ← hS, ByteArray.size_append, ByteArray.size_append] at hle2
              have hle3 : S.size + 3 + s.size ≤ 140737488355328 := hle2
              have h1 : ¬ 9223372036854775807 < S.size + 3 := by omega
              have h2 : ¬ 9223372036854775807 < S.size + 3 + s.size := by omega
              have HN : Hid (S ++ { data := #[32, 44, 32] } ++ s = jn (PX2 ++ aftT (af.take (i + 1)))) := hid (by rw [hnx, ← List.append_assoc, jn_cm (by simp [HNE.out]), hS])
              clear hk hil hx hS hi hnx hle hle2 hle3
              go_wp2
              go_roundg (af.length - (i + 1))
              case measure => have := HK.out; have := HI.out.1; omega
              case rel => exact ⟨i + 1, _, by have := HI.out.1; omega, rfl, rfl, HN.out, more_of (by repeat (first | (with_reducible exact Below.refl _ _) | (with_reducible exact bl_mm) | (with_reducible refine bl_dr ?_) | (with_reducible refine bl_drN ?_ _) | (with_reducible refine bl_al ?_ _) | (with_reducible refine bl_more ?_ _ _)))⟩
          · have hie : i = af.length := by omega
            subst hie
            rw [List.take_length] at hS
            have hnl : ¬ (af.length : Int) < af.length := by omega
            have HSX := hid hS
            clear hk hil hS
            obtain ⟨P, hP⟩ : ∃ P, jn (tkA al) = P := ⟨_, rfl⟩
            have hz : S.size + 1 + P.size ≤ 140737488355328 := by
              have h : (jn (PX2 ++ (aftT af ++ tkA al))).size ≤ 140737488355328 := HALL.out
              rw [← List.append_assoc, jn_size (by simp [HNE.out]) (by simp [tkA]), ← HSX.out, hP] at h
              exact h
            have h1 : ¬ 9223372036854775807 < S.size + 1 := by omega
            have h2 : ¬ 9223372036854775807 < S.size + 1 + P.size := by omega
            have HPJ := hid hP
            have HPL : Hid ((jn (tkA al)).size ≤ 140737488355328) := hid (by rw [hP]; omega)
            clear hP hz
            go_wp2_with (first | (go_at_call 33; refine (DPutP.at HP.out (HR2.out.below (by repeat (first | (with_reducible exact Below.refl _ _) | (with_reducible exact bl_mm) | (with_reducible refine bl_dr ?_) | (with_reducible refine bl_drN ?_ _) | (with_reducible refine bl_al ?_ _) | (with_reducible refine bl_more ?_ _ _)))) HPL.out).mono ?_; rw [HPJ.out]; rintro e w3 ⟨rfl, hb3⟩; obtain ⟨ex3, dx3, rfl⟩ := more_of hb3; clear hb3))
            go_ret
            refine ⟨?_, (by repeat (first | (with_reducible exact Below.refl _ _) | (with_reducible exact bl_mm) | (with_reducible refine bl_dr ?_) | (with_reducible refine bl_drN ?_ _) | (with_reducible refine bl_al ?_ _) | (with_reducible refine bl_more ?_ _ _)))⟩
            have he : S ++ { data := #[32] } ++ P = jn (PX2 ++ (aftT af ++ tkA al)) := by
              rw [← HPJ.out, HSX.out, ← jn_app (by simp [HNE.out]) (by simp [tkA])]
              simp only [List.append_assoc]
            exact congrArg (fun x => Ending.returned (Value.string x)) (he.trans (congrArg jn (HGOAL.out _)))
      · have hs := emp_f hu
        have hut : undoT un = [wd3, un] := by unfold undoT; rw [if_neg hu]
        rw [hut] at HALL0 ⊢
        obtain ⟨PX2, hpx⟩ : ∃ y, hdT nm true true ++ [wd3, un] = y := ⟨_, rfl⟩
        have HGOAL : Hid (∀ tl : List ByteArray, PX2 ++ (aftT af ++ tl) = hdT nm true true ++ ([wd3, un] ++ (aftT af ++ tl))) := hid (by rw [← hpx]; intro tl; rw [List.append_assoc])
        have HALL : Hid ((jn (PX2 ++ (aftT af ++ if true = true then tkA al else [cSm]))).size ≤ 140737488355328) := hid (by rw [HGOAL.out]; exact HALL0.out)
        have HTOT : Hid (∀ i, (jn (PX2 ++ aftT (af.take i))).size ≤ 140737488355328) := hid (tot_le HALL.out)
        have HNE : Hid (PX2 ≠ []) := hid (by rw [← hpx]; simp)
        have hju : jn PX2 = jn (hdT nm true true) ++ { data := #[32, 117, 110, 100, 111, 32] } ++ un := by rw [← hpx]; exact jn_un (hdT_ne nm true true) un
        have hz := jn_le PX2 (aftT af ++ if true = true then tkA al else [cSm])
        rw [hju, ByteArray.size_append, ByteArray.size_append] at hz
        obtain ⟨S1, hS1⟩ : ∃ S1, ({ data := #[118, 105, 116, 97, 108, 32, 115, 117, 98, 32] } : ByteArray) ++ nm = S1 := ⟨_, rfl⟩
        have hj : jn (hdT nm true true) = S1 := (jn_v nm).trans hS1
        rw [hj] at hz hju
        have hz2 : S1.size + 6 + un.size ≤ 140737488355328 := Nat.le_trans hz HALL.out
        have h1 : ¬ 9223372036854775807 < S1.size + 6 := by omega
        have h2 : ¬ 9223372036854775807 < S1.size + 6 + un.size := by omega
        have HJU := hid hju
        clear hu hut hnz HALL0 hz hz2 hju hj hpx
        go_enter Try.func55, Try.ntmps55
        go_wp2
        go_loopg [3, 4] af.length (fun k vs vi wr => ∃ (i : Nat) (S : ByteArray), i + k = af.length ∧ vi = .int .i64 (i : Int) ∧ vs = .string S ∧ S = jn (PX2 ++ aftT (af.take i)) ∧ ∃ ex dx, wr = more (w.alloc (.cells #[.string nm, .string un, .slice A1 af.length c1, .bool true, .bool true, .slice A2 al.length c2] 73)) ex dx)
        case atStart => exact ⟨0, _, by omega, rfl, rfl, (by rw [show aftT (af.take 0) = [] by simp [aftT], List.append_nil]; exact HJU.out.symm), more_of (by repeat (first | (with_reducible exact Below.refl _ _) | (with_reducible exact bl_mm) | (with_reducible refine bl_dr ?_) | (with_reducible refine bl_drN ?_ _) | (with_reducible refine bl_al ?_ _) | (with_reducible refine bl_more ?_ _ _)))⟩
        case round =>
          obtain ⟨i, S, hk, rfl, rfl, hS, ex, dx, rfl⟩ := hrel
          have HK := hid hk
          have HSE := hid hS
          by_cases hil : i < af.length
          · obtain ⟨s, hx⟩ := get_lt hil
            have HX := hid hx
            have HI := hid (And.intro hil trivial)
            have hi0 : (0 : Int) ≤ i := by omega
            have hi1 : (i : Int) < af.length := by omega
            obtain ⟨b, off, rfl, _, hbl, y1⟩ := row_str HR1.out hx
            have hnx := aftT_next hx
            have hle := HTOT.out i
            have hle2 := HTOT.out (i + 1)
            rw [← hS] at hle
            by_cases hi : i = 0
            · have hie : ((i : Int) == 0) = true := by rw [hi]; rfl
              rw [if_pos hi] at hnx
              rw [hnx, ← List.append_assoc, jn_af (by simp [HNE.out]), ← hS, ByteArray.size_append, ByteArray.size_append] at hle2
              have hle3 : S.size + 7 + s.size ≤ 140737488355328 := hle2
              have h1 : ¬ 9223372036854775807 < S.size + 7 := by omega
              have h2 : ¬ 9223372036854775807 < S.size + 7 + s.size := by omega
              have HN : Hid (S ++ { data := #[32, 97, 102, 116, 101, 114, 32] } ++ s = jn (PX2 ++ aftT (af.take (i + 1)))) := hid (by rw [hnx, ← List.append_assoc, jn_af (by simp [HNE.out]), hS])
              clear hk hil hx hS hi hnx hle hle2 hle3
              go_wp2
              go_roundg (af.length - (i + 1))
              case measure => have := HK.out; have := HI.out.1; omega
              case rel => exact ⟨i + 1, _, by have := HI.out.1; omega, rfl, rfl, HN.out, more_of (by repeat (first | (with_reducible exact Below.refl _ _) | (with_reducible exact bl_mm) | (with_reducible refine bl_dr ?_) | (with_reducible refine bl_drN ?_ _) | (with_reducible refine bl_al ?_ _) | (with_reducible refine bl_more ?_ _ _)))⟩
            · have hie : ((i : Int) == 0) = false := by rw [beq_eq_false_iff_ne]; omega
              rw [if_neg hi] at hnx
              rw [hnx, ← List.append_assoc, jn_cm (by simp [HNE.out]), ← hS, ByteArray.size_append, ByteArray.size_append] at hle2
              have hle3 : S.size + 3 + s.size ≤ 140737488355328 := hle2
              have h1 : ¬ 9223372036854775807 < S.size + 3 := by omega
              have h2 : ¬ 9223372036854775807 < S.size + 3 + s.size := by omega
              have HN : Hid (S ++ { data := #[32, 44, 32] } ++ s = jn (PX2 ++ aftT (af.take (i + 1)))) := hid (by rw [hnx, ← List.append_assoc, jn_cm (by simp [HNE.out]), hS])
              clear hk hil hx hS hi hnx hle hle2 hle3
              go_wp2
              go_roundg (af.length - (i + 1))
              case measure => have := HK.out; have := HI.out.1; omega
              case rel => exact ⟨i + 1, _, by have := HI.out.1; omega, rfl, rfl, HN.out, more_of (by repeat (first | (with_reducible exact Below.refl _ _) | (with_reducible exact bl_mm) | (with_reducible refine bl_dr ?_) | (with_reducible refine bl_drN ?_ _) | (with_reducible refine bl_al ?_ _) | (with_reducible refine bl_more ?_ _ _)))⟩
          · have hie : i = af.length := by omega
            subst hie
            rw [List.take_length] at hS
            have hnl : ¬ (af.length : Int) < af.length := by omega
            have HSX := hid hS
            clear hk hil hS
            obtain ⟨P, hP⟩ : ∃ P, jn (tkA al) = P := ⟨_, rfl⟩
            have hz : S.size + 1 + P.size ≤ 140737488355328 := by
              have h : (jn (PX2 ++ (aftT af ++ tkA al))).size ≤ 140737488355328 := HALL.out
              rw [← List.append_assoc, jn_size (by simp [HNE.out]) (by simp [tkA]), ← HSX.out, hP] at h
              exact h
            have h1 : ¬ 9223372036854775807 < S.size + 1 := by omega
            have h2 : ¬ 9223372036854775807 < S.size + 1 + P.size := by omega
            have HPJ := hid hP
            have HPL : Hid ((jn (tkA al)).size ≤ 140737488355328) := hid (by rw [hP]; omega)
            clear hP hz
            go_wp2_with (first | (go_at_call 33; refine (DPutP.at HP.out (HR2.out.below (by repeat (first | (with_reducible exact Below.refl _ _) | (with_reducible exact bl_mm) | (with_reducible refine bl_dr ?_) | (with_reducible refine bl_drN ?_ _) | (with_reducible refine bl_al ?_ _) | (with_reducible refine bl_more ?_ _ _)))) HPL.out).mono ?_; rw [HPJ.out]; rintro e w3 ⟨rfl, hb3⟩; obtain ⟨ex3, dx3, rfl⟩ := more_of hb3; clear hb3))
            go_ret
            refine ⟨?_, (by repeat (first | (with_reducible exact Below.refl _ _) | (with_reducible exact bl_mm) | (with_reducible refine bl_dr ?_) | (with_reducible refine bl_drN ?_ _) | (with_reducible refine bl_al ?_ _) | (with_reducible refine bl_more ?_ _ _)))⟩
            have he : S ++ { data := #[32] } ++ P = jn (PX2 ++ (aftT af ++ tkA al)) := by
              rw [← HPJ.out, HSX.out, ← jn_app (by simp [HNE.out]) (by simp [tkA])]
              simp only [List.append_assoc]
            exact congrArg (fun x => Ending.returned (Value.string x)) (he.trans (congrArg jn (HGOAL.out _)))
    | false =>
      have hnz : 10 + nm.size ≤ 140737488355328 := by
        have h := jn_le (hdT nm false true) (undoT un ++ (aftT af ++ if false = true then tkA al else [cSm]))
        rw [show jn (hdT nm false true) = _ from jn_v nm, ByteArray.size_append] at h
        have h2 := HALL0.out
        have h3 : ({ data := #[118, 105, 116, 97, 108, 32, 115, 117, 98, 32] } : ByteArray).size = 10 := rfl
        omega
      have g1 : ¬ 9223372036854775807 < 5 + nm.size := by omega
      have g2 : ¬ 9223372036854775807 < 10 + nm.size := by omega
      by_cases hu : un.size = 0
      · have hs := emp_t hu
        have hs2 : un.toList = [] := by cases h : un.toList with | nil => rfl | cons a l => rw [h] at hs; cases hs
        have hut : undoT un = [] := by unfold undoT; rw [if_pos hu]
        rw [hut] at HALL0 ⊢
        obtain ⟨PX2, hpx⟩ : ∃ y, hdT nm false true = y := ⟨_, rfl⟩
        have HGOAL : Hid (∀ tl : List ByteArray, PX2 ++ (aftT af ++ tl) = hdT nm false true ++ ([] ++ (aftT af ++ tl))) := hid (by rw [← hpx]; intro tl; rfl)
        have HALL : Hid ((jn (PX2 ++ (aftT af ++ if false = true then tkA al else [cSm]))).size ≤ 140737488355328) := hid (by rw [← hpx]; exact HALL0.out)
        have HTOT : Hid (∀ i, (jn (PX2 ++ aftT (af.take i))).size ≤ 140737488355328) := hid (tot_le HALL.out)
        have HNE : Hid (PX2 ≠ []) := hid (by rw [← hpx]; exact hdT_ne nm false true)
        have HJ : Hid (jn PX2 = { data := #[118, 105, 116, 97, 108, 32, 115, 117, 98, 32] } ++ nm) := hid (by rw [← hpx]; exact jn_v nm)
        clear hu hut hs hnz HALL0 hpx
        go_enter Try.func55, Try.ntmps55
        go_wp2
        go_loopg [3, 4] af.length (fun k vs vi wr => ∃ (i : Nat) (S : ByteArray), i + k = af.length ∧ vi = .int .i64 (i : Int) ∧ vs = .string S ∧ S = jn (PX2 ++ aftT (af.take i)) ∧ ∃ ex dx, wr = more (w.alloc (.cells #[.string nm, .string un, .slice A1 af.length c1, .bool false, .bool true, .slice A2 al.length c2] 73)) ex dx)
        case atStart => exact ⟨0, _, by omega, rfl, rfl, (by rw [show aftT (af.take 0) = [] by simp [aftT], List.append_nil]; exact HJ.out.symm), more_of (by repeat (first | (with_reducible exact Below.refl _ _) | (with_reducible exact bl_mm) | (with_reducible refine bl_dr ?_) | (with_reducible refine bl_drN ?_ _) | (with_reducible refine bl_al ?_ _) | (with_reducible refine bl_more ?_ _ _)))⟩
        case round =>
          obtain ⟨i, S, hk, rfl, rfl, hS, ex, dx, rfl⟩ := hrel
          have HK := hid hk
          have HSE := hid hS
          by_cases hil : i < af.length
          · obtain ⟨s, hx⟩ := get_lt hil
            have HX := hid hx
            have HI := hid (And.intro hil trivial)
            have hi0 : (0 : Int) ≤ i := by omega
            have hi1 : (i : Int) < af.length := by omega
            obtain ⟨b, off, rfl, _, hbl, y1⟩ := row_str HR1.out hx
            have hnx := aftT_next hx
            have hle := HTOT.out i
            have hle2 := HTOT.out (i + 1)
            rw [← hS] at hle
            by_cases hi : i = 0
            · have hie : ((i : Int) == 0) = true := by rw [hi]; rfl
              rw [if_pos hi] at hnx
              rw [hnx, ← List.append_assoc, jn_af (by simp [HNE.out]), ← hS, ByteArray.size_append, ByteArray.size_append] at hle2
              have hle3 : S.size + 7 + s.size ≤ 140737488355328 := hle2
              have h1 : ¬ 9223372036854775807 < S.size + 7 := by omega
              have h2 : ¬ 9223372036854775807 < S.size + 7 + s.size := by omega
              have HN : Hid (S ++ { data := #[32, 97, 102, 116, 101, 114, 32] } ++ s = jn (PX2 ++ aftT (af.take (i + 1)))) := hid (by rw [hnx, ← List.append_assoc, jn_af (by simp [HNE.out]), hS])
              clear hk hil hx hS hi hnx hle hle2 hle3
              go_wp2
              go_roundg (af.length - (i + 1))
              case measure => have := HK.out; have := HI.out.1; omega
              case rel => exact ⟨i + 1, _, by have := HI.out.1; omega, rfl, rfl, HN.out, more_of (by repeat (first | (with_reducible exact Below.refl _ _) | (with_reducible exact bl_mm) | (with_reducible refine bl_dr ?_) | (with_reducible refine bl_drN ?_ _) | (with_reducible refine bl_al ?_ _) | (with_reducible refine bl_more ?_ _ _)))⟩
            · have hie : ((i : Int) == 0) = false := by rw [beq_eq_false_iff_ne]; omega
              rw [if_neg hi] at hnx
              rw [hnx, ← List.append_assoc, jn_cm (by simp [HNE.out]), ← hS, ByteArray.size_append, ByteArray.size_append] at hle2
              have hle3 : S.size + 3 + s.size ≤ 140737488355328 := hle2
              have h1 : ¬ 9223372036854775807 < S.size + 3 := by omega
              have h2 : ¬ 9223372036854775807 < S.size + 3 + s.size := by omega
              have HN : Hid (S ++ { data := #[32, 44, 32] } ++ s = jn (PX2 ++ aftT (af.take (i + 1)))) := hid (by rw [hnx, ← List.append_assoc, jn_cm (by simp [HNE.out]), hS])
              clear hk hil hx hS hi hnx hle hle2 hle3
              go_wp2
              go_roundg (af.length - (i + 1))
              case measure => have := HK.out; have := HI.out.1; omega
              case rel => exact ⟨i + 1, _, by have := HI.out.1; omega, rfl, rfl, HN.out, more_of (by repeat (first | (with_reducible exact Below.refl _ _) | (with_reducible exact bl_mm) | (with_reducible refine bl_dr ?_) | (with_reducible refine bl_drN ?_ _) | (with_reducible refine bl_al ?_ _) | (with_reducible refine bl_more ?_ _ _)))⟩
          · have hie : i = af.length := by omega
            subst hie
            rw [List.take_length] at hS
            have hnl : ¬ (af.length : Int) < af.length := by omega
            have HSX := hid hS
            clear hk hil hS
            have hz : S.size + 2 ≤ 140737488355328 := by
              have h : (jn (PX2 ++ (aftT af ++ [cSm]))).size ≤ 140737488355328 := HALL.out
              rw [← List.append_assoc, jn_size (by simp [HNE.out]) (by simp), ← HSX.out] at h
              exact h
            have h1 : ¬ 9223372036854775807 < S.size + 2 := by omega
            clear hz
            go_wp2
            go_ret
            refine ⟨?_, (by repeat (first | (with_reducible exact Below.refl _ _) | (with_reducible exact bl_mm) | (with_reducible refine bl_dr ?_) | (with_reducible refine bl_drN ?_ _) | (with_reducible refine bl_al ?_ _) | (with_reducible refine bl_more ?_ _ _)))⟩
            have he : S ++ { data := #[32, 59] } = jn (PX2 ++ (aftT af ++ [cSm])) := by
              rw [← lit_sm, HSX.out, ← jn_snoc (by simp [HNE.out])]
              simp only [List.append_assoc]
            exact congrArg (fun x => Ending.returned (Value.string x)) (he.trans (congrArg jn (HGOAL.out _)))
      · have hs := emp_f hu
        have hut : undoT un = [wd3, un] := by unfold undoT; rw [if_neg hu]
        rw [hut] at HALL0 ⊢
        obtain ⟨PX2, hpx⟩ : ∃ y, hdT nm false true ++ [wd3, un] = y := ⟨_, rfl⟩
        have HGOAL : Hid (∀ tl : List ByteArray, PX2 ++ (aftT af ++ tl) = hdT nm false true ++ ([wd3, un] ++ (aftT af ++ tl))) := hid (by rw [← hpx]; intro tl; rw [List.append_assoc])
        have HALL : Hid ((jn (PX2 ++ (aftT af ++ if false = true then tkA al else [cSm]))).size ≤ 140737488355328) := hid (by rw [HGOAL.out]; exact HALL0.out)
        have HTOT : Hid (∀ i, (jn (PX2 ++ aftT (af.take i))).size ≤ 140737488355328) := hid (tot_le HALL.out)
        have HNE : Hid (PX2 ≠ []) := hid (by rw [← hpx]; simp)
        have hju : jn PX2 = jn (hdT nm false true) ++ { data := #[32, 117, 110, 100, 111, 32] } ++ un := by rw [← hpx]; exact jn_un (hdT_ne nm false true) un
        have hz := jn_le PX2 (aftT af ++ if false = true then tkA al else [cSm])
        rw [hju, ByteArray.size_append, ByteArray.size_append] at hz
        obtain ⟨S1, hS1⟩ : ∃ S1, ({ data := #[118, 105, 116, 97, 108, 32, 115, 117, 98, 32] } : ByteArray) ++ nm = S1 := ⟨_, rfl⟩
        have hj : jn (hdT nm false true) = S1 := (jn_v nm).trans hS1
        rw [hj] at hz hju
        have hz2 : S1.size + 6 + un.size ≤ 140737488355328 := Nat.le_trans hz HALL.out
        have h1 : ¬ 9223372036854775807 < S1.size + 6 := by omega
        have h2 : ¬ 9223372036854775807 < S1.size + 6 + un.size := by omega
        have HJU := hid hju
        clear hu hut hnz HALL0 hz hz2 hju hj hpx
        go_enter Try.func55, Try.ntmps55
        go_wp2
        go_loopg [3, 4] af.length (fun k vs vi wr => ∃ (i : Nat) (S : ByteArray), i + k = af.length ∧ vi = .int .i64 (i : Int) ∧ vs = .string S ∧ S = jn (PX2 ++ aftT (af.take i)) ∧ ∃ ex dx, wr = more (w.alloc (.cells #[.string nm, .string un, .slice A1 af.length c1, .bool false, .bool true, .slice A2 al.length c2] 73)) ex dx)
        case atStart => exact ⟨0, _, by omega, rfl, rfl, (by rw [show aftT (af.take 0) = [] by simp [aftT], List.append_nil]; exact HJU.out.symm), more_of (by repeat (first | (with_reducible exact Below.refl _ _) | (with_reducible exact bl_mm) | (with_reducible refine bl_dr ?_) | (with_reducible refine bl_drN ?_ _) | (with_reducible refine bl_al ?_ _) | (with_reducible refine bl_more ?_ _ _)))⟩
        case round =>
          obtain ⟨i, S, hk, rfl, rfl, hS, ex, dx, rfl⟩ := hrel
          have HK := hid hk
          have HSE := hid hS
          by_cases hil : i < af.length
          · obtain ⟨s, hx⟩ := get_lt hil
            have HX := hid hx
            have HI := hid (And.intro hil trivial)
            have hi0 : (0 : Int) ≤ i := by omega
            have hi1 : (i : Int) < af.length := by omega
            obtain ⟨b, off, rfl, _, hbl, y1⟩ := row_str HR1.out hx
            have hnx := aftT_next hx
            have hle := HTOT.out i
            have hle2 := HTOT.out (i + 1)
            rw [← hS] at hle
            by_cases hi : i = 0
            · have hie : ((i : Int) == 0) = true := by rw [hi]; rfl
              rw [if_pos hi] at hnx
              rw [hnx, ← List.append_assoc, jn_af (by simp [HNE.out]), ← hS, ByteArray.size_append, ByteArray.size_append] at hle2
              have hle3 : S.size + 7 + s.size ≤ 140737488355328 := hle2
              have h1 : ¬ 9223372036854775807 < S.size + 7 := by omega
              have h2 : ¬ 9223372036854775807 < S.size + 7 + s.size := by omega
              have HN : Hid (S ++ { data := #[32, 97, 102, 116, 101, 114, 32] } ++ s = jn (PX2 ++ aftT (af.take (i + 1)))) := hid (by rw [hnx, ← List.append_assoc, jn_af (by simp [HNE.out]), hS])
              clear hk hil hx hS hi hnx hle hle2 hle3
              go_wp2
              go_roundg (af.length - (i + 1))
              case measure => have := HK.out; have := HI.out.1; omega
              case rel => exact ⟨i + 1, _, by have := HI.out.1; omega, rfl, rfl, HN.out, more_of (by repeat (first | (with_reducible exact Below.refl _ _) | (with_reducible exact bl_mm) | (with_reducible refine bl_dr ?_) | (with_reducible refine bl_drN ?_ _) | (with_reducible refine bl_al ?_ _) | (with_reducible refine bl_more ?_ _ _)))⟩
            · have hie : ((i : Int) == 0) = false := by rw [beq_eq_false_iff_ne]; omega
              rw [if_neg hi] at hnx
              rw [hnx, ← List.append_assoc, jn_cm (by simp [HNE.out]), ← hS, ByteArray.size_append, ByteArray.size_append] at hle2
              have hle3 : S.size + 3 + s.size ≤ 140737488355328 := hle2
              have h1 : ¬ 9223372036854775807 < S.size + 3 := by omega
              have h2 : ¬ 9223372036854775807 < S.size + 3 + s.size := by omega
              have HN : Hid (S ++ { data := #[32, 44, 32] } ++ s = jn (PX2 ++ aftT (af.take (i + 1)))) := hid (by rw [hnx, ← List.append_assoc, jn_cm (by simp [HNE.out]), hS])
              clear hk hil hx hS hi hnx hle hle2 hle3
              go_wp2
              go_roundg (af.length - (i + 1))
              case measure => have := HK.out; have := HI.out.1; omega
              case rel => exact ⟨i + 1, _, by have := HI.out.1; omega, rfl, rfl, HN.out, more_of (by repeat (first | (with_reducible exact Below.refl _ _) | (with_reducible exact bl_mm) | (with_reducible refine bl_dr ?_) | (with_reducible refine bl_drN ?_ _) | (with_reducible refine bl_al ?_ _) | (with_reducible refine bl_more ?_ _ _)))⟩
          · have hie : i = af.length := by omega
            subst hie
            rw [List.take_length] at hS
            have hnl : ¬ (af.length : Int) < af.length := by omega
            have HSX := hid hS
            clear hk hil hS
            have hz : S.size + 2 ≤ 140737488355328 := by
              have h : (jn (PX2 ++ (aftT af ++ [cSm]))).size ≤ 140737488355328 := HALL.out
              rw [← List.append_assoc, jn_size (by simp [HNE.out]) (by simp), ← HSX.out] at h
              exact h
            have h1 : ¬ 9223372036854775807 < S.size + 2 := by omega
            clear hz
            go_wp2
            go_ret
            refine ⟨?_, (by repeat (first | (with_reducible exact Below.refl _ _) | (with_reducible exact bl_mm) | (with_reducible refine bl_dr ?_) | (with_reducible refine bl_drN ?_ _) | (with_reducible refine bl_al ?_ _) | (with_reducible refine bl_more ?_ _ _)))⟩
            have he : S ++ { data := #[32, 59] } = jn (PX2 ++ (aftT af ++ [cSm])) := by
              rw [← lit_sm, HSX.out, ← jn_snoc (by simp [HNE.out])]
              simp only [List.append_assoc]
            exact congrArg (fun x => Ending.returned (Value.string x)) (he.trans (congrArg jn (HGOAL.out _)))
  | false =>
    cases sb with
    | true =>
      have hnz : 10 + nm.size ≤ 140737488355328 := by
        have h := jn_le (hdT nm true false) (undoT un ++ (aftT af ++ if true = true then tkA al else [cSm]))
        rw [show jn (hdT nm true false) = _ from jn_l nm, ByteArray.size_append] at h
        have h2 := HALL0.out
        have h3 : ({ data := #[108, 111, 111, 115, 101, 32, 115, 117, 98, 32] } : ByteArray).size = 10 := rfl
        omega
      have g1 : ¬ 9223372036854775807 < 5 + nm.size := by omega
      have g2 : ¬ 9223372036854775807 < 10 + nm.size := by omega
      by_cases hu : un.size = 0
      · have hs := emp_t hu
        have hs2 : un.toList = [] := by cases h : un.toList with | nil => rfl | cons a l => rw [h] at hs; cases hs
        have hut : undoT un = [] := by unfold undoT; rw [if_pos hu]
        rw [hut] at HALL0 ⊢
        obtain ⟨PX2, hpx⟩ : ∃ y, hdT nm true false = y := ⟨_, rfl⟩
        have HGOAL : Hid (∀ tl : List ByteArray, PX2 ++ (aftT af ++ tl) = hdT nm true false ++ ([] ++ (aftT af ++ tl))) := hid (by rw [← hpx]; intro tl; rfl)
        have HALL : Hid ((jn (PX2 ++ (aftT af ++ if true = true then tkA al else [cSm]))).size ≤ 140737488355328) := hid (by rw [← hpx]; exact HALL0.out)
        have HTOT : Hid (∀ i, (jn (PX2 ++ aftT (af.take i))).size ≤ 140737488355328) := hid (tot_le HALL.out)
        have HNE : Hid (PX2 ≠ []) := hid (by rw [← hpx]; exact hdT_ne nm true false)
        have HJ : Hid (jn PX2 = { data := #[108, 111, 111, 115, 101, 32, 115, 117, 98, 32] } ++ nm) := hid (by rw [← hpx]; exact jn_l nm)
        clear hu hut hs hnz HALL0 hpx
        go_enter Try.func55, Try.ntmps55
        go_wp2
        go_loopg [3, 4] af.length (fun k vs vi wr => ∃ (i : Nat) (S : ByteArray), i + k = af.length ∧ vi = .int .i64 (i : Int) ∧ vs = .string S ∧ S = jn (PX2 ++ aftT (af.take i)) ∧ ∃ ex dx, wr = more (w.alloc (.cells #[.string nm, .string un, .slice A1 af.length c1, .bool true, .bool false, .slice A2 al.length c2] 73)) ex dx)
        case atStart => exact ⟨0, _, by omega, rfl, rfl, (by rw [show aftT (af.take 0) = [] by simp [aftT], List.append_nil]; exact HJ.out.symm), more_of (by repeat (first | (with_reducible exact Below.refl _ _) | (with_reducible exact bl_mm) | (with_reducible refine bl_dr ?_) | (with_reducible refine bl_drN ?_ _) | (with_reducible refine bl_al ?_ _) | (with_reducible refine bl_more ?_ _ _)))⟩
        case round =>
          obtain ⟨i, S, hk, rfl, rfl, hS, ex, dx, rfl⟩ := hrel
          have HK := hid hk
          have HSE := hid hS
          by_cases hil : i < af.length
          · obtain ⟨s, hx⟩ := get_lt hil
            have HX := hid hx
            have HI := hid (And.intro hil trivial)
            have hi0 : (0 : Int) ≤ i := by omega
            have hi1 : (i : Int) < af.length := by omega
            obtain ⟨b, off, rfl, _, hbl, y1⟩ := row_str HR1.out hx
            have hnx := aftT_next hx
            have hle := HTOT.out i
            have hle2 := HTOT.out (i + 1)
            rw [← hS] at hle
            by_cases hi : i = 0
            · have hie : ((i : Int) == 0) = true := by rw [hi]; rfl
              rw [if_pos hi] at hnx
              rw [hnx, ← List.append_assoc, jn_af (by simp [HNE.out]), ← hS, ByteArray.size_append, ByteArray.size_append] at hle2
              have hle3 : S.size + 7 + s.size ≤ 140737488355328 := hle2
              have h1 : ¬ 9223372036854775807 < S.size + 7 := by omega
              have h2 : ¬ 9223372036854775807 < S.size + 7 + s.size := by omega
              have HN : Hid (S ++ { data := #[32, 97, 102, 116, 101, 114, 32] } ++ s = jn (PX2 ++ aftT (af.take (i + 1)))) := hid (by rw [hnx, ← List.append_assoc, jn_af (by simp [HNE.out]), hS])
              clear hk hil hx hS hi hnx hle hle2 hle3
              go_wp2
              go_roundg (af.length - (i + 1))
              case measure => have := HK.out; have := HI.out.1; omega
              case rel => exact ⟨i + 1, _, by have := HI.out.1; omega, rfl, rfl, HN.out, more_of (by repeat (first | (with_reducible exact Below.refl _ _) | (with_reducible exact bl_mm) | (with_reducible refine bl_dr ?_) | (with_reducible refine bl_drN ?_ _) | (with_reducible refine bl_al ?_ _) | (with_reducible refine bl_more ?_ _ _)))⟩
            · have hie : ((i : Int) == 0) = false := by rw [beq_eq_false_iff_ne]; omega
              rw [if_neg hi] at hnx
              rw [hnx, ← List.append_assoc, jn_cm (by simp [HNE.out]), ← hS, ByteArray.size_append, ByteArray.size_append] at hle2
              have hle3 : S.size + 3 + s.size ≤ 140737488355328 := hle2
              have h1 : ¬ 9223372036854775807 < S.size + 3 := by omega
              have h2 : ¬ 9223372036854775807 < S.size + 3 + s.size := by omega
              have HN : Hid (S ++ { data := #[32, 44, 32] } ++ s = jn (PX2 ++ aftT (af.take (i + 1)))) := hid (by rw [hnx, ← List.append_assoc, jn_cm (by simp [HNE.out]), hS])
              clear hk hil hx hS hi hnx hle hle2 hle3
              go_wp2
              go_roundg (af.length - (i + 1))
              case measure => have := HK.out; have := HI.out.1; omega
              case rel => exact ⟨i + 1, _, by have := HI.out.1; omega, rfl, rfl, HN.out, more_of (by repeat (first | (with_reducible exact Below.refl _ _) | (with_reducible exact bl_mm) | (with_reducible refine bl_dr ?_) | (with_reducible refine bl_drN ?_ _) | (with_reducible refine bl_al ?_ _) | (with_reducible refine bl_more ?_ _ _)))⟩
          · have hie : i = af.length := by omega
            subst hie
            rw [List.take_length] at hS
            have hnl : ¬ (af.length : Int) < af.length := by omega
            have HSX := hid hS
            clear hk hil hS
            obtain ⟨P, hP⟩ : ∃ P, jn (tkA al) = P := ⟨_, rfl⟩
            have hz : S.size + 1 + P.size ≤ 140737488355328 := by
              have h : (jn (PX2 ++ (aftT af ++ tkA al))).size ≤ 140737488355328 := HALL.out
              rw [← List.append_assoc, jn_size (by simp [HNE.out]) (by simp [tkA]), ← HSX.out, hP] at h
              exact h
            have h1 : ¬ 9223372036854775807 < S.size + 1 := by omega
            have h2 : ¬ 9223372036854775807 < S.size + 1 + P.size := by omega
            have HPJ := hid hP
            have HPL : Hid ((jn (tkA al)).size ≤ 140737488355328) := hid (by rw [hP]; omega)
            clear hP hz
            go_wp2_with (first | (go_at_call 33; refine (DPutP.at HP.out (HR2.out.below (by repeat (first | (with_reducible exact Below.refl _ _) | (with_reducible exact bl_mm) | (with_reducible refine bl_dr ?_) | (with_reducible refine bl_drN ?_ _) | (with_reducible refine bl_al ?_ _) | (with_reducible refine bl_more ?_ _ _)))) HPL.out).mono ?_; rw [HPJ.out]; rintro e w3 ⟨rfl, hb3⟩; obtain ⟨ex3, dx3, rfl⟩ := more_of hb3; clear hb3))
            go_ret
            refine ⟨?_, (by repeat (first | (with_reducible exact Below.refl _ _) | (with_reducible exact bl_mm) | (with_reducible refine bl_dr ?_) | (with_reducible refine bl_drN ?_ _) | (with_reducible refine bl_al ?_ _) | (with_reducible refine bl_more ?_ _ _)))⟩
            have he : S ++ { data := #[32] } ++ P = jn (PX2 ++ (aftT af ++ tkA al)) := by
              rw [← HPJ.out, HSX.out, ← jn_app (by simp [HNE.out]) (by simp [tkA])]
              simp only [List.append_assoc]
            exact congrArg (fun x => Ending.returned (Value.string x)) (he.trans (congrArg jn (HGOAL.out _)))
      · have hs := emp_f hu
        have hut : undoT un = [wd3, un] := by unfold undoT; rw [if_neg hu]
        rw [hut] at HALL0 ⊢
        obtain ⟨PX2, hpx⟩ : ∃ y, hdT nm true false ++ [wd3, un] = y := ⟨_, rfl⟩
        have HGOAL : Hid (∀ tl : List ByteArray, PX2 ++ (aftT af ++ tl) = hdT nm true false ++ ([wd3, un] ++ (aftT af ++ tl))) := hid (by rw [← hpx]; intro tl; rw [List.append_assoc])
        have HALL : Hid ((jn (PX2 ++ (aftT af ++ if true = true then tkA al else [cSm]))).size ≤ 140737488355328) := hid (by rw [HGOAL.out]; exact HALL0.out)
        have HTOT : Hid (∀ i, (jn (PX2 ++ aftT (af.take i))).size ≤ 140737488355328) := hid (tot_le HALL.out)
        have HNE : Hid (PX2 ≠ []) := hid (by rw [← hpx]; simp)
        have hju : jn PX2 = jn (hdT nm true false) ++ { data := #[32, 117, 110, 100, 111, 32] } ++ un := by rw [← hpx]; exact jn_un (hdT_ne nm true false) un
        have hz := jn_le PX2 (aftT af ++ if true = true then tkA al else [cSm])
        rw [hju, ByteArray.size_append, ByteArray.size_append] at hz
        obtain ⟨S1, hS1⟩ : ∃ S1, ({ data := #[108, 111, 111, 115, 101, 32, 115, 117, 98, 32] } : ByteArray) ++ nm = S1 := ⟨_, rfl⟩
        have hj : jn (hdT nm true false) = S1 := (jn_l nm).trans hS1
        rw [hj] at hz hju
        have hz2 : S1.size + 6 + un.size ≤ 140737488355328 := Nat.le_trans hz HALL.out
        have h1 : ¬ 9223372036854775807 < S1.size + 6 := by omega
        have h2 : ¬ 9223372036854775807 < S1.size + 6 + un.size := by omega
        have HJU := hid hju
        clear hu hut hnz HALL0 hz hz2 hju hj hpx
        go_enter Try.func55, Try.ntmps55
        go_wp2
        go_loopg [3, 4] af.length (fun k vs vi wr => ∃ (i : Nat) (S : ByteArray), i + k = af.length ∧ vi = .int .i64 (i : Int) ∧ vs = .string S ∧ S = jn (PX2 ++ aftT (af.take i)) ∧ ∃ ex dx, wr = more (w.alloc (.cells #[.string nm, .string un, .slice A1 af.length c1, .bool true, .bool false, .slice A2 al.length c2] 73)) ex dx)
        case atStart => exact ⟨0, _, by omega, rfl, rfl, (by rw [show aftT (af.take 0) = [] by simp [aftT], List.append_nil]; exact HJU.out.symm), more_of (by repeat (first | (with_reducible exact Below.refl _ _) | (with_reducible exact bl_mm) | (with_reducible refine bl_dr ?_) | (with_reducible refine bl_drN ?_ _) | (with_reducible refine bl_al ?_ _) | (with_reducible refine bl_more ?_ _ _)))⟩
        case round =>
          obtain ⟨i, S, hk, rfl, rfl, hS, ex, dx, rfl⟩ := hrel
          have HK := hid hk
          have HSE := hid hS
          by_cases hil : i < af.length
          · obtain ⟨s, hx⟩ := get_lt hil
            have HX := hid hx
            have HI := hid (And.intro hil trivial)
            have hi0 : (0 : Int) ≤ i := by omega
            have hi1 : (i : Int) < af.length := by omega
            obtain ⟨b, off, rfl, _, hbl, y1⟩ := row_str HR1.out hx
            have hnx := aftT_next hx
            have hle := HTOT.out i
            have hle2 := HTOT.out (i + 1)
            rw [← hS] at hle
            by_cases hi : i = 0
            · have hie : ((i : Int) == 0) = true := by rw [hi]; rfl
              rw [if_pos hi] at hnx
              rw [hnx, ← List.append_assoc, jn_af (by simp [HNE.out]), ← hS, ByteArray.size_append, ByteArray.size_append] at hle2
              have hle3 : S.size + 7 + s.size ≤ 140737488355328 := hle2
              have h1 : ¬ 9223372036854775807 < S.size + 7 := by omega
              have h2 : ¬ 9223372036854775807 < S.size + 7 + s.size := by omega
              have HN : Hid (S ++ { data := #[32, 97, 102, 116, 101, 114, 32] } ++ s = jn (PX2 ++ aftT (af.take (i + 1)))) := hid (by rw [hnx, ← List.append_assoc, jn_af (by simp [HNE.out]), hS])
              clear hk hil hx hS hi hnx hle hle2 hle3
              go_wp2
              go_roundg (af.length - (i + 1))
              case measure => have := HK.out; have := HI.out.1; omega
              case rel => exact ⟨i + 1, _, by have := HI.out.1; omega, rfl, rfl, HN.out, more_of (by repeat (first | (with_reducible exact Below.refl _ _) | (with_reducible exact bl_mm) | (with_reducible refine bl_dr ?_) | (with_reducible refine bl_drN ?_ _) | (with_reducible refine bl_al ?_ _) | (with_reducible refine bl_more ?_ _ _)))⟩
            · have hie : ((i : Int) == 0) = false := by rw [beq_eq_false_iff_ne]; omega
              rw [if_neg hi] at hnx
              rw [hnx, ← List.append_assoc, jn_cm (by simp [HNE.out]), ← hS, ByteArray.size_append, ByteArray.size_append] at hle2
              have hle3 : S.size + 3 + s.size ≤ 140737488355328 := hle2
              have h1 : ¬ 9223372036854775807 < S.size + 3 := by omega
              have h2 : ¬ 9223372036854775807 < S.size + 3 + s.size := by omega
              have HN : Hid (S ++ { data := #[32, 44, 32] } ++ s = jn (PX2 ++ aftT (af.take (i + 1)))) := hid (by rw [hnx, ← List.append_assoc, jn_cm (by simp [HNE.out]), hS])
              clear hk hil hx hS hi hnx hle hle2 hle3
              go_wp2
              go_roundg (af.length - (i + 1))
              case measure => have := HK.out; have := HI.out.1; omega
              case rel => exact ⟨i + 1, _, by have := HI.out.1; omega, rfl, rfl, HN.out, more_of (by repeat (first | (with_reducible exact Below.refl _ _) | (with_reducible exact bl_mm) | (with_reducible refine bl_dr ?_) | (with_reducible refine bl_drN ?_ _) | (with_reducible refine bl_al ?_ _) | (with_reducible refine bl_more ?_ _ _)))⟩
          · have hie : i = af.length := by omega
            subst hie
            rw [List.take_length] at hS
            have hnl : ¬ (af.length : Int) < af.length := by omega
            have HSX := hid hS
            clear hk hil hS
            obtain ⟨P, hP⟩ : ∃ P, jn (tkA al) = P := ⟨_, rfl⟩
            have hz : S.size + 1 + P.size ≤ 140737488355328 := by
              have h : (jn (PX2 ++ (aftT af ++ tkA al))).size ≤ 140737488355328 := HALL.out
              rw [← List.append_assoc, jn_size (by simp [HNE.out]) (by simp [tkA]), ← HSX.out, hP] at h
              exact h
            have h1 : ¬ 9223372036854775807 < S.size + 1 := by omega
            have h2 : ¬ 9223372036854775807 < S.size + 1 + P.size := by omega
            have HPJ := hid hP
            have HPL : Hid ((jn (tkA al)).size ≤ 140737488355328) := hid (by rw [hP]; omega)
            clear hP hz
            go_wp2_with (first | (go_at_call 33; refine (DPutP.at HP.out (HR2.out.below (by repeat (first | (with_reducible exact Below.refl _ _) | (with_reducible exact bl_mm) | (with_reducible refine bl_dr ?_) | (with_reducible refine bl_drN ?_ _) | (with_reducible refine bl_al ?_ _) | (with_reducible refine bl_more ?_ _ _)))) HPL.out).mono ?_; rw [HPJ.out]; rintro e w3 ⟨rfl, hb3⟩; obtain ⟨ex3, dx3, rfl⟩ := more_of hb3; clear hb3))
            go_ret
            refine ⟨?_, (by repeat (first | (with_reducible exact Below.refl _ _) | (with_reducible exact bl_mm) | (with_reducible refine bl_dr ?_) | (with_reducible refine bl_drN ?_ _) | (with_reducible refine bl_al ?_ _) | (with_reducible refine bl_more ?_ _ _)))⟩
            have he : S ++ { data := #[32] } ++ P = jn (PX2 ++ (aftT af ++ tkA al)) := by
              rw [← HPJ.out, HSX.out, ← jn_app (by simp [HNE.out]) (by simp [tkA])]
              simp only [List.append_assoc]
            exact congrArg (fun x => Ending.returned (Value.string x)) (he.trans (congrArg jn (HGOAL.out _)))
    | false =>
      have hnz : 5 + nm.size ≤ 140737488355328 := by
        have h := jn_le (hdT nm false false) (undoT un ++ (aftT af ++ if false = true then tkA al else [cSm]))
        rw [show jn (hdT nm false false) = _ from jn_s nm, ByteArray.size_append] at h
        have h2 := HALL0.out
        have h3 : ({ data := #[115, 116, 101, 112, 32] } : ByteArray).size = 5 := rfl
        omega
      have g1 : ¬ 9223372036854775807 < 5 + nm.size := by omega
      have g2 : ¬ 9223372036854775807 < 10 + nm.size := by omega
      by_cases hu : un.size = 0
      · have hs := emp_t hu
        have hs2 : un.toList = [] := by cases h : un.toList with | nil => rfl | cons a l => rw [h] at hs; cases hs
        have hut : undoT un = [] := by unfold undoT; rw [if_pos hu]
        rw [hut] at HALL0 ⊢
        obtain ⟨PX2, hpx⟩ : ∃ y, hdT nm false false = y := ⟨_, rfl⟩
        have HGOAL : Hid (∀ tl : List ByteArray, PX2 ++ (aftT af ++ tl) = hdT nm false false ++ ([] ++ (aftT af ++ tl))) := hid (by rw [← hpx]; intro tl; rfl)
        have HALL : Hid ((jn (PX2 ++ (aftT af ++ if false = true then tkA al else [cSm]))).size ≤ 140737488355328) := hid (by rw [← hpx]; exact HALL0.out)
        have HTOT : Hid (∀ i, (jn (PX2 ++ aftT (af.take i))).size ≤ 140737488355328) := hid (tot_le HALL.out)
        have HNE : Hid (PX2 ≠ []) := hid (by rw [← hpx]; exact hdT_ne nm false false)
        have HJ : Hid (jn PX2 = { data := #[115, 116, 101, 112, 32] } ++ nm) := hid (by rw [← hpx]; exact jn_s nm)
        clear hu hut hs hnz HALL0 hpx
        go_enter Try.func55, Try.ntmps55
        go_wp2
        go_loopg [3, 4] af.length (fun k vs vi wr => ∃ (i : Nat) (S : ByteArray), i + k = af.length ∧ vi = .int .i64 (i : Int) ∧ vs = .string S ∧ S = jn (PX2 ++ aftT (af.take i)) ∧ ∃ ex dx, wr = more (w.alloc (.cells #[.string nm, .string un, .slice A1 af.length c1, .bool false, .bool false, .slice A2 al.length c2] 73)) ex dx)
        case atStart => exact ⟨0, _, by omega, rfl, rfl, (by rw [show aftT (af.take 0) = [] by simp [aftT], List.append_nil]; exact HJ.out.symm), more_of (by repeat (first | (with_reducible exact Below.refl _ _) | (with_reducible exact bl_mm) | (with_reducible refine bl_dr ?_) | (with_reducible refine bl_drN ?_ _) | (with_reducible refine bl_al ?_ _) | (with_reducible refine bl_more ?_ _ _)))⟩
        case round =>
          obtain ⟨i, S, hk, rfl, rfl, hS, ex, dx, rfl⟩ := hrel
          have HK := hid hk
          have HSE := hid hS
          by_cases hil : i < af.length
          · obtain ⟨s, hx⟩ := get_lt hil
            have HX := hid hx
            have HI := hid (And.intro hil trivial)
            have hi0 : (0 : Int) ≤ i := by omega
            have hi1 : (i : Int) < af.length := by omega
            obtain ⟨b, off, rfl, _, hbl, y1⟩ := row_str HR1.out hx
            have hnx := aftT_next hx
            have hle := HTOT.out i
            have hle2 := HTOT.out (i + 1)
            rw [← hS] at hle
            by_cases hi : i = 0
            · have hie : ((i : Int) == 0) = true := by rw [hi]; rfl
              rw [if_pos hi] at hnx
              rw [hnx, ← List.append_assoc, jn_af (by simp [HNE.out]), ← hS, ByteArray.size_append, ByteArray.size_append] at hle2
              have hle3 : S.size + 7 + s.size ≤ 140737488355328 := hle2
              have h1 : ¬ 9223372036854775807 < S.size + 7 := by omega
              have h2 : ¬ 9223372036854775807 < S.size + 7 + s.size := by omega
              have HN : Hid (S ++ { data := #[32, 97, 102, 116, 101, 114, 32] } ++ s = jn (PX2 ++ aftT (af.take (i + 1)))) := hid (by rw [hnx, ← List.append_assoc, jn_af (by simp [HNE.out]), hS])
              clear hk hil hx hS hi hnx hle hle2 hle3
              go_wp2
              go_roundg (af.length - (i + 1))
              case measure => have := HK.out; have := HI.out.1; omega
              case rel => exact ⟨i + 1, _, by have := HI.out.1; omega, rfl, rfl, HN.out, more_of (by repeat (first | (with_reducible exact Below.refl _ _) | (with_reducible exact bl_mm) | (with_reducible refine bl_dr ?_) | (with_reducible refine bl_drN ?_ _) | (with_reducible refine bl_al ?_ _) | (with_reducible refine bl_more ?_ _ _)))⟩
            · have hie : ((i : Int) == 0) = false := by rw [beq_eq_false_iff_ne]; omega
              rw [if_neg hi] at hnx
              rw [hnx, ← List.append_assoc, jn_cm (by simp [HNE.out]), ← hS, ByteArray.size_append, ByteArray.size_append] at hle2
              have hle3 : S.size + 3 + s.size ≤ 140737488355328 := hle2
              have h1 : ¬ 9223372036854775807 < S.size + 3 := by omega
              have h2 : ¬ 9223372036854775807 < S.size + 3 + s.size := by omega
              have HN : Hid (S ++ { data := #[32, 44, 32] } ++ s = jn (PX2 ++ aftT (af.take (i + 1)))) := hid (by rw [hnx, ← List.append_assoc, jn_cm (by simp [HNE.out]), hS])
              clear hk hil hx hS hi hnx hle hle2 hle3
              go_wp2
              go_roundg (af.length - (i + 1))
              case measure => have := HK.out; have := HI.out.1; omega
              case rel => exact ⟨i + 1, _, by have := HI.out.1; omega, rfl, rfl, HN.out, more_of (by repeat (first | (with_reducible exact Below.refl _ _) | (with_reducible exact bl_mm) | (with_reducible refine bl_dr ?_) | (with_reducible refine bl_drN ?_ _) | (with_reducible refine bl_al ?_ _) | (with_reducible refine bl_more ?_ _ _)))⟩
          · have hie : i = af.length := by omega
            subst hie
            rw [List.take_length] at hS
            have hnl : ¬ (af.length : Int) < af.length := by omega
            have HSX := hid hS
            clear hk hil hS
            have hz : S.size + 2 ≤ 140737488355328 := by
              have h : (jn (PX2 ++ (aftT af ++ [cSm]))).size ≤ 140737488355328 := HALL.out
              rw [← List.append_assoc, jn_size (by simp [HNE.out]) (by simp), ← HSX.out] at h
              exact h
            have h1 : ¬ 9223372036854775807 < S.size + 2 := by omega
            clear hz
            go_wp2
            go_ret
            refine ⟨?_, (by repeat (first | (with_reducible exact Below.refl _ _) | (with_reducible exact bl_mm) | (with_reducible refine bl_dr ?_) | (with_reducible refine bl_drN ?_ _) | (with_reducible refine bl_al ?_ _) | (with_reducible refine bl_more ?_ _ _)))⟩
            have he : S ++ { data := #[32, 59] } = jn (PX2 ++ (aftT af ++ [cSm])) := by
              rw [← lit_sm, HSX.out, ← jn_snoc (by simp [HNE.out])]
              simp only [List.append_assoc]
            exact congrArg (fun x => Ending.returned (Value.string x)) (he.trans (congrArg jn (HGOAL.out _)))
      · have hs := emp_f hu
        have hut : undoT un = [wd3, un] := by unfold undoT; rw [if_neg hu]
        rw [hut] at HALL0 ⊢
        obtain ⟨PX2, hpx⟩ : ∃ y, hdT nm false false ++ [wd3, un] = y := ⟨_, rfl⟩
        have HGOAL : Hid (∀ tl : List ByteArray, PX2 ++ (aftT af ++ tl) = hdT nm false false ++ ([wd3, un] ++ (aftT af ++ tl))) := hid (by rw [← hpx]; intro tl; rw [List.append_assoc])
        have HALL : Hid ((jn (PX2 ++ (aftT af ++ if false = true then tkA al else [cSm]))).size ≤ 140737488355328) := hid (by rw [HGOAL.out]; exact HALL0.out)
        have HTOT : Hid (∀ i, (jn (PX2 ++ aftT (af.take i))).size ≤ 140737488355328) := hid (tot_le HALL.out)
        have HNE : Hid (PX2 ≠ []) := hid (by rw [← hpx]; simp)
        have hju : jn PX2 = jn (hdT nm false false) ++ { data := #[32, 117, 110, 100, 111, 32] } ++ un := by rw [← hpx]; exact jn_un (hdT_ne nm false false) un
        have hz := jn_le PX2 (aftT af ++ if false = true then tkA al else [cSm])
        rw [hju, ByteArray.size_append, ByteArray.size_append] at hz
        obtain ⟨S1, hS1⟩ : ∃ S1, ({ data := #[115, 116, 101, 112, 32] } : ByteArray) ++ nm = S1 := ⟨_, rfl⟩
        have hj : jn (hdT nm false false) = S1 := (jn_s nm).trans hS1
        rw [hj] at hz hju
        have hz2 : S1.size + 6 + un.size ≤ 140737488355328 := Nat.le_trans hz HALL.out
        have h1 : ¬ 9223372036854775807 < S1.size + 6 := by omega
        have h2 : ¬ 9223372036854775807 < S1.size + 6 + un.size := by omega
        have HJU := hid hju
        clear hu hut hnz HALL0 hz hz2 hju hj hpx
        go_enter Try.func55, Try.ntmps55
        go_wp2
        go_loopg [3, 4] af.length (fun k vs vi wr => ∃ (i : Nat) (S : ByteArray), i + k = af.length ∧ vi = .int .i64 (i : Int) ∧ vs = .string S ∧ S = jn (PX2 ++ aftT (af.take i)) ∧ ∃ ex dx, wr = more (w.alloc (.cells #[.string nm, .string un, .slice A1 af.length c1, .bool false, .bool false, .slice A2 al.length c2] 73)) ex dx)
        case atStart => exact ⟨0, _, by omega, rfl, rfl, (by rw [show aftT (af.take 0) = [] by simp [aftT], List.append_nil]; exact HJU.out.symm), more_of (by repeat (first | (with_reducible exact Below.refl _ _) | (with_reducible exact bl_mm) | (with_reducible refine bl_dr ?_) | (with_reducible refine bl_drN ?_ _) | (with_reducible refine bl_al ?_ _) | (with_reducible refine bl_more ?_ _ _)))⟩
        case round =>
          obtain ⟨i, S, hk, rfl, rfl, hS, ex, dx, rfl⟩ := hrel
          have HK := hid hk
          have HSE := hid hS
          by_cases hil : i < af.length
          · obtain ⟨s, hx⟩ := get_lt hil
            have HX := hid hx
            have HI := hid (And.intro hil trivial)
            have hi0 : (0 : Int) ≤ i := by omega
            have hi1 : (i : Int) < af.length := by omega
            obtain ⟨b, off, rfl, _, hbl, y1⟩ := row_str HR1.out hx
            have hnx := aftT_next hx
            have hle := HTOT.out i
            have hle2 := HTOT.out (i + 1)
            rw [← hS] at hle
            by_cases hi : i = 0
            · have hie : ((i : Int) == 0) = true := by rw [hi]; rfl
              rw [if_pos hi] at hnx
              rw [hnx, ← List.append_assoc, jn_af (by simp [HNE.out]), ← hS, ByteArray.size_append, ByteArray.size_append] at hle2
              have hle3 : S.size + 7 + s.size ≤ 140737488355328 := hle2
              have h1 : ¬ 9223372036854775807 < S.size + 7 := by omega
              have h2 : ¬ 9223372036854775807 < S.size + 7 + s.size := by omega
              have HN : Hid (S ++ { data := #[32, 97, 102, 116, 101, 114, 32] } ++ s = jn (PX2 ++ aftT (af.take (i + 1)))) := hid (by rw [hnx, ← List.append_assoc, jn_af (by simp [HNE.out]), hS])
              clear hk hil hx hS hi hnx hle hle2 hle3
              go_wp2
              go_roundg (af.length - (i + 1))
              case measure => have := HK.out; have := HI.out.1; omega
              case rel => exact ⟨i + 1, _, by have := HI.out.1; omega, rfl, rfl, HN.out, more_of (by repeat (first | (with_reducible exact Below.refl _ _) | (with_reducible exact bl_mm) | (with_reducible refine bl_dr ?_) | (with_reducible refine bl_drN ?_ _) | (with_reducible refine bl_al ?_ _) | (with_reducible refine bl_more ?_ _ _)))⟩
            · have hie : ((i : Int) == 0) = false := by rw [beq_eq_false_iff_ne]; omega
              rw [if_neg hi] at hnx
              rw [hnx, ← List.append_assoc, jn_cm (by simp [HNE.out]), ← hS, ByteArray.size_append, ByteArray.size_append] at hle2
              have hle3 : S.size + 3 + s.size ≤ 140737488355328 := hle2
              have h1 : ¬ 9223372036854775807 < S.size + 3 := by omega
              have h2 : ¬ 9223372036854775807 < S.size + 3 + s.size := by omega
              have HN : Hid (S ++ { data := #[32, 44, 32] } ++ s = jn (PX2 ++ aftT (af.take (i + 1)))) := hid (by rw [hnx, ← List.append_assoc, jn_cm (by simp [HNE.out]), hS])
              clear hk hil hx hS hi hnx hle hle2 hle3
              go_wp2
              go_roundg (af.length - (i + 1))
              case measure => have := HK.out; have := HI.out.1; omega
              case rel => exact ⟨i + 1, _, by have := HI.out.1; omega, rfl, rfl, HN.out, more_of (by repeat (first | (with_reducible exact Below.refl _ _) | (with_reducible exact bl_mm) | (with_reducible refine bl_dr ?_) | (with_reducible refine bl_drN ?_ _) | (with_reducible refine bl_al ?_ _) | (with_reducible refine bl_more ?_ _ _)))⟩
          · have hie : i = af.length := by omega
            subst hie
            rw [List.take_length] at hS
            have hnl : ¬ (af.length : Int) < af.length := by omega
            have HSX := hid hS
            clear hk hil hS
            have hz : S.size + 2 ≤ 140737488355328 := by
              have h : (jn (PX2 ++ (aftT af ++ [cSm]))).size ≤ 140737488355328 := HALL.out
              rw [← List.append_assoc, jn_size (by simp [HNE.out]) (by simp), ← HSX.out] at h
              exact h
            have h1 : ¬ 9223372036854775807 < S.size + 2 := by omega
            clear hz
            go_wp2
            go_ret
            refine ⟨?_, (by repeat (first | (with_reducible exact Below.refl _ _) | (with_reducible exact bl_mm) | (with_reducible refine bl_dr ?_) | (with_reducible refine bl_drN ?_ _) | (with_reducible refine bl_al ?_ _) | (with_reducible refine bl_more ?_ _ _)))⟩
            have he : S ++ { data := #[32, 59] } = jn (PX2 ++ (aftT af ++ [cSm])) := by
              rw [← lit_sm, HSX.out, ← jn_snoc (by simp [HNE.out])]
              simp only [List.append_assoc]
            exact congrArg (fun x => Ending.returned (Value.string x)) (he.trans (congrArg jn (HGOAL.out _)))
end Go.Proofs.Ytidilpciolladaa

/- The document's 'put' and 'Print'. -/
namespace Go.Proofs.Ytidilpciolladaa
open Go.RowKit

theorem tkR_pre (l : List (List Nd)) (i : Nat) : ∃ r, tkR l = tkR (l.take i) ++ r := by
  cases l with
  | nil => exact ⟨[], by simp [tkR]⟩
  | cons x l =>
    cases i with
    | zero => exact ⟨_, rfl⟩
    | succ i =>
      refine ⟨tkO (l.drop i), ?_⟩
      rw [List.take_succ_cons, tkR, tkR]
      conv => lhs; rw [← List.take_append_drop i l, tkO_app]
      simp
theorem tkL_pre (l : List Nd) (i : Nat) : ∃ r, tkL l = tkL (l.take i) ++ r := ⟨tkL (l.drop i), by rw [← tkL_app, List.take_append_drop]⟩
/-- A beginning is no longer. -/
theorem pre_le {xs ys : List ByteArray} {B : Nat} (h : (jn ys).size ≤ B) (hp : ∃ r, ys = xs ++ r) : (jn xs).size ≤ B := by
  obtain ⟨r, rfl⟩ := hp
  exact Nat.le_trans (jn_le _ _) h
set_option maxRecDepth 8000 in
set_option maxHeartbeats 4000000 in
theorem dput_any : ∀ n, DPutP n := by
  intro n
  induction n using Nat.strongRecOn with
  | ind n ih =>
  intro w K lv l hv hb
  have HIH := hid ih
  obtain ⟨A, cp, rfl, hl1, hl2⟩ := hv.form
  have HV := hid hv
  have hlx : (l.length : Int) ≤ 9223372036854775807 := by unfold maxLen at hl2; omega
  have hb : (jn (cLb :: (tkR l ++ [cRb]))).size ≤ 140737488355328 := hb
  show Calls Try.prog 33 _ w fun e w' => e = .returned (.string (jn (cLb :: (tkR l ++ [cRb])))) ∧ _
  have HB := hid hb
  clear ih hv hl1 hl2 hb
  go_enter Try.func33, Try.ntmps33
  go_wp2
  go_loopg [3, 4] l.length (fun k vs vi wr => ∃ (i : Nat) (S : ByteArray), i + k = l.length ∧ vi = .int .i64 (i : Int) ∧ vs = .string S ∧ S = jn (cLb :: tkR (l.take i)) ∧ ∃ ex dx, wr = more w ex dx)
  case atStart => exact ⟨0, _, by omega, rfl, rfl, by rw [show tkR (l.take 0) = [] by simp [tkR], jn_one], more_of (by repeat (first | (with_reducible exact Below.refl _ _) | (with_reducible exact bl_mm) | (with_reducible refine bl_dr ?_) | (with_reducible refine bl_drN ?_ _) | (with_reducible refine bl_al ?_ _) | (with_reducible refine bl_more ?_ _ _)))⟩
  case round =>
    obtain ⟨i, S, hk, rfl, rfl, hS, ex, dx, rfl⟩ := hrel
    have HK := hid hk
    have HSE := hid hS
    by_cases hil : i < l.length
    · obtain ⟨x, hx⟩ := get_lt hil
      have HX := hid hx
      have HI := hid (And.intro hil trivial)
      have hi0 : (0 : Int) ≤ i := by omega
      have hi1 : (i : Int) < l.length := by omega
      obtain ⟨b, off, A1, c1, rfl, _, hbl, x1, hr⟩ := row_body HV.out hx
      obtain ⟨_, _, _, hy1, hy2⟩ := hr.form
      have hyx : (x.length : Int) ≤ 9223372036854775807 := by unfold maxLen at hy2; omega
      have HR := hid hr
      have HRX := hid (tkR_next hx)
      obtain ⟨X3, hX3⟩ : ∃ X3, cLb :: tkR (l.take i) ++ orT i ++ [cL] = X3 := ⟨_, rfl⟩
      have HX3E := hid hX3.symm
      have HX3N : Hid (X3 ≠ []) := hid (by rw [← hX3]; simp)
      have HX3B : Hid ((jn (X3 ++ tkL x ++ [cR])).size ≤ 140737488355328) := hid (by
        obtain ⟨r, hr⟩ := tkR_pre l (i + 1)
        refine pre_le HB.out ⟨r ++ [cRb], ?_⟩
        rw [hr, HRX.out, ← hX3]
        simp)
      have hz : (jn X3).size ≤ 140737488355328 := pre_le HX3B.out ⟨tkL x ++ [cR], by simp⟩
      by_cases hi : i = 0
      · have hie : ¬ (0 : Int) < i := by omega
        have hor : orT i = [] := by unfold orT; rw [if_pos hi]
        rw [hor, List.append_nil] at hX3
        have hj : jn X3 = S ++ { data := #[32, 40] } := by rw [← hX3, jn_snoc (by simp), ← hS, lit_l]
        rw [hj, ByteArray.size_append] at hz
        have hz2 : S.size + 2 ≤ 140737488355328 := hz
        have h1 : ¬ 9223372036854775807 < S.size + 2 := by omega
        have HX3 := hid hj.symm
        clear hk hS hil hx hr hy1 hy2 hX3 hz hz2 hi hor hj
        go_wp2
        go_loopg [3, 5] x.length (fun k vs vi wr => ∃ (j : Nat) (T : ByteArray), j + k = x.length ∧ vi = .int .i64 (j : Int) ∧ vs = .string T ∧ T = jn (X3 ++ tkL (x.take j)) ∧ ∃ ex dx, wr = more w ex dx)
        case atStart => exact ⟨0, _, by omega, rfl, rfl, by rw [show tkL (x.take 0) = [] by simp [tkL], List.append_nil]; exact HX3.out, more_of (by repeat (first | (with_reducible exact Below.refl _ _) | (with_reducible exact bl_mm) | (with_reducible refine bl_dr ?_) | (with_reducible refine bl_drN ?_ _) | (with_reducible refine bl_al ?_ _) | (with_reducible refine bl_more ?_ _ _)))⟩
        case round =>
          obtain ⟨j, T, hk, rfl, rfl, hT, ex, dx, rfl⟩ := hrel
          have HK2 := hid hk
          have HT := hid hT
          by_cases hjl : j < x.length
          · obtain ⟨nd, hn⟩ := get_lt hjl
            have HN := hid hn
            have HJ := hid (And.intro hjl trivial)
            have hj0 : (0 : Int) ≤ j := by omega
            have hj1 : (j : Int) < x.length := by omega
            obtain ⟨b2, off2, m, A3, c3, A4, c4, rfl, _, hbl2, hnm, y1, y2, y3, y4, y5, y6, hr1, hr2⟩ := row_node HR.out hn
            have HP := hid (HIH.out m (by omega))
            have HR1 := hid hr1
            have HR2 := hid hr2
            have HEN : Hid (tkN nd = tkN (.mk nd.name nd.undo nd.after nd.sub nd.vital nd.alts)) := hid (by rw [← nd_eta])
            have HNX := hid (tkL_next hn)
            obtain ⟨P, hP⟩ : ∃ P, jn (tkN (.mk nd.name nd.undo nd.after nd.sub nd.vital nd.alts)) = P := ⟨_, rfl⟩
            have hz : (jn (X3 ++ tkL (x.take (j + 1)))).size ≤ 140737488355328 := by
              obtain ⟨r, hr⟩ := tkL_pre x (j + 1)
              exact pre_le HX3B.out ⟨r ++ [cR], by rw [hr]; simp⟩
            have hnn : tkN nd ≠ [] := by rw [tkN_eq]; simp [hdT_ne]
            rw [HNX.out, ← List.append_assoc, jn_size (by simp [HX3N.out]) hnn, ← hT, HEN.out, hP] at hz
            have h1 : ¬ 9223372036854775807 < T.size + 1 := by omega
            have h2 : ¬ 9223372036854775807 < T.size + 1 + P.size := by omega
            have HPL : Hid ((jn (tkN (.mk nd.name nd.undo nd.after nd.sub nd.vital nd.alts))).size ≤ 140737488355328) := hid (by rw [hP]; omega)
            have HE : Hid (T ++ { data := #[32] } ++ P = jn (X3 ++ tkL (x.take (j + 1)))) := hid (by
              rw [HNX.out, ← List.append_assoc, jn_app (by simp [HX3N.out]) hnn, ← hT, HEN.out, hP])
            have HPJ := hid hP
            clear hk hT hjl hn hr1 hr2 hnm hP hz hnn
            go_wp2_with (first | (go_at_call 55; refine (dnode_of HP.out (HR1.out.below (by repeat (first | (with_reducible exact Below.refl _ _) | (with_reducible exact bl_mm) | (with_reducible refine bl_dr ?_) | (with_reducible refine bl_drN ?_ _) | (with_reducible refine bl_al ?_ _) | (with_reducible refine bl_more ?_ _ _)))) (HR2.out.below (by repeat (first | (with_reducible exact Below.refl _ _) | (with_reducible exact bl_mm) | (with_reducible refine bl_dr ?_) | (with_reducible refine bl_drN ?_ _) | (with_reducible refine bl_al ?_ _) | (with_reducible refine bl_more ?_ _ _)))) HPL.out).mono ?_; rw [HPJ.out]; rintro e w3 ⟨rfl, hb3⟩; obtain ⟨ex3, dx3, rfl⟩ := more_of hb3; clear hb3))
            go_roundg (x.length - (j + 1))
            case measure => have := HK2.out; have := HJ.out.1; omega
            case rel => exact ⟨j + 1, _, by have := HJ.out.1; omega, rfl, rfl, HE.out, more_of (by repeat (first | (with_reducible exact Below.refl _ _) | (with_reducible exact bl_mm) | (with_reducible refine bl_dr ?_) | (with_reducible refine bl_drN ?_ _) | (with_reducible refine bl_al ?_ _) | (with_reducible refine bl_more ?_ _ _)))⟩
          · have hje : j = x.length := by omega
            subst hje
            rw [List.take_length] at hT
            have hnl : ¬ (x.length : Int) < x.length := by omega
            have hz := HX3B.out
            rw [jn_size (by simp [HX3N.out]) (by simp), ← hT, jn_one] at hz
            have hz2 : T.size + 1 + 1 ≤ 140737488355328 := hz
            have h1 : ¬ 9223372036854775807 < T.size + 2 := by omega
            have HE : Hid (T ++ { data := #[32, 41] } = jn (cLb :: tkR (l.take (i + 1)))) := hid (by
              rw [← lit_r, hT, ← jn_snoc (by simp [HX3N.out]), HRX.out, HX3E.out]
              simp)
            clear hk hjl hT hz hz2
            go_wp2
            go_roundg (l.length - (i + 1))
            case measure => have := HK.out; have := HI.out.1; omega
            case rel => exact ⟨i + 1, _, by have := HI.out.1; omega, rfl, rfl, HE.out, more_of (by repeat (first | (with_reducible exact Below.refl _ _) | (with_reducible exact bl_mm) | (with_reducible refine bl_dr ?_) | (with_reducible refine bl_drN ?_ _) | (with_reducible refine bl_al ?_ _) | (with_reducible refine bl_more ?_ _ _)))⟩
      · have hie : (0 : Int) < i := by omega
        have hie2 : decide (0 < i) = true := decide_eq_true (by omega)
        have hor : orT i = [wd7] := by unfold orT; rw [if_neg hi]
        rw [hor] at hX3
        have hj : jn X3 = S ++ { data := #[32, 111, 114] } ++ { data := #[32, 40] } := by rw [← hX3, jn_snoc (by simp), jn_snoc (by simp), ← hS, lit_l, lit_or]
        rw [hj, ByteArray.size_append, ByteArray.size_append] at hz
        have hz2 : S.size + 3 + 2 ≤ 140737488355328 := hz
        have h1 : ¬ 9223372036854775807 < S.size + 3 := by omega
        have h2 : ¬ 9223372036854775807 < S.size + 3 + 2 := by omega
        have HX3 := hid hj.symm
        clear hk hS hil hx hr hy1 hy2 hX3 hz hz2 hi hor hj
        go_wp2
        go_loopg [3, 5] x.length (fun k vs vi wr => ∃ (j : Nat) (T : ByteArray), j + k = x.length ∧ vi = .int .i64 (j : Int) ∧ vs = .string T ∧ T = jn (X3 ++ tkL (x.take j)) ∧ ∃ ex dx, wr = more w ex dx)
        case atStart => exact ⟨0, _, by omega, rfl, rfl, by rw [show tkL (x.take 0) = [] by simp [tkL], List.append_nil]; exact HX3.out, more_of (by repeat (first | (with_reducible exact Below.refl _ _) | (with_reducible exact bl_mm) | (with_reducible refine bl_dr ?_) | (with_reducible refine bl_drN ?_ _) | (with_reducible refine bl_al ?_ _) | (with_reducible refine bl_more ?_ _ _)))⟩
        case round =>
          obtain ⟨j, T, hk, rfl, rfl, hT, ex, dx, rfl⟩ := hrel
          have HK2 := hid hk
          have HT := hid hT
          by_cases hjl : j < x.length
          · obtain ⟨nd, hn⟩ := get_lt hjl
            have HN := hid hn
            have HJ := hid (And.intro hjl trivial)
            have hj0 : (0 : Int) ≤ j := by omega
            have hj1 : (j : Int) < x.length := by omega
            obtain ⟨b2, off2, m, A3, c3, A4, c4, rfl, _, hbl2, hnm, y1, y2, y3, y4, y5, y6, hr1, hr2⟩ := row_node HR.out hn
            have HP := hid (HIH.out m (by omega))
            have HR1 := hid hr1
            have HR2 := hid hr2
            have HEN : Hid (tkN nd = tkN (.mk nd.name nd.undo nd.after nd.sub nd.vital nd.alts)) := hid (by rw [← nd_eta])
            have HNX := hid (tkL_next hn)
            obtain ⟨P, hP⟩ : ∃ P, jn (tkN (.mk nd.name nd.undo nd.after nd.sub nd.vital nd.alts)) = P := ⟨_, rfl⟩
            have hz : (jn (X3 ++ tkL (x.take (j + 1)))).size ≤ 140737488355328 := by
              obtain ⟨r, hr⟩ := tkL_pre x (j + 1)
              exact pre_le HX3B.out ⟨r ++ [cR], by rw [hr]; simp⟩
            have hnn : tkN nd ≠ [] := by rw [tkN_eq]; simp [hdT_ne]
            rw [HNX.out, ← List.append_assoc, jn_size (by simp [HX3N.out]) hnn, ← hT, HEN.out, hP] at hz
            have h1 : ¬ 9223372036854775807 < T.size + 1 := by omega
            have h2 : ¬ 9223372036854775807 < T.size + 1 + P.size := by omega
            have HPL : Hid ((jn (tkN (.mk nd.name nd.undo nd.after nd.sub nd.vital nd.alts))).size ≤ 140737488355328) := hid (by rw [hP]; omega)
            have HE : Hid (T ++ { data := #[32] } ++ P = jn (X3 ++ tkL (x.take (j + 1)))) := hid (by
              rw [HNX.out, ← List.append_assoc, jn_app (by simp [HX3N.out]) hnn, ← hT, HEN.out, hP])
            have HPJ := hid hP
            clear hk hT hjl hn hr1 hr2 hnm hP hz hnn
            go_wp2_with (first | (go_at_call 55; refine (dnode_of HP.out (HR1.out.below (by repeat (first | (with_reducible exact Below.refl _ _) | (with_reducible exact bl_mm) | (with_reducible refine bl_dr ?_) | (with_reducible refine bl_drN ?_ _) | (with_reducible refine bl_al ?_ _) | (with_reducible refine bl_more ?_ _ _)))) (HR2.out.below (by repeat (first | (with_reducible exact Below.refl _ _) | (with_reducible exact bl_mm) | (with_reducible refine bl_dr ?_) | (with_reducible refine bl_drN ?_ _) | (with_reducible refine bl_al ?_ _) | (with_reducible refine bl_more ?_ _ _)))) HPL.out).mono ?_; rw [HPJ.out]; rintro e w3 ⟨rfl, hb3⟩; obtain ⟨ex3, dx3, rfl⟩ := more_of hb3; clear hb3))
            go_roundg (x.length - (j + 1))
            case measure => have := HK2.out; have := HJ.out.1; omega
            case rel => exact ⟨j + 1, _, by have := HJ.out.1; omega, rfl, rfl, HE.out, more_of (by repeat (first | (with_reducible exact Below.refl _ _) | (with_reducible exact bl_mm) | (with_reducible refine bl_dr ?_) | (with_reducible refine bl_drN ?_ _) | (with_reducible refine bl_al ?_ _) | (with_reducible refine bl_more ?_ _ _)))⟩
          · have hje : j = x.length := by omega
            subst hje
            rw [List.take_length] at hT
            have hnl : ¬ (x.length : Int) < x.length := by omega
            have hz := HX3B.out
            rw [jn_size (by simp [HX3N.out]) (by simp), ← hT, jn_one] at hz
            have hz2 : T.size + 1 + 1 ≤ 140737488355328 := hz
            have h1 : ¬ 9223372036854775807 < T.size + 2 := by omega
            have HE : Hid (T ++ { data := #[32, 41] } = jn (cLb :: tkR (l.take (i + 1)))) := hid (by
              rw [← lit_r, hT, ← jn_snoc (by simp [HX3N.out]), HRX.out, HX3E.out]
              simp)
            clear hk hjl hT hz hz2
            go_wp2
            go_roundg (l.length - (i + 1))
            case measure => have := HK.out; have := HI.out.1; omega
            case rel => exact ⟨i + 1, _, by have := HI.out.1; omega, rfl, rfl, HE.out, more_of (by repeat (first | (with_reducible exact Below.refl _ _) | (with_reducible exact bl_mm) | (with_reducible refine bl_dr ?_) | (with_reducible refine bl_drN ?_ _) | (with_reducible refine bl_al ?_ _) | (with_reducible refine bl_more ?_ _ _)))⟩
    · have hje : i = l.length := by omega
      subst hje
      have hnl : ¬ (l.length : Int) < l.length := by omega
      rw [List.take_length] at hS
      have hz : (jn (cLb :: tkR l ++ [cRb])).size ≤ 140737488355328 := HB.out
      rw [jn_size (by simp) (by simp), ← hS, jn_one] at hz
      have hz2 : S.size + 1 + 1 ≤ 140737488355328 := hz
      have h1 : ¬ 9223372036854775807 < S.size + 2 := by omega
      have HE : Hid (S ++ { data := #[32, 125] } = jn (cLb :: tkR l ++ [cRb])) := hid (by rw [← lit_rb, hS, ← jn_snoc (by simp)])
      clear hk hil hS hz hz2
      go_wp2
      go_ret
      exact ⟨congrArg (fun x => Ending.returned (Value.string x)) HE.out, (by repeat (first | (with_reducible exact Below.refl _ _) | (with_reducible exact bl_mm) | (with_reducible refine bl_dr ?_) | (with_reducible refine bl_drN ?_ _) | (with_reducible refine bl_al ?_ _) | (with_reducible refine bl_more ?_ _ _)))⟩
set_option maxHeartbeats 1000000 in
theorem dprint_any {n : Nat} {nm : ByteArray} {w : World} {K : Nat → Prop} {v : Value} {l : List (List Nd)} (hv : (bodyE n).Row K w v l) (hc : countB l ≤ 4294967296) (hj : (jn (sagaT nm l)).size ≤ 140737488355328) :
    Calls Try.prog 14 #[.agg #[.string nm, v]] w fun e w' => e = .returned (.tuple #[.string (printR nm l), .int .i64 (erOf (sagaR nm l))]) ∧ Below w.heap.size w w' := by
  obtain ⟨A, cp, rfl, _, _⟩ := hv.form
  have HV := hid hv
  have HC := hid hc
  unfold printR
  cases hr : sagaR nm l with
  | false =>
    have HR := hid hr
    clear hr hv hc hj
    go_enter Try.func14, Try.ntmps14
    go_wp2_with (first | ((with_reducible refine wp_region_plan (id := 3) (.eff [(true, 0), (true, 1), (true, 2), (true, 3), (false, 4), (false, 5)] 6 [0, 1, 2, 3] (.fin [(false, 7), (false, 8), (false, 9)])) ?_ ?_ ?_ ?_ ?_ ?_); kernel_rfl; kernel_rfl; kernel_rfl; kernel_rfl; (intro c a d v w h; cases d <;> exact h)) | (with_reducible refine wpPlan_eff ?_) | (with_reducible refine wpPlan_fin ?_) | (with_reducible refine wpPlan_two ?_) | (with_reducible refine wpOpPair ?_ ?_) | ((with_reducible apply wpPre_keep); rfl; intro K' hK'; go_simp; refine hK' _ _ ?_; intro f hf; clear hK' K') | ((with_reducible apply wpPre_drop); rfl; intro K' hK'; go_simp; refine hK' _ _ ?_; intro f; clear hK' K') | (with_reducible refine wpPre_nil ?_) | ((with_reducible apply wpOp_list); rfl) | (with_reducible refine heldPair ?_ ?_) | ((with_reducible refine heldH_no ?_ ?_); rfl) | (with_reducible refine heldH_yes ?_ ?_) | (with_reducible exact heldH_nil) | (unfold YAt; go_simp; done) | (go_at_call 32; refine (dRight_any (HV.out.below (by repeat (first | (with_reducible exact Below.refl _ _) | (with_reducible exact bl_mm) | (with_reducible refine bl_dr ?_) | (with_reducible refine bl_drN ?_ _) | (with_reducible refine bl_al ?_ _) | (with_reducible refine bl_more ?_ _ _)))) HC.out).mono ?_; rw [HR.out]; rintro e w1 ⟨rfl, hb1⟩; obtain ⟨ex1, dx1, rfl⟩ := more_of hb1; clear hb1))
    go_ret2
    exact ⟨rfl, (by repeat (first | (with_reducible exact Below.refl _ _) | (with_reducible exact bl_mm) | (with_reducible refine bl_dr ?_) | (with_reducible refine bl_drN ?_ _) | (with_reducible refine bl_al ?_ _) | (with_reducible refine bl_more ?_ _ _)))⟩
  | true =>
    have HR := hid hr
    have he : jn (sagaT nm l) = { data := #[115, 97, 103, 97, 32] } ++ nm ++ { data := #[32] } ++ jn (tkA l) := by
      show jn ([wd0, nm] ++ tkA l) = _
      rw [jn_app (by simp) (by simp [tkA]), jn_g]
    obtain ⟨P, hP⟩ : ∃ P, jn (tkA l) = P := ⟨_, rfl⟩
    rw [he, hP] at hj
    have hz : 5 + nm.size + 1 + P.size ≤ 140737488355328 := by
      rw [ByteArray.size_append, ByteArray.size_append, ByteArray.size_append] at hj
      exact hj
    have h1 : ¬ 9223372036854775807 < 5 + nm.size := by omega
    have h2 : ¬ 9223372036854775807 < 5 + nm.size + 1 := by omega
    have h3 : ¬ 9223372036854775807 < 5 + nm.size + 1 + P.size := by omega
    have HPJ := hid hP
    have HPL : Hid ((jn (tkA l)).size ≤ 140737488355328) := hid (by rw [hP]; omega)
    rw [he, hP]
    clear hr hv hc hj he hP hz
    go_enter Try.func14, Try.ntmps14
    go_wp2_with (first | ((with_reducible refine wp_region_plan (id := 3) (.eff [(true, 0), (true, 1), (true, 2), (true, 3), (false, 4), (false, 5)] 6 [0, 1, 2, 3] (.fin [(false, 7), (false, 8), (false, 9)])) ?_ ?_ ?_ ?_ ?_ ?_); kernel_rfl; kernel_rfl; kernel_rfl; kernel_rfl; (intro c a d v w h; cases d <;> exact h)) | (with_reducible refine wpPlan_eff ?_) | (with_reducible refine wpPlan_fin ?_) | (with_reducible refine wpPlan_two ?_) | (with_reducible refine wpOpPair ?_ ?_) | ((with_reducible apply wpPre_keep); rfl; intro K' hK'; go_simp; refine hK' _ _ ?_; intro f hf; clear hK' K') | ((with_reducible apply wpPre_drop); rfl; intro K' hK'; go_simp; refine hK' _ _ ?_; intro f; clear hK' K') | (with_reducible refine wpPre_nil ?_) | ((with_reducible apply wpOp_list); rfl) | (with_reducible refine heldPair ?_ ?_) | ((with_reducible refine heldH_no ?_ ?_); rfl) | (with_reducible refine heldH_yes ?_ ?_) | (with_reducible exact heldH_nil) | (unfold YAt; go_simp; done) | (go_at_call 32; refine (dRight_any (HV.out.below (by repeat (first | (with_reducible exact Below.refl _ _) | (with_reducible exact bl_mm) | (with_reducible refine bl_dr ?_) | (with_reducible refine bl_drN ?_ _) | (with_reducible refine bl_al ?_ _) | (with_reducible refine bl_more ?_ _ _)))) HC.out).mono ?_; rw [HR.out]; rintro e w1 ⟨rfl, hb1⟩; obtain ⟨ex1, dx1, rfl⟩ := more_of hb1; clear hb1) | (go_at_call 33; refine (DPutP.at (dput_any _) (HV.out.below (by repeat (first | (with_reducible exact Below.refl _ _) | (with_reducible exact bl_mm) | (with_reducible refine bl_dr ?_) | (with_reducible refine bl_drN ?_ _) | (with_reducible refine bl_al ?_ _) | (with_reducible refine bl_more ?_ _ _)))) HPL.out).mono ?_; rw [HPJ.out]; rintro e w3 ⟨rfl, hb3⟩; obtain ⟨ex3, dx3, rfl⟩ := more_of hb3; clear hb3))
    all_goals (go_ret2; exact ⟨rfl, (by repeat (first | (with_reducible exact Below.refl _ _) | (with_reducible exact bl_mm) | (with_reducible refine bl_dr ?_) | (with_reducible refine bl_drN ?_ _) | (with_reducible refine bl_al ?_ _) | (with_reducible refine bl_more ?_ _ _)))⟩)
end Go.Proofs.Ytidilpciolladaa

/- Sagas of few parts. -/
namespace Go.Proofs.Ytidilpciolladaa
open Go.RowKit

mutual
/-- How many parts. -/
def mN : Nd → Nat
  | .mk _ _ af _ _ al => 1 + af.length + mB al
def mB : List (List Nd) → Nat
  | [] => 0
  | b :: l => 1 + mL b + mB l
def mL : List Nd → Nat
  | [] => 0
  | n :: l => mN n + mL l
end
mutual
/-- Are all texts short? -/
def shN : Nd → Prop
  | .mk nm un af _ _ al => nm.size ≤ 200 ∧ un.size ≤ 200 ∧ (∀ s ∈ af, s.size ≤ 200) ∧ shB al
def shB : List (List Nd) → Prop
  | [] => True
  | b :: l => shL b ∧ shB l
def shL : List Nd → Prop
  | [] => True
  | n :: l => shN n ∧ shL l
end
theorem mN_eq (n : Nd) : mN n = 1 + n.after.length + mB n.alts := by cases n; rw [mN]; rfl
theorem shN_eq (n : Nd) : shN n = (n.name.size ≤ 200 ∧ n.undo.size ≤ 200 ∧ (∀ s ∈ n.after, s.size ≤ 200) ∧ shB n.alts) := by cases n; rw [shN]; rfl
theorem mB_app (a b : List (List Nd)) : mB (a ++ b) = mB a + mB b := by
  induction a with
  | nil => simp [mB]
  | cons x a ih => rw [List.cons_append, mB, mB, ih]; omega
theorem mL_app (a b : List Nd) : mL (a ++ b) = mL a + mL b := by
  induction a with
  | nil => simp [mL]
  | cons x a ih => rw [List.cons_append, mL, mL, ih]; omega
theorem shB_app {a b : List (List Nd)} (h : shB a) (k : shB b) : shB (a ++ b) := by
  induction a with
  | nil => exact k
  | cons x a ih => rw [shB] at h; exact ⟨h.1, ih h.2⟩
theorem shL_app {a b : List Nd} (h : shL a) (k : shL b) : shL (a ++ b) := by
  induction a with
  | nil => exact k
  | cons x a ih => rw [shL] at h; exact ⟨h.1, ih h.2⟩
theorem mB_next {l : List (List Nd)} {i : Nat} {x : List Nd} (h : l[i]? = some x) : mB (l.take (i + 1)) = mB (l.take i) + (1 + mL x) := by
  rw [List.take_succ_eq_append_getElem (get_len h), mB_app, (List.getElem?_eq_some_iff.1 h).2]
  simp [mB]
theorem mL_next {l : List Nd} {i : Nat} {x : Nd} (h : l[i]? = some x) : mL (l.take (i + 1)) = mL (l.take i) + (1 + x.after.length + mB x.alts) := by
  rw [List.take_succ_eq_append_getElem (get_len h), mL_app, (List.getElem?_eq_some_iff.1 h).2]
  simp [mL, mN_eq]
theorem shB_next {l : List (List Nd)} {i : Nat} {x : List Nd} (h : l[i]? = some x) (h1 : shB (l.take i)) (h2 : shL x) : shB (l.take (i + 1)) := by
  rw [List.take_succ_eq_append_getElem (get_len h), (List.getElem?_eq_some_iff.1 h).2]
  exact shB_app h1 ⟨h2, trivial⟩
theorem shL_next {l : List Nd} {i : Nat} {x : Nd} (h : l[i]? = some x) (h1 : shL (l.take i)) (h2 : shN x) : shL (l.take (i + 1)) := by
  rw [List.take_succ_eq_append_getElem (get_len h), (List.getElem?_eq_some_iff.1 h).2]
  exact shL_app h1 ⟨h2, trivial⟩
/-- What is left. -/
structure FewQ (l : List (List Nd)) (a : Int) (w : World) (e : Ending) (w' : World) : Prop where
  ex : ∃ r : Int, e = .returned (.int .i64 r) ∧ -9223372036854775808 ≤ r ∧ r ≤ 2000 ∧ (0 < r → r + mB l ≤ a ∧ shB l)
  low : Below w.heap.size w w'
def FewP (m : Nat) : Prop := ∀ (w : World) (K : Nat → Prop) (v : Value) (l : List (List Nd)) (a : Int), (bodyE m).Row K w v l → 0 < a → a ≤ 2000 → Calls Try.prog 30 #[v, .int .i64 a] w (FewQ l a w)
theorem FewP.at {m : Nat} (h : FewP m) {w : World} {K : Nat → Prop} {v : Value} {l : List (List Nd)} {a : Int} (hr : (bodyE m).Row K w v l) (h1 : 0 < a) (h2 : a ≤ 2000) : Calls Try.prog 30 #[v, .int .i64 a] w (FewQ l a w) := h w K v l a hr h1 h2
set_option maxRecDepth 8000 in
set_option maxHeartbeats 4000000 in
theorem few_bodies : ∀ n, FewP n := by
  intro n
  induction n using Nat.strongRecOn with
  | ind n ih =>
  intro w K v l a hv ha1 ha2
  have HIH := hid ih
  obtain ⟨A, cp, rfl, hl1, hl2⟩ := hv.form
  have HV := hid hv
  have hlx : (l.length : Int) ≤ 9223372036854775807 := by unfold maxLen at hl2; omega
  have HA2 := hid ha2
  have HA1 := hid ha1
  clear ih hv hl1 hl2 ha1 ha2
  go_enter Try.func30, Try.ntmps30
  go_wp2
  go_loopg [1, 5] l.length (fun k va vi wr => ∃ (i : Nat) (c : Int), i + k = l.length ∧ vi = .int .i64 (i : Int) ∧ va = .int .i64 c ∧ -9223372036854775808 ≤ c ∧ c ≤ 2000 ∧ (0 < c → c + mB (l.take i) ≤ a ∧ shB (l.take i)) ∧ ∃ ex dx, wr = more w ex dx)
  case atStart => exact ⟨0, a, by omega, rfl, rfl, by have := HA1.out; omega, HA2.out, fun _ => ⟨by simp [mB], by simp [shB]⟩, more_of (by repeat (first | (with_reducible exact Below.refl _ _) | (with_reducible exact bl_mm) | (with_reducible refine bl_dr ?_) | (with_reducible refine bl_drN ?_ _) | (with_reducible refine bl_al ?_ _) | (with_reducible refine bl_more ?_ _ _)))⟩
  case round =>
    obtain ⟨i, c, hk, rfl, rfl, hc1, hc2, hc3, ex, dx, rfl⟩ := hrel
    have HK := hid hk
    have HC3 := hid hc3
    have HB1 := hid hc1
    have HB2 := hid hc2
    by_cases hil : i < l.length
    · obtain ⟨x, hx⟩ := get_lt hil
      have HX := hid hx
      have HI := hid (And.intro hil trivial)
      have hi0 : (0 : Int) ≤ i := by omega
      have hi1 : (i : Int) < l.length := by omega
      obtain ⟨b, off, A1, c1, rfl, _, hbl, x1, hr⟩ := row_body HV.out hx
      obtain ⟨_, _, _, hy1, hy2⟩ := hr.form
      have hyx : (x.length : Int) ≤ 9223372036854775807 := by unfold maxLen at hy2; omega
      have HR := hid hr
      by_cases hcp : 0 < c
      · obtain ⟨d, hd⟩ : ∃ d, c - 1 = d := ⟨_, rfl⟩
        have hw : IntKind.i64.wrap (c - 1) = d := by rw [← hd, IntWalk.i64_in _ (by omega)]
        have HD := hid hd
        have HCP := hid hcp
        clear hk hc1 hc2 hc3 hil hx hr hy1 hy2 hd
        go_wp2
        go_loopg [1, 6] x.length (fun k va vi wr => ∃ (j : Nat) (f : Int), j + k = x.length ∧ vi = .int .i64 (j : Int) ∧ va = .int .i64 f ∧ -9223372036854775808 ≤ f ∧ f ≤ 2000 ∧ (0 < f → f + mL (x.take j) ≤ d ∧ shL (x.take j)) ∧ ∃ ex dx, wr = more w ex dx)
        case atStart => exact ⟨0, d, by omega, rfl, rfl, by have := HD.out; have := HCP.out; omega, by have := HD.out; have := HB2.out; omega, fun _ => ⟨by simp [mL], by simp [shL]⟩, more_of (by repeat (first | (with_reducible exact Below.refl _ _) | (with_reducible exact bl_mm) | (with_reducible refine bl_dr ?_) | (with_reducible refine bl_drN ?_ _) | (with_reducible refine bl_al ?_ _) | (with_reducible refine bl_more ?_ _ _)))⟩
        case round =>
          obtain ⟨j, f, hk, rfl, rfl, hf1, hf2, hf3, ex, dx, rfl⟩ := hrel
          have HK2 := hid hk
          have HF3 := hid hf3
          have HF1 := hid hf1
          have HF2 := hid hf2
          by_cases hjl : j < x.length
          · obtain ⟨nd, hn⟩ := get_lt hjl
            have HN := hid hn
            have HJ := hid (And.intro hjl trivial)
            have hj0 : (0 : Int) ≤ j := by omega
            have hj1 : (j : Int) < x.length := by omega
            by_cases hfp : 0 < f
            · obtain ⟨b2, off2, m, A3, c3, A4, c4, rfl, _, hbl2, hnm, y1, y2, y3, y4, y5, y6, hr1, hr2⟩ := row_node HR.out hn
              have HP := hid (HIH.out m (by omega))
              have HR1 := hid hr1
              have HR2 := hid hr2
              obtain ⟨_, _, _, hz1, hz2⟩ := hr1.form
              have hax : (nd.after.length : Int) ≤ 9223372036854775807 := by unfold maxLen at hz2; omega
              obtain ⟨q1, hq1⟩ : ∃ q1, f - 1 = q1 := ⟨_, rfl⟩
              obtain ⟨q, hq⟩ : ∃ q, q1 - (nd.after.length : Int) = q := ⟨_, rfl⟩
              have hw1 : IntKind.i64.wrap (f - 1) = q1 := by rw [← hq1, IntWalk.i64_in _ (by omega)]
              have hw2 : IntKind.i64.wrap (q1 - (nd.after.length : Int)) = q := by rw [← hq, IntWalk.i64_in _ (by omega)]
              have HQL : Hid (-9223372036854775808 ≤ q ∧ q ≤ 2000) := hid (by omega)
              have HQ : Hid (q + 1 + nd.after.length = f) := hid (by omega)
              have HFP := hid hfp
              clear hk hf1 hf2 hf3 hjl hn hr1 hr2 hnm hz1 hz2 hq1 hq
              by_cases hn1 : (200 : Int) < (nd.name.size : Int)
              · have hn1' : ¬ (nd.name.size : Int) ≤ 200 := by omega
                go_wp2
                go_ret
                exact ⟨⟨0, rfl, by omega, by omega, fun h => absurd h (by omega)⟩, (by repeat (first | (with_reducible exact Below.refl _ _) | (with_reducible exact bl_mm) | (with_reducible refine bl_dr ?_) | (with_reducible refine bl_drN ?_ _) | (with_reducible refine bl_al ?_ _) | (with_reducible refine bl_more ?_ _ _)))⟩
              · by_cases hn2 : (200 : Int) < (nd.undo.size : Int)
                · go_wp2
                  go_ret
                  exact ⟨⟨0, rfl, by omega, by omega, fun h => absurd h (by omega)⟩, (by repeat (first | (with_reducible exact Below.refl _ _) | (with_reducible exact bl_mm) | (with_reducible refine bl_dr ?_) | (with_reducible refine bl_drN ?_ _) | (with_reducible refine bl_al ?_ _) | (with_reducible refine bl_more ?_ _ _)))⟩
                · have HN1 := hid hn1
                  have HN2 := hid hn2
                  go_wp2
                  go_loopg [8] nd.after.length (fun k vi wr => ∃ u : Nat, u + k = nd.after.length ∧ vi = .int .i64 (u : Int) ∧ (∀ (r : Nat) y, r < u → nd.after[r]? = some y → y.size ≤ 200) ∧ ∃ ex2 dx2, wr = more (World.alloc (more w ex dx) (.cells #[.string nd.name, .string nd.undo, .slice A3 nd.after.length c3, .bool nd.sub, .bool nd.vital, .slice A4 nd.alts.length c4] 73)) ex2 dx2)
                  case atStart => exact ⟨0, by omega, rfl, fun r y h => by omega, more_of (by repeat (first | (with_reducible exact Below.refl _ _) | (with_reducible exact bl_mm) | (with_reducible refine bl_dr ?_) | (with_reducible refine bl_drN ?_ _) | (with_reducible refine bl_al ?_ _) | (with_reducible refine bl_more ?_ _ _)))⟩
                  case round =>
                    obtain ⟨u, hk, rfl, hall, ex2, dx2, rfl⟩ := hrel
                    have HK3 := hid hk
                    have HALL := hid hall
                    by_cases hul : u < nd.after.length
                    · obtain ⟨s, hs⟩ := get_lt hul
                      have HS := hid hs
                      have HU := hid (And.intro hul trivial)
                      have hu0 : (0 : Int) ≤ u := by omega
                      have hu1 : (u : Int) < nd.after.length := by omega
                      obtain ⟨b3, off3, rfl, _, hbl3, z1⟩ := row_str HR1.out hs
                      by_cases hqp : 0 < q
                      · clear hk hall hul hs
                        by_cases hs2 : (200 : Int) < (s.size : Int)
                        · go_wp2
                          go_ret
                          exact ⟨⟨0, rfl, by omega, by omega, fun h => absurd h (by omega)⟩, (by repeat (first | (with_reducible exact Below.refl _ _) | (with_reducible exact bl_mm) | (with_reducible refine bl_dr ?_) | (with_reducible refine bl_drN ?_ _) | (with_reducible refine bl_al ?_ _) | (with_reducible refine bl_more ?_ _ _)))⟩
                        · have HS2 := hid hs2
                          go_wp2
                          go_roundg (nd.after.length - (u + 1))
                          case measure => have := HK3.out; have := HU.out.1; omega
                          case rel =>
                            refine ⟨u + 1, by have := HU.out.1; omega, rfl, fun r y hr hy => ?_, more_of (by repeat (first | (with_reducible exact Below.refl _ _) | (with_reducible exact bl_mm) | (with_reducible refine bl_dr ?_) | (with_reducible refine bl_drN ?_ _) | (with_reducible refine bl_al ?_ _) | (with_reducible refine bl_more ?_ _ _)))⟩
                            rcases Nat.lt_or_ge r u with h | h
                            · exact HALL.out r y h hy
                            · obtain rfl : r = u := by omega
                              rw [HS.out] at hy
                              obtain rfl := Option.some.inj hy
                              have := HS2.out
                              omega
                      · have HQN := hid hqp
                        clear hk hall hul hs
                        go_wp2
                        go_roundg (x.length - (j + 1))
                        case measure => have := HK2.out; have := HJ.out.1; omega
                        case rel => exact ⟨j + 1, q, by have := HJ.out.1; omega, rfl, rfl, HQL.out.1, HQL.out.2, fun h => absurd h (by have := HQN.out; omega), more_of (by repeat (first | (with_reducible exact Below.refl _ _) | (with_reducible exact bl_mm) | (with_reducible refine bl_dr ?_) | (with_reducible refine bl_drN ?_ _) | (with_reducible refine bl_al ?_ _) | (with_reducible refine bl_more ?_ _ _)))⟩
                    · have hue : u = nd.after.length := by omega
                      subst hue
                      have hnl : ¬ (nd.after.length : Int) < nd.after.length := by omega
                      by_cases hqp : 0 < q
                      · have HC1 := hid hqp
                        have HC2 := hid HQL.out.2
                        have HSH : Hid (shB nd.alts → shN nd) := hid (fun h => by
                          rw [shN_eq]
                          refine ⟨by have := HN1.out; omega, by have := HN2.out; omega, fun s hs => ?_, h⟩
                          obtain ⟨r, hr⟩ := List.mem_iff_getElem?.1 hs
                          exact HALL.out r s (get_len hr) hr)
                        clear hk hall hul
                        go_wp2_with (first | (go_at_call 30; refine (FewP.at HP.out (HR2.out.below (by repeat (first | (with_reducible exact Below.refl _ _) | (with_reducible exact bl_mm) | (with_reducible refine bl_dr ?_) | (with_reducible refine bl_drN ?_ _) | (with_reducible refine bl_al ?_ _) | (with_reducible refine bl_more ?_ _ _)))) HC1.out HC2.out).mono ?_; rintro e w3 ⟨⟨r, rfl, hr0, hr1, hr2⟩, hb3⟩; have HR3 := hid hr0; have HR4 := hid hr1; have HR5 := hid hr2; clear hr0 hr1 hr2; obtain ⟨ex3, dx3, rfl⟩ := more_of hb3; clear hb3))
                        go_roundg (x.length - (j + 1))
                        case measure => have := HK2.out; have := HJ.out.1; omega
                        case rel =>
                          refine ⟨j + 1, r, by have := HJ.out.1; omega, rfl, rfl, HR3.out, HR4.out, fun h => ?_, more_of (by repeat (first | (with_reducible exact Below.refl _ _) | (with_reducible exact bl_mm) | (with_reducible refine bl_dr ?_) | (with_reducible refine bl_drN ?_ _) | (with_reducible refine bl_al ?_ _) | (with_reducible refine bl_more ?_ _ _)))⟩
                          have h1 := HR5.out h
                          have h2 := HF3.out HFP.out
                          have h3 := mL_next HN.out
                          have h4 := HQ.out
                          exact ⟨by omega, shL_next HN.out h2.2 (HSH.out h1.2)⟩
                      · have HQN := hid hqp
                        clear hk hall hul
                        go_wp2
                        go_roundg (x.length - (j + 1))
                        case measure => have := HK2.out; have := HJ.out.1; omega
                        case rel => exact ⟨j + 1, q, by have := HJ.out.1; omega, rfl, rfl, HQL.out.1, HQL.out.2, fun h => absurd h (by have := HQN.out; omega), more_of (by repeat (first | (with_reducible exact Below.refl _ _) | (with_reducible exact bl_mm) | (with_reducible refine bl_dr ?_) | (with_reducible refine bl_drN ?_ _) | (with_reducible refine bl_al ?_ _) | (with_reducible refine bl_more ?_ _ _)))⟩
            · have HFN := hid hfp
              clear hk hf1 hf2 hf3 hjl hn
              go_wp2
              go_roundg (l.length - (i + 1))
              case measure => have := HK.out; have := HI.out.1; omega
              case rel => exact ⟨i + 1, f, by have := HI.out.1; omega, rfl, rfl, HF1.out, HF2.out, fun h => absurd h (by have := HFN.out; omega), more_of (by repeat (first | (with_reducible exact Below.refl _ _) | (with_reducible exact bl_mm) | (with_reducible refine bl_dr ?_) | (with_reducible refine bl_drN ?_ _) | (with_reducible refine bl_al ?_ _) | (with_reducible refine bl_more ?_ _ _)))⟩
          · have hje : j = x.length := by omega
            subst hje
            have hnl : ¬ (x.length : Int) < x.length := by omega
            rw [List.take_length] at hf3
            have HG : Hid (0 < f → f + mB (l.take (i + 1)) ≤ a ∧ shB (l.take (i + 1))) := hid (fun h => by
              have h1 := hf3 h
              have h2 := HC3.out HCP.out
              have h3 := mB_next HX.out
              have h4 := HD.out
              refine ⟨by omega, shB_next HX.out h2.2 h1.2⟩)
            clear hk hf1 hf2 hf3 hjl
            go_wp2
            go_roundg (l.length - (i + 1))
            case measure => have := HK.out; have := HI.out.1; omega
            case rel => exact ⟨i + 1, f, by have := HI.out.1; omega, rfl, rfl, HF1.out, HF2.out, HG.out, more_of (by repeat (first | (with_reducible exact Below.refl _ _) | (with_reducible exact bl_mm) | (with_reducible refine bl_dr ?_) | (with_reducible refine bl_drN ?_ _) | (with_reducible refine bl_al ?_ _) | (with_reducible refine bl_more ?_ _ _)))⟩
      · have HCN := hid hcp
        clear hk hc1 hc2 hc3 hil hx hr hy1 hy2
        go_wp2
        go_ret
        exact ⟨⟨c, rfl, HB1.out, HB2.out, fun h => absurd h (by have := HCN.out; omega)⟩, (by repeat (first | (with_reducible exact Below.refl _ _) | (with_reducible exact bl_mm) | (with_reducible refine bl_dr ?_) | (with_reducible refine bl_drN ?_ _) | (with_reducible refine bl_al ?_ _) | (with_reducible refine bl_more ?_ _ _)))⟩
    · have hje : i = l.length := by omega
      subst hje
      have hnl : ¬ (l.length : Int) < l.length := by omega
      rw [List.take_length] at hc3
      have HE := hid hc3
      clear hk hc1 hc2 hc3 hil
      go_wp2
      go_ret
      exact ⟨⟨c, rfl, HB1.out, HB2.out, HE.out⟩, (by repeat (first | (with_reducible exact Below.refl _ _) | (with_reducible exact bl_mm) | (with_reducible refine bl_dr ?_) | (with_reducible refine bl_drN ?_ _) | (with_reducible refine bl_al ?_ _) | (with_reducible refine bl_more ?_ _ _)))⟩
/-- Has a saga few parts? -/
structure FewS (nm : ByteArray) (l : List (List Nd)) (w : World) (e : Ending) (w' : World) : Prop where
  ex : ∃ b : Bool, e = .returned (.bool b) ∧ (b = true → nm.size ≤ 200 ∧ mB l ≤ 2000 ∧ shB l)
  low : Below w.heap.size w w'
theorem few_any {n : Nat} {nm : ByteArray} {w : World} {K : Nat → Prop} {v : Value} {l : List (List Nd)} (hv : (bodyE n).Row K w v l) : Calls Try.prog 12 #[.agg #[.string nm, v]] w (FewS nm l w) := by
  obtain ⟨A, cp, rfl, hl1, hl2⟩ := hv.form
  have HV := hid hv
  clear hv hl1 hl2
  by_cases hn : (nm.size : Int) ≤ 200
  · have HN := hid hn
    go_enter Try.func12, Try.ntmps12
    go_wp2_with (first | (go_at_call 30; refine (FewP.at (few_bodies _) (HV.out.below (by repeat (first | (with_reducible exact Below.refl _ _) | (with_reducible exact bl_mm) | (with_reducible refine bl_dr ?_) | (with_reducible refine bl_drN ?_ _) | (with_reducible refine bl_al ?_ _) | (with_reducible refine bl_more ?_ _ _)))) (by decide) (by decide)).mono ?_; rintro e w3 ⟨⟨r, rfl, hr0, hr1, hr2⟩, hb3⟩; have HR5 := hid hr2; clear hr0 hr1 hr2; obtain ⟨ex3, dx3, rfl⟩ := more_of hb3; clear hb3))
    all_goals (go_ret; refine ⟨⟨_, rfl, fun h => ?_⟩, (by repeat (first | (with_reducible exact Below.refl _ _) | (with_reducible exact bl_mm) | (with_reducible refine bl_dr ?_) | (with_reducible refine bl_drN ?_ _) | (with_reducible refine bl_al ?_ _) | (with_reducible refine bl_more ?_ _ _)))⟩; have h0 := of_decide_eq_true h; have h1 := HR5.out h0; exact ⟨by have := HN.out; omega, by omega, h1.2⟩)
  · go_enter Try.func12, Try.ntmps12
    go_wp2_with (first | (go_at_call 30; refine (FewP.at (few_bodies _) (HV.out.below (by repeat (first | (with_reducible exact Below.refl _ _) | (with_reducible exact bl_mm) | (with_reducible refine bl_dr ?_) | (with_reducible refine bl_drN ?_ _) | (with_reducible refine bl_al ?_ _) | (with_reducible refine bl_more ?_ _ _)))) (by decide) (by decide)).mono ?_; rintro e w3 ⟨⟨r, rfl, hr0, hr1, hr2⟩, hb3⟩; have HR5 := hid hr2; clear hr0 hr1 hr2; obtain ⟨ex3, dx3, rfl⟩ := more_of hb3; clear hb3))
    all_goals (go_ret; exact ⟨⟨false, rfl, fun h => by cases h⟩, (by repeat (first | (with_reducible exact Below.refl _ _) | (with_reducible exact bl_mm) | (with_reducible refine bl_dr ?_) | (with_reducible refine bl_drN ?_ _) | (with_reducible refine bl_al ?_ _) | (with_reducible refine bl_more ?_ _ _)))⟩)
end Go.Proofs.Ytidilpciolladaa

/- Same, of the same. -/
namespace Go.Proofs.Ytidilpciolladaa
open Go.RowKit

set_option maxRecDepth 8000 in
set_option maxHeartbeats 1000000 in
theorem texts_same {w : World} {K K' : Nat → Prop} {v v' : Value} {l : List ByteArray} (hv : Enc.str.Row K w v l) (hv' : Enc.str.Row K' w v' l) : Calls Try.prog 52 #[v, v'] w fun e w' => e = .returned (.bool true) ∧ Below w.heap.size w w' := by
  obtain ⟨A, cp, rfl, hl1, hl2⟩ := hv.form
  obtain ⟨A', cp', rfl, _, _⟩ := hv'.form
  have HV := hid hv
  have HV' := hid hv'
  have hlx : (l.length : Int) ≤ 9223372036854775807 := by unfold maxLen at hl2; omega
  clear hv hv' hl1 hl2
  go_enter Try.func52, Try.ntmps52
  go_wp2_with (first | ((with_reducible refine wp_region_plan (id := 6) (.fin [(false, 0), (false, 1), (false, 2), (false, 3), (false, 4), (false, 5), (false, 6), (false, 7), (false, 8)]) ?_ ?_ ?_ ?_ ?_ ?_); kernel_rfl; kernel_rfl; kernel_rfl; kernel_rfl; (intro c a d v w h; cases d <;> exact h)) | (with_reducible refine wpPlan_eff ?_) | (with_reducible refine wpPlan_fin ?_) | (with_reducible refine wpPlan_two ?_) | (with_reducible refine wpOpPair ?_ ?_) | ((with_reducible apply wpPre_keep); rfl; intro K' hK'; go_simp; refine hK' _ _ ?_; intro f hf; clear hK' K') | ((with_reducible apply wpPre_drop); rfl; intro K' hK'; go_simp; refine hK' _ _ ?_; intro f; clear hK' K') | (with_reducible refine wpPre_nil ?_) | ((with_reducible apply wpOp_list); rfl) | (with_reducible refine heldPair ?_ ?_) | ((with_reducible refine heldH_no ?_ ?_); rfl) | (with_reducible refine heldH_yes ?_ ?_) | (with_reducible exact heldH_nil) | (unfold YAt; go_simp; done))
  go_loopg [5] l.length (fun k vi wr => ∃ i : Nat, i + k = l.length ∧ vi = .int .i64 (i : Int) ∧ ∃ ex dx, wr = more w ex dx)
  case atStart => exact ⟨0, by omega, rfl, more_of (by repeat (first | (with_reducible exact Below.refl _ _) | (with_reducible exact bl_mm) | (with_reducible refine bl_dr ?_) | (with_reducible refine bl_drN ?_ _) | (with_reducible refine bl_al ?_ _) | (with_reducible refine bl_more ?_ _ _)))⟩
  case round =>
    obtain ⟨i, hk, rfl, ex, dx, rfl⟩ := hrel
    have HK := hid hk
    by_cases hil : i < l.length
    · obtain ⟨x, hx⟩ := get_lt hil
      have HI := hid (And.intro hil trivial)
      have hi0 : (0 : Int) ≤ i := by omega
      have hi1 : (i : Int) < l.length := by omega
      obtain ⟨b, off, rfl, _, hbl, y1⟩ := row_str HV.out hx
      obtain ⟨b', off', rfl, _, hbl', y1'⟩ := row_str HV'.out hx
      clear hk hil hx
      go_wp2_with (first | ((with_reducible refine wp_region_plan (id := 6) (.fin [(false, 0), (false, 1), (false, 2), (false, 3), (false, 4), (false, 5), (false, 6), (false, 7), (false, 8)]) ?_ ?_ ?_ ?_ ?_ ?_); kernel_rfl; kernel_rfl; kernel_rfl; kernel_rfl; (intro c a d v w h; cases d <;> exact h)) | (with_reducible refine wpPlan_eff ?_) | (with_reducible refine wpPlan_fin ?_) | (with_reducible refine wpPlan_two ?_) | (with_reducible refine wpOpPair ?_ ?_) | ((with_reducible apply wpPre_keep); rfl; intro K' hK'; go_simp; refine hK' _ _ ?_; intro f hf; clear hK' K') | ((with_reducible apply wpPre_drop); rfl; intro K' hK'; go_simp; refine hK' _ _ ?_; intro f; clear hK' K') | (with_reducible refine wpPre_nil ?_) | ((with_reducible apply wpOp_list); rfl) | (with_reducible refine heldPair ?_ ?_) | ((with_reducible refine heldH_no ?_ ?_); rfl) | (with_reducible refine heldH_yes ?_ ?_) | (with_reducible exact heldH_nil) | (unfold YAt; go_simp; done))
      go_roundg (l.length - (i + 1))
      case measure => have := HK.out; have := HI.out.1; omega
      case rel => exact ⟨i + 1, by have := HI.out.1; omega, rfl, more_of (by repeat (first | (with_reducible exact Below.refl _ _) | (with_reducible exact bl_mm) | (with_reducible refine bl_dr ?_) | (with_reducible refine bl_drN ?_ _) | (with_reducible refine bl_al ?_ _) | (with_reducible refine bl_more ?_ _ _)))⟩
    · have hje : i = l.length := by omega
      subst hje
      have hnl : ¬ (l.length : Int) < l.length := by omega
      clear hk hil
      go_wp2_with (first | ((with_reducible refine wp_region_plan (id := 6) (.fin [(false, 0), (false, 1), (false, 2), (false, 3), (false, 4), (false, 5), (false, 6), (false, 7), (false, 8)]) ?_ ?_ ?_ ?_ ?_ ?_); kernel_rfl; kernel_rfl; kernel_rfl; kernel_rfl; (intro c a d v w h; cases d <;> exact h)) | (with_reducible refine wpPlan_eff ?_) | (with_reducible refine wpPlan_fin ?_) | (with_reducible refine wpPlan_two ?_) | (with_reducible refine wpOpPair ?_ ?_) | ((with_reducible apply wpPre_keep); rfl; intro K' hK'; go_simp; refine hK' _ _ ?_; intro f hf; clear hK' K') | ((with_reducible apply wpPre_drop); rfl; intro K' hK'; go_simp; refine hK' _ _ ?_; intro f; clear hK' K') | (with_reducible refine wpPre_nil ?_) | ((with_reducible apply wpOp_list); rfl) | (with_reducible refine heldPair ?_ ?_) | ((with_reducible refine heldH_no ?_ ?_); rfl) | (with_reducible refine heldH_yes ?_ ?_) | (with_reducible exact heldH_nil) | (unfold YAt; go_simp; done))
      go_ret
      exact ⟨rfl, (by repeat (first | (with_reducible exact Below.refl _ _) | (with_reducible exact bl_mm) | (with_reducible refine bl_dr ?_) | (with_reducible refine bl_drN ?_ _) | (with_reducible refine bl_al ?_ _) | (with_reducible refine bl_more ?_ _ _)))⟩
def SamP (m : Nat) : Prop := ∀ (w : World) (K K' : Nat → Prop) (v v' : Value) (l : List (List Nd)), (bodyE m).Row K w v l → (bodyE m).Row K' w v' l → Calls Try.prog 29 #[v, v'] w fun e w' => e = .returned (.bool true) ∧ Below w.heap.size w w'
theorem SamP.at {m : Nat} (h : SamP m) {w : World} {K K' : Nat → Prop} {v v' : Value} {l : List (List Nd)} (hr : (bodyE m).Row K w v l) (hr' : (bodyE m).Row K' w v' l) : Calls Try.prog 29 #[v, v'] w fun e w' => e = .returned (.bool true) ∧ Below w.heap.size w w' := h w K K' v v' l hr hr'
set_option maxRecDepth 20000 in
set_option maxHeartbeats 4000000 in
theorem same_bodies : ∀ n, SamP n := by
  intro n
  induction n using Nat.strongRecOn with
  | ind n ih =>
  intro w K K' v v' l hv hv'
  have HIH := hid ih
  obtain ⟨A, cp, rfl, hl1, hl2⟩ := hv.form
  obtain ⟨A', cp', rfl, _, _⟩ := hv'.form
  have HV := hid hv
  have HV' := hid hv'
  have hlx : (l.length : Int) ≤ 9223372036854775807 := by unfold maxLen at hl2; omega
  clear ih hv hv' hl1 hl2
  go_enter Try.func29, Try.ntmps29
  go_wp2_with (first | ((with_reducible refine wp_region_plan (id := 6) (.fin [(false, 0), (false, 1), (false, 2), (false, 3), (false, 4), (false, 5), (false, 6), (false, 7), (false, 8), (false, 9), (false, 10), (false, 11), (false, 12)]) ?_ ?_ ?_ ?_ ?_ ?_); kernel_rfl; kernel_rfl; kernel_rfl; kernel_rfl; (intro c a d v w h; cases d <;> exact h)) | ((with_reducible refine wp_region_plan (id := 11) (.two [(true, 0), (true, 1), (true, 2), (true, 3), (true, 4), (true, 5), (true, 6), (true, 7), (true, 8), (true, 9), (true, 10), (true, 11), (true, 12), (true, 13), (true, 14), (true, 15)] 16 [0, 1, 2, 3, 4, 5, 6, 7, 8, 9, 10, 11, 12, 13, 14, 15] (.eff [] 17 [0, 1, 2, 3, 4, 5, 6, 7, 8, 9, 10, 11, 12, 13, 14, 15] (.eff [] 18 [8, 9, 10, 11, 12, 13, 14, 15] (.eff [] 19 [] (.fin [])))) 17 [0, 1, 2, 3, 4, 5, 6, 7, 8, 9, 10, 11, 12, 13, 14, 15] (.eff [] 16 [0, 1, 2, 3, 4, 5, 6, 7, 8, 9, 10, 11, 12, 13, 14, 15] (.eff [] 18 [8, 9, 10, 11, 12, 13, 14, 15] (.eff [] 19 [] (.fin []))))) ?_ ?_ ?_ ?_ ?_ ?_); kernel_rfl; kernel_rfl; kernel_rfl; kernel_rfl; (intro c a d v w h; cases d <;> exact h)) | (with_reducible refine wpPlan_eff ?_) | (with_reducible refine wpPlan_fin ?_) | (with_reducible refine wpPlan_two ?_) | (with_reducible refine wpOpPair ?_ ?_) | ((with_reducible apply wpPre_keep); rfl; intro K' hK'; go_simp; refine hK' _ _ ?_; intro f hf; clear hK' K') | ((with_reducible apply wpPre_drop); rfl; intro K' hK'; go_simp; refine hK' _ _ ?_; intro f; clear hK' K') | (with_reducible refine wpPre_nil ?_) | ((with_reducible apply wpOp_list); rfl) | (with_reducible refine heldPair ?_ ?_) | ((with_reducible refine heldH_no ?_ ?_); rfl) | (with_reducible refine heldH_yes ?_ ?_) | (with_reducible exact heldH_nil) | (unfold YAt; go_simp; done))
  go_loopg [5] l.length (fun k vi wr => ∃ i : Nat, i + k = l.length ∧ vi = .int .i64 (i : Int) ∧ ∃ ex dx, wr = more w ex dx)
  case atStart => exact ⟨0, by omega, rfl, more_of (by repeat (first | (with_reducible exact Below.refl _ _) | (with_reducible exact bl_mm) | (with_reducible refine bl_dr ?_) | (with_reducible refine bl_drN ?_ _) | (with_reducible refine bl_al ?_ _) | (with_reducible refine bl_more ?_ _ _)))⟩
  case round =>
    obtain ⟨i, hk, rfl, ex, dx, rfl⟩ := hrel
    have HK := hid hk
    by_cases hil : i < l.length
    · obtain ⟨x, hx⟩ := get_lt hil
      have HI := hid (And.intro hil trivial)
      have hi0 : (0 : Int) ≤ i := by omega
      have hi1 : (i : Int) < l.length := by omega
      obtain ⟨b, off, A1, c1, rfl, _, hbl, x1, hr⟩ := row_body HV.out hx
      obtain ⟨b', off', A1', c1', rfl, _, hbl', x1', hr'⟩ := row_body HV'.out hx
      obtain ⟨_, _, _, hy1, hy2⟩ := hr.form
      have hyx : (x.length : Int) ≤ 9223372036854775807 := by unfold maxLen at hy2; omega
      have HR := hid hr
      have HR' := hid hr'
      clear hk hil hx hr hr' hy1 hy2
      go_wp2_with (first | ((with_reducible refine wp_region_plan (id := 6) (.fin [(false, 0), (false, 1), (false, 2), (false, 3), (false, 4), (false, 5), (false, 6), (false, 7), (false, 8), (false, 9), (false, 10), (false, 11), (false, 12)]) ?_ ?_ ?_ ?_ ?_ ?_); kernel_rfl; kernel_rfl; kernel_rfl; kernel_rfl; (intro c a d v w h; cases d <;> exact h)) | ((with_reducible refine wp_region_plan (id := 11) (.two [(true, 0), (true, 1), (true, 2), (true, 3), (true, 4), (true, 5), (true, 6), (true, 7), (true, 8), (true, 9), (true, 10), (true, 11), (true, 12), (true, 13), (true, 14), (true, 15)] 16 [0, 1, 2, 3, 4, 5, 6, 7, 8, 9, 10, 11, 12, 13, 14, 15] (.eff [] 17 [0, 1, 2, 3, 4, 5, 6, 7, 8, 9, 10, 11, 12, 13, 14, 15] (.eff [] 18 [8, 9, 10, 11, 12, 13, 14, 15] (.eff [] 19 [] (.fin [])))) 17 [0, 1, 2, 3, 4, 5, 6, 7, 8, 9, 10, 11, 12, 13, 14, 15] (.eff [] 16 [0, 1, 2, 3, 4, 5, 6, 7, 8, 9, 10, 11, 12, 13, 14, 15] (.eff [] 18 [8, 9, 10, 11, 12, 13, 14, 15] (.eff [] 19 [] (.fin []))))) ?_ ?_ ?_ ?_ ?_ ?_); kernel_rfl; kernel_rfl; kernel_rfl; kernel_rfl; (intro c a d v w h; cases d <;> exact h)) | (with_reducible refine wpPlan_eff ?_) | (with_reducible refine wpPlan_fin ?_) | (with_reducible refine wpPlan_two ?_) | (with_reducible refine wpOpPair ?_ ?_) | ((with_reducible apply wpPre_keep); rfl; intro K' hK'; go_simp; refine hK' _ _ ?_; intro f hf; clear hK' K') | ((with_reducible apply wpPre_drop); rfl; intro K' hK'; go_simp; refine hK' _ _ ?_; intro f; clear hK' K') | (with_reducible refine wpPre_nil ?_) | ((with_reducible apply wpOp_list); rfl) | (with_reducible refine heldPair ?_ ?_) | ((with_reducible refine heldH_no ?_ ?_); rfl) | (with_reducible refine heldH_yes ?_ ?_) | (with_reducible exact heldH_nil) | (unfold YAt; go_simp; done))
      go_loopg [6] x.length (fun k vi wr => ∃ j : Nat, j + k = x.length ∧ vi = .int .i64 (j : Int) ∧ ∃ ex dx, wr = more w ex dx)
      case atStart => exact ⟨0, by omega, rfl, more_of (by repeat (first | (with_reducible exact Below.refl _ _) | (with_reducible exact bl_mm) | (with_reducible refine bl_dr ?_) | (with_reducible refine bl_drN ?_ _) | (with_reducible refine bl_al ?_ _) | (with_reducible refine bl_more ?_ _ _)))⟩
      case round =>
        obtain ⟨j, hk, rfl, ex, dx, rfl⟩ := hrel
        have HK2 := hid hk
        by_cases hjl : j < x.length
        · obtain ⟨nd, hn⟩ := get_lt hjl
          have HJ := hid (And.intro hjl trivial)
          have hj0 : (0 : Int) ≤ j := by omega
          have hj1 : (j : Int) < x.length := by omega
          obtain ⟨b2, off2, m, A3, c3, A4, c4, rfl, _, hbl2, hnm, y1, y2, y3, y4, y5, y6, hr1, hr2⟩ := row_node HR.out hn
          obtain ⟨b2', off2', m', A3', c3', A4', c4', rfl, _, hbl2', hnm', y1', y2', y3', y4', y5', y6', hr1', hr2'⟩ := row_node HR'.out hn
          obtain rfl : m = m' := by omega
          have HP := hid (HIH.out m (by omega))
          have HR1 := hid hr1
          have HR2 := hid hr2
          have HR1' := hid hr1'
          have HR2' := hid hr2'
          clear hk hjl hn hr1 hr2 hr1' hr2' hnm hnm'
          go_wp2_with (first | ((with_reducible refine wp_region_plan (id := 6) (.fin [(false, 0), (false, 1), (false, 2), (false, 3), (false, 4), (false, 5), (false, 6), (false, 7), (false, 8), (false, 9), (false, 10), (false, 11), (false, 12)]) ?_ ?_ ?_ ?_ ?_ ?_); kernel_rfl; kernel_rfl; kernel_rfl; kernel_rfl; (intro c a d v w h; cases d <;> exact h)) | ((with_reducible refine wp_region_plan (id := 11) (.two [(true, 0), (true, 1), (true, 2), (true, 3), (true, 4), (true, 5), (true, 6), (true, 7), (true, 8), (true, 9), (true, 10), (true, 11), (true, 12), (true, 13), (true, 14), (true, 15)] 16 [0, 1, 2, 3, 4, 5, 6, 7, 8, 9, 10, 11, 12, 13, 14, 15] (.eff [] 17 [0, 1, 2, 3, 4, 5, 6, 7, 8, 9, 10, 11, 12, 13, 14, 15] (.eff [] 18 [8, 9, 10, 11, 12, 13, 14, 15] (.eff [] 19 [] (.fin [])))) 17 [0, 1, 2, 3, 4, 5, 6, 7, 8, 9, 10, 11, 12, 13, 14, 15] (.eff [] 16 [0, 1, 2, 3, 4, 5, 6, 7, 8, 9, 10, 11, 12, 13, 14, 15] (.eff [] 18 [8, 9, 10, 11, 12, 13, 14, 15] (.eff [] 19 [] (.fin []))))) ?_ ?_ ?_ ?_ ?_ ?_); kernel_rfl; kernel_rfl; kernel_rfl; kernel_rfl; (intro c a d v w h; cases d <;> exact h)) | (with_reducible refine wpPlan_eff ?_) | (with_reducible refine wpPlan_fin ?_) | (with_reducible refine wpPlan_two ?_) | (with_reducible refine wpOpPair ?_ ?_) | ((with_reducible apply wpPre_keep); rfl; intro K' hK'; go_simp; refine hK' _ _ ?_; intro f hf; clear hK' K') | ((with_reducible apply wpPre_drop); rfl; intro K' hK'; go_simp; refine hK' _ _ ?_; intro f; clear hK' K') | (with_reducible refine wpPre_nil ?_) | ((with_reducible apply wpOp_list); rfl) | (with_reducible refine heldPair ?_ ?_) | ((with_reducible refine heldH_no ?_ ?_); rfl) | (with_reducible refine heldH_yes ?_ ?_) | (with_reducible exact heldH_nil) | (unfold YAt; go_simp; done) | (go_at_call 52; refine (texts_same (HR1.out.below (by repeat (first | (with_reducible exact Below.refl _ _) | (with_reducible exact bl_mm) | (with_reducible refine bl_dr ?_) | (with_reducible refine bl_drN ?_ _) | (with_reducible refine bl_al ?_ _) | (with_reducible refine bl_more ?_ _ _)))) (HR1'.out.below (by repeat (first | (with_reducible exact Below.refl _ _) | (with_reducible exact bl_mm) | (with_reducible refine bl_dr ?_) | (with_reducible refine bl_drN ?_ _) | (with_reducible refine bl_al ?_ _) | (with_reducible refine bl_more ?_ _ _))))).mono ?_; rintro e w2 ⟨rfl, hb2⟩; obtain ⟨ex2, dx2, rfl⟩ := more_of hb2; clear hb2) | (go_at_call 29; refine (SamP.at HP.out (HR2.out.below (by repeat (first | (with_reducible exact Below.refl _ _) | (with_reducible exact bl_mm) | (with_reducible refine bl_dr ?_) | (with_reducible refine bl_drN ?_ _) | (with_reducible refine bl_al ?_ _) | (with_reducible refine bl_more ?_ _ _)))) (HR2'.out.below (by repeat (first | (with_reducible exact Below.refl _ _) | (with_reducible exact bl_mm) | (with_reducible refine bl_dr ?_) | (with_reducible refine bl_drN ?_ _) | (with_reducible refine bl_al ?_ _) | (with_reducible refine bl_more ?_ _ _))))).mono ?_; rintro e w3 ⟨rfl, hb3⟩; obtain ⟨ex3, dx3, rfl⟩ := more_of hb3; clear hb3))
          all_goals (
            go_roundg (x.length - (j + 1))
            case measure => have := HK2.out; have := HJ.out.1; omega
            case rel => exact ⟨j + 1, by have := HJ.out.1; omega, rfl, more_of (by repeat (first | (with_reducible exact Below.refl _ _) | (with_reducible exact bl_mm) | (with_reducible refine bl_dr ?_) | (with_reducible refine bl_drN ?_ _) | (with_reducible refine bl_al ?_ _) | (with_reducible refine bl_more ?_ _ _)))⟩)
        · have hje : j = x.length := by omega
          subst hje
          have hnl : ¬ (x.length : Int) < x.length := by omega
          clear hk hjl
          go_wp2_with (first | ((with_reducible refine wp_region_plan (id := 6) (.fin [(false, 0), (false, 1), (false, 2), (false, 3), (false, 4), (false, 5), (false, 6), (false, 7), (false, 8), (false, 9), (false, 10), (false, 11), (false, 12)]) ?_ ?_ ?_ ?_ ?_ ?_); kernel_rfl; kernel_rfl; kernel_rfl; kernel_rfl; (intro c a d v w h; cases d <;> exact h)) | ((with_reducible refine wp_region_plan (id := 11) (.two [(true, 0), (true, 1), (true, 2), (true, 3), (true, 4), (true, 5), (true, 6), (true, 7), (true, 8), (true, 9), (true, 10), (true, 11), (true, 12), (true, 13), (true, 14), (true, 15)] 16 [0, 1, 2, 3, 4, 5, 6, 7, 8, 9, 10, 11, 12, 13, 14, 15] (.eff [] 17 [0, 1, 2, 3, 4, 5, 6, 7, 8, 9, 10, 11, 12, 13, 14, 15] (.eff [] 18 [8, 9, 10, 11, 12, 13, 14, 15] (.eff [] 19 [] (.fin [])))) 17 [0, 1, 2, 3, 4, 5, 6, 7, 8, 9, 10, 11, 12, 13, 14, 15] (.eff [] 16 [0, 1, 2, 3, 4, 5, 6, 7, 8, 9, 10, 11, 12, 13, 14, 15] (.eff [] 18 [8, 9, 10, 11, 12, 13, 14, 15] (.eff [] 19 [] (.fin []))))) ?_ ?_ ?_ ?_ ?_ ?_); kernel_rfl; kernel_rfl; kernel_rfl; kernel_rfl; (intro c a d v w h; cases d <;> exact h)) | (with_reducible refine wpPlan_eff ?_) | (with_reducible refine wpPlan_fin ?_) | (with_reducible refine wpPlan_two ?_) | (with_reducible refine wpOpPair ?_ ?_) | ((with_reducible apply wpPre_keep); rfl; intro K' hK'; go_simp; refine hK' _ _ ?_; intro f hf; clear hK' K') | ((with_reducible apply wpPre_drop); rfl; intro K' hK'; go_simp; refine hK' _ _ ?_; intro f; clear hK' K') | (with_reducible refine wpPre_nil ?_) | ((with_reducible apply wpOp_list); rfl) | (with_reducible refine heldPair ?_ ?_) | ((with_reducible refine heldH_no ?_ ?_); rfl) | (with_reducible refine heldH_yes ?_ ?_) | (with_reducible exact heldH_nil) | (unfold YAt; go_simp; done))
          go_roundg (l.length - (i + 1))
          case measure => have := HK.out; have := HI.out.1; omega
          case rel => exact ⟨i + 1, by have := HI.out.1; omega, rfl, more_of (by repeat (first | (with_reducible exact Below.refl _ _) | (with_reducible exact bl_mm) | (with_reducible refine bl_dr ?_) | (with_reducible refine bl_drN ?_ _) | (with_reducible refine bl_al ?_ _) | (with_reducible refine bl_more ?_ _ _)))⟩
    · have hje : i = l.length := by omega
      subst hje
      have hnl : ¬ (l.length : Int) < l.length := by omega
      clear hk hil
      go_wp2_with (first | ((with_reducible refine wp_region_plan (id := 6) (.fin [(false, 0), (false, 1), (false, 2), (false, 3), (false, 4), (false, 5), (false, 6), (false, 7), (false, 8), (false, 9), (false, 10), (false, 11), (false, 12)]) ?_ ?_ ?_ ?_ ?_ ?_); kernel_rfl; kernel_rfl; kernel_rfl; kernel_rfl; (intro c a d v w h; cases d <;> exact h)) | ((with_reducible refine wp_region_plan (id := 11) (.two [(true, 0), (true, 1), (true, 2), (true, 3), (true, 4), (true, 5), (true, 6), (true, 7), (true, 8), (true, 9), (true, 10), (true, 11), (true, 12), (true, 13), (true, 14), (true, 15)] 16 [0, 1, 2, 3, 4, 5, 6, 7, 8, 9, 10, 11, 12, 13, 14, 15] (.eff [] 17 [0, 1, 2, 3, 4, 5, 6, 7, 8, 9, 10, 11, 12, 13, 14, 15] (.eff [] 18 [8, 9, 10, 11, 12, 13, 14, 15] (.eff [] 19 [] (.fin [])))) 17 [0, 1, 2, 3, 4, 5, 6, 7, 8, 9, 10, 11, 12, 13, 14, 15] (.eff [] 16 [0, 1, 2, 3, 4, 5, 6, 7, 8, 9, 10, 11, 12, 13, 14, 15] (.eff [] 18 [8, 9, 10, 11, 12, 13, 14, 15] (.eff [] 19 [] (.fin []))))) ?_ ?_ ?_ ?_ ?_ ?_); kernel_rfl; kernel_rfl; kernel_rfl; kernel_rfl; (intro c a d v w h; cases d <;> exact h)) | (with_reducible refine wpPlan_eff ?_) | (with_reducible refine wpPlan_fin ?_) | (with_reducible refine wpPlan_two ?_) | (with_reducible refine wpOpPair ?_ ?_) | ((with_reducible apply wpPre_keep); rfl; intro K' hK'; go_simp; refine hK' _ _ ?_; intro f hf; clear hK' K') | ((with_reducible apply wpPre_drop); rfl; intro K' hK'; go_simp; refine hK' _ _ ?_; intro f; clear hK' K') | (with_reducible refine wpPre_nil ?_) | ((with_reducible apply wpOp_list); rfl) | (with_reducible refine heldPair ?_ ?_) | ((with_reducible refine heldH_no ?_ ?_); rfl) | (with_reducible refine heldH_yes ?_ ?_) | (with_reducible exact heldH_nil) | (unfold YAt; go_simp; done))
      go_ret
      exact ⟨rfl, (by repeat (first | (with_reducible exact Below.refl _ _) | (with_reducible exact bl_mm) | (with_reducible refine bl_dr ?_) | (with_reducible refine bl_drN ?_ _) | (with_reducible refine bl_al ?_ _) | (with_reducible refine bl_more ?_ _ _)))⟩
theorem same_any {n : Nat} {nm : ByteArray} {w : World} {K K' : Nat → Prop} {v v' : Value} {l : List (List Nd)} (hv : (bodyE n).Row K w v l) (hv' : (bodyE n).Row K' w v' l) :
    Calls Try.prog 11 #[.agg #[.string nm, v], .agg #[.string nm, v']] w fun e w' => e = .returned (.bool true) ∧ Below w.heap.size w w' := by
  obtain ⟨A, cp, rfl, _, _⟩ := hv.form
  obtain ⟨A', cp', rfl, _, _⟩ := hv'.form
  have HV := hid hv
  have HV' := hid hv'
  clear hv hv'
  go_enter Try.func11, Try.ntmps11
  go_wp2_with (first | (go_at_call 29; refine (SamP.at (same_bodies _) (HV.out.below (by repeat (first | (with_reducible exact Below.refl _ _) | (with_reducible exact bl_mm) | (with_reducible refine bl_dr ?_) | (with_reducible refine bl_drN ?_ _) | (with_reducible refine bl_al ?_ _) | (with_reducible refine bl_more ?_ _ _)))) (HV'.out.below (by repeat (first | (with_reducible exact Below.refl _ _) | (with_reducible exact bl_mm) | (with_reducible refine bl_dr ?_) | (with_reducible refine bl_drN ?_ _) | (with_reducible refine bl_al ?_ _) | (with_reducible refine bl_more ?_ _ _))))).mono ?_; rintro e w3 ⟨rfl, hb3⟩; obtain ⟨ex3, dx3, rfl⟩ := more_of hb3; clear hb3))
  all_goals (go_ret; exact ⟨rfl, (by repeat (first | (with_reducible exact Below.refl _ _) | (with_reducible exact bl_mm) | (with_reducible refine bl_dr ?_) | (with_reducible refine bl_drN ?_ _) | (with_reducible refine bl_al ?_ _) | (with_reducible refine bl_more ?_ _ _)))⟩)
end Go.Proofs.Ytidilpciolladaa
