/- The document's examples. -/
import Derived.Test.YthekoefcienipaaLxPa
namespace Go.Proofs.Ythekoefcienipaa
open Go.RowKit

def runF (s : ByteArray) : Nat → Nat → Nat
  | 0, p => p
  | n + 1, p => if p < s.size then (if bad s p = true then p else if namC (Utf8.decode s p).1 = true then runF s n (p + max 1 (Utf8.decode s p).2) else p) else p
theorem runF_eq (s : ByteArray) : ∀ n p, s.size - p < n → runF s n p = runE s p := by
  intro n
  induction n with
  | zero => intro p h; omega
  | succ n ih =>
    intro p h
    rw [runF, runE]
    by_cases hp : p < s.size
    · rw [if_pos hp, dif_pos hp, ih _ (by omega)]
    · rw [if_neg hp, dif_neg hp]
def dLf (s : ByteArray) : Nat → Nat → Bool → List Tok → List Tok ⊕ (Int × Int)
  | 0, _, _, out => .inl out
  | n + 1, p, rem, out =>
    if p < s.size then
      if bad s p = true then .inr (p, 4)
      else
        if (rem || ((Utf8.decode s p).1 : Int) == 35) = true then dLf s n (p + max 1 (Utf8.decode s p).2) (((Utf8.decode s p).1 : Int) != 10) out
        else if cls (Utf8.decode s p).1 = 1 then (if (runF s (s.size + 1) p : Int) - p > 24 then .inr (p, 5) else dLf s n (max (p + 1) (runF s (s.size + 1) p)) rem (out ++ [⟨1, s.extract p (runF s (s.size + 1) p), p⟩]))
        else if markD (Utf8.decode s p).1 = true then dLf s n (p + max 1 (Utf8.decode s p).2) rem (out ++ [⟨2, s.extract p (p + max 1 (Utf8.decode s p).2), p⟩])
        else if cls (Utf8.decode s p).1 = 3 then dLf s n (p + max 1 (Utf8.decode s p).2) rem out
        else .inr (p, 10)
    else .inl out
theorem dLf_eq (s : ByteArray) : ∀ n p rem out, s.size - p < n → dLf s n p rem out = dL s p rem out := by
  intro n
  induction n with
  | zero => intro p _ _ h; omega
  | succ n ih =>
    intro p rem out h
    rw [dLf, dL]
    by_cases hp : p < s.size
    · have h1 : s.size - (p + max 1 (Utf8.decode s p).2) < n := by omega
      have h2 : s.size - max (p + 1) (runE s p) < n := by omega
      rw [if_pos hp, dif_pos hp, runF_eq s _ p (by omega), ih _ _ _ h1, ih _ _ _ h2, ih _ _ _ h1, ih _ _ _ h1]
    · rw [if_neg hp, dif_neg hp]
theorem dR_f (s : ByteArray) : dR s = match dLf s (s.size + 1) 0 false [] with | .inl l => (l, s.size, 0) | .inr (p, e) => ([], p, e) := by
  rw [dLf_eq s _ _ _ _ (by omega)]
  rfl
abbrev ex1 : ByteArray := { data := #[97, 49, 123, 98, 44, 32, 35, 32, 99, 10, 195, 188, 125] }
abbrev ex2 : ByteArray := { data := #[97, 33] }
abbrev ex3 : ByteArray := { data := #[49, 50] }
def ex1T : List Tok := [⟨1, ⟨#[97, 49]⟩, 0⟩, ⟨2, ⟨#[123]⟩, 2⟩, ⟨1, ⟨#[98]⟩, 3⟩, ⟨2, ⟨#[44]⟩, 4⟩, ⟨1, ⟨#[195, 188]⟩, 10⟩, ⟨2, ⟨#[125]⟩, 12⟩]
theorem dR_ex1 : dR ex1 = (ex1T, 13, 0) := by
  rw [dR_f]
  kernel_rfl
theorem dR_ex2 : dR ex2 = ([], 1, 10) := by
  rw [dR_f]
  kernel_rfl
theorem dR_ex3 : dR ex3 = ([], 0, 10) := by
  rw [dR_f]
  kernel_rfl
theorem name_f (s : ByteArray) : nameB s = (decide (s.size ≠ 0) && decide (s.size ≤ 24) && decide (runF s (s.size + 1) 0 = s.size) && decide (cls (ptR s 0) = 1)) := by
  rw [name_eq, nameD, runF_eq s _ _ (by omega)]
theorem name_a1 : nameB { data := #[97, 49] } = true := by
  rw [name_f]
  kernel_rfl
theorem name_1a : nameB { data := #[49, 97] } = false := by
  rw [name_f]
  kernel_rfl
theorem name_e : nameB { data := #[] } = false := by
  rw [name_f]
  kernel_rfl
theorem word_or : wordB { data := #[111, 114] } = true := by kernel_rfl
theorem word_a : wordB { data := #[97] } = false := by kernel_rfl
theorem join_ex1 : joinB ex1T = { data := #[97, 49, 32, 123, 32, 98, 32, 44, 32, 195, 188, 32, 125] } := by kernel_rfl
/-- The program's Lex, as the document says it. -/
theorem lexd_any {w : World} {s : ByteArray} (hz : s.size ≤ 65536) : Calls Try.prog 10 #[.string s] w fun e w' => ∃ v, e = .returned (.tuple #[v, .int .i64 (dR s).2.1, .int .i64 (dR s).2.2]) ∧ tokE.Row (fun b => w.heap.size ≤ b) w' v (dR s).1 ∧ Below w.heap.size w w' := by
  refine (lex_any hz).mono ?_
  rintro e w' ⟨v, g, rfl, hs, hg, hb⟩
  rw [lexR_eq] at hs ⊢
  exact ⟨v, rfl, hs.row (fun b h _ => h.elim) hg, hb⟩
theorem ref_any {w : World} {s : ByteArray} (hz : s.size ≤ 65536) : Calls Try.prog 11 #[.string s] w fun e w' => ∃ v, e = .returned (.tuple #[v, .int .i64 (dR s).2.1, .int .i64 (dR s).2.2]) ∧ tokE.Row (fun b => w.heap.size ≤ b) w' v (dR s).1 ∧ Below w.heap.size w w' := by
  refine (dlex_any hz).mono ?_
  rintro e w' ⟨v, g, rfl, ht⟩
  exact ⟨v, rfl, ht.sp.row (fun b h _ => h.elim) ht.gN, ht.low⟩
set_option maxRecDepth 4000 in
set_option maxHeartbeats 1000000 in
theorem lives_any {w : World} : Calls Try.prog 9 #[] w fun e w' => e = .returned (.bool true) ∧ Below w.heap.size w w' := by
  have Ml1 := hid trivial
  have Ml2 := hid trivial
  have Ml3 := hid trivial
  have Mjoin := hid trivial
  have Mn1 := hid trivial
  have Mn2 := hid trivial
  have Mn3 := hid trivial
  have Mo1 := hid trivial
  have Mo2 := hid trivial
  go_enter Try.func9, Try.ntmps9
  go_wp2_with (first | (go_at_call 10; clear Ml1; refine (lexd_any (s := ex1) (by decide)).mono ?_; rintro e w1 ⟨v1, rfl, hr1, hb1⟩; rw [dR_ex1] at hr1 ⊢; obtain ⟨A1, c1, rfl, _, _⟩ := hr1.form; have HR1 := hid hr1; have HB1 := hid hb1; clear hr1 hb1))
  go_wp2_with (first | (go_at_call 10; clear Ml2; refine (lexd_any (s := ex2) (by decide)).mono ?_; rintro e w2 ⟨v2, rfl, hr2, hb2⟩; rw [dR_ex2]; clear hr2; obtain ⟨ey2, dx2, rfl⟩ := more_of hb2; clear hb2))
  go_wp2_with (first | (go_at_call 10; clear Ml3; refine (lexd_any (s := ex3) (by decide)).mono ?_; rintro e w3 ⟨v3, rfl, hr3, hb3⟩; rw [dR_ex3]; clear hr3; obtain ⟨ey3, dx3, rfl⟩ := more_of hb3; clear hb3))
  go_wp2_with (first | (go_at_call 17; clear Mjoin; refine (join_any (l := ex1T) (HR1.out.below (by repeat (first | (with_reducible exact Below.refl _ _) | (with_reducible exact bl_mm) | (with_reducible refine bl_dr ?_) | (with_reducible refine bl_drN ?_ _) | (with_reducible refine bl_al ?_ _) | (with_reducible refine bl_more ?_ _ _)))) (by decide) (by decide)).mono ?_; rintro e w4 ⟨rfl, hb4⟩; rw [join_ex1]; obtain ⟨ey4, dx4, rfl⟩ := more_of hb4; clear hb4))
  go_wp2_with (first | (go_at_call 13; clear Mn1; refine (name_any (s := { data := #[97, 49] })).mono ?_; rintro e w5 ⟨rfl, hb5⟩; rw [name_a1]; obtain ⟨ey5, dx5, rfl⟩ := more_of hb5; clear hb5))
  go_wp2_with (first | (go_at_call 15; clear Mo1; refine (word_any (s := { data := #[111, 114] })).mono ?_; rintro e w8 ⟨rfl, rfl⟩; rw [word_or]))
  go_wp2_with (first | (go_at_call 13; clear Mn2; refine (name_any (s := { data := #[49, 97] })).mono ?_; rintro e w6 ⟨rfl, hb6⟩; rw [name_1a]; obtain ⟨ey6, dx6, rfl⟩ := more_of hb6; clear hb6))
  go_wp2_with (first | (go_at_call 13; clear Mn3; refine (name_any (s := { data := #[] })).mono ?_; rintro e w7 ⟨rfl, hb7⟩; rw [name_e]; obtain ⟨ey7, dx7, rfl⟩ := more_of hb7; clear hb7))
  go_wp2_with (first | (go_at_call 15; clear Mo2; refine (word_any (s := { data := #[97] })).mono ?_; rintro e w9 ⟨rfl, rfl⟩; rw [word_a]))
  go_ret
  exact ⟨rfl, HB1.out.trans ((show Below w1.heap.size w1 _ from (by repeat (first | (with_reducible exact Below.refl _ _) | (with_reducible exact bl_mm) | (with_reducible refine bl_dr ?_) | (with_reducible refine bl_drN ?_ _) | (with_reducible refine bl_al ?_ _) | (with_reducible refine bl_more ?_ _ _)))).mono HB1.out.size)⟩
end Go.Proofs.Ythekoefcienipaa
