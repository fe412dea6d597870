/- LexReads, walked. -/
import Derived.Test.YthekoefcienipaaLxLv
namespace Go.Proofs.Ythekoefcienipaa
open Go.RowKit

theorem dL_few (s : ByteArray) : ∀ n p rem out l, s.size - p = n → p ≤ s.size → dL s p rem out = .inl l → l.length + p ≤ out.length + s.size := by
  intro n
  induction n using Nat.strongRecOn with
  | _ n ih =>
    intro p rem out l hn hp h
    by_cases hps : p < s.size
    · cases hbd : bad s p with
      | true => rw [dL_bad hps hbd] at h; cases h
      | false =>
        have hw := width_pos s p
        have hwl := width_le hps
        rw [dL_step hps hbd] at h
        split at h
        · have := ih _ (by omega) _ _ _ _ rfl hwl h; omega
        · split at h
          · rename_i hc
            have hg := runE_gt hps hbd hc
            have hle := runE_le (s := s) hp
            split at h
            · cases h
            · have := ih _ (by omega) _ _ _ _ rfl hle h
              simp at this; omega
          · split at h
            · have := ih _ (by omega) _ _ _ _ rfl hwl h
              simp at this; omega
            · split at h
              · have := ih _ (by omega) _ _ _ _ rfl hwl h; omega
              · cases h
    · rw [dL_end hps] at h
      cases h
      omega
theorem dR_few (s : ByteArray) : (dR s).1.length ≤ s.size := by
  unfold dR
  cases h : dL s 0 false [] with
  | inl l =>
    have := dL_few s _ 0 _ _ _ rfl (Nat.zero_le _) h
    simp at this
    exact this
  | inr x => exact Nat.zero_le _
set_option maxHeartbeats 1000000 in
theorem reads_any {w : World} {s : ByteArray} : Calls Try.prog 3 #[.string s] w fun e w' => e = .returned (.bool true) ∧ Below w.heap.size w w' := by
  have Mlives := hid trivial
  by_cases h5 : (5000 : Int) < s.size
  · go_enter Try.func3, Try.ntmps3
    go_wp2_with (first | (go_at_call 9; clear Mlives; refine lives_any.mono ?_; rintro e w4 ⟨rfl, hb4⟩; obtain ⟨ey4, dx4, rfl⟩ := more_of hb4; clear hb4))
    go_ret
    exact ⟨rfl, (by repeat (first | (with_reducible exact Below.refl _ _) | (with_reducible exact bl_mm) | (with_reducible refine bl_dr ?_) | (with_reducible refine bl_drN ?_ _) | (with_reducible refine bl_al ?_ _) | (with_reducible refine bl_more ?_ _ _)))⟩
  · have Mlex := hid trivial
    have Mref := hid trivial
    have Msame := hid trivial
    have HZ : Hid (s.size ≤ 65536) := hid (by omega)
    go_enter Try.func3, Try.ntmps3
    go_wp2_with (first | (go_at_call 10; clear Mlex; refine (lexd_any HZ.out).mono ?_; rintro e w1 ⟨v1, rfl, hr1, hb1⟩; obtain ⟨A1, c1, rfl, _, _⟩ := hr1.form; have HR1 := hid hr1; have HB1 := hid hb1; clear hr1 hb1))
    go_wp2_with (first | (go_at_call 11; clear Mref; refine (ref_any HZ.out).mono ?_; rintro e w2 ⟨v2, rfl, hr2, hb2⟩; obtain ⟨A2, c2, rfl, _, _⟩ := hr2.form; have HR2 := hid hr2; have HB2 := hid hb2; clear hr2 hb2))
    go_wp2_with (first | (go_at_call 12; clear Msame; refine (same_any (K := fun _ => True) ((HR1.out.below HB2.out).mono (fun _ _ _ => trivial)) (HR2.out.mono (fun _ _ _ => trivial)) (by have := dR_few s; have := HZ.out; omega) (by have := dR_few s; have := HZ.out; omega)).mono ?_; rintro e w3 ⟨rfl, hb3⟩; rw [decide_eq_true rfl]; obtain ⟨ey3, dx3, rfl⟩ := more_of hb3; clear hb3))
    go_wp2_with (first | (go_at_call 9; clear Mlives; refine lives_any.mono ?_; rintro e w4 ⟨rfl, hb4⟩; obtain ⟨ey4, dx4, rfl⟩ := more_of hb4; clear hb4))
    go_ret
    exact ⟨rfl, HB1.out.trans ((HB2.out.mono HB1.out.size).trans ((show Below w2.heap.size w2 _ from (by repeat (first | (with_reducible exact Below.refl _ _) | (with_reducible exact bl_mm) | (with_reducible refine bl_dr ?_) | (with_reducible refine bl_drN ?_ _) | (with_reducible refine bl_al ?_ _) | (with_reducible refine bl_more ?_ _ _)))).mono (Nat.le_trans HB1.out.size HB2.out.size)))⟩
end Go.Proofs.Ythekoefcienipaa
