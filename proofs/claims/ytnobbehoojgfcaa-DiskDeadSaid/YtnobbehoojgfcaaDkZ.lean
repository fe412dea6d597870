/- With a fuse of so many calls just as many are done. -/
import Derived.Test.YtnobbehoojgfcaaDkY
namespace Go.Proofs.Ytnobbehoojgfcaa
open Go.RowKit

structure Dv (w0 w : World) (d : Nat) (s : DS) : Prop where
  dk : Dk w d (fun b => w0.heap.size ≤ b) s
  bw : Below w0.heap.size w0 w
  ld : w0.heap.size ≤ d
theorem Dv.below {w0 w W : World} {d : Nat} {s : DS} (h : Dv w0 w d s) (hb : Below w.heap.size w W) : Dv w0 W d s := ⟨h.dk.below hb, h.bw.trans (hb.mono h.bw.size), h.ld⟩
theorem Dv.to {w0 w w' : World} {d : Nat} {s s' : DS} (h : Dv w0 w d s) (hd : Dk w' d (fun b => w0.heap.size ≤ b ∨ w.heap.size ≤ b) s') (he : Ext (fun b => b = d ∨ w0.heap.size ≤ b) w w') : Dv w0 w' d s' := by
  have h1 := h.bw.size
  have h2 := h.ld
  exact ⟨hd.mono (fun b hb _ => hb.elim id (fun hb => by omega)), h.bw.trans (he.toBelow h1 (fun x hx e => by omega)), h.ld⟩
theorem dv_sync {w0 w : World} {d : Nat} {s s' : DS} {C c : Int} {i : Int} (h : Dv w0 w d s) (hs : s.Ok C) (hC : C ≤ 1000000000) (hp : syncR s i = (s', c))  :
    Calls Try.prog 22 #[.pointer (some ⟨d, 0, none⟩), .int .i64 i] w fun e w' => e = .returned (.int .i64 c) ∧ Dv w0 w' d s' := by
  refine (sync_all h.dk hs hC i).mono fun e w' ⟨h1, h2, h3⟩ => ?_
  rw [hp] at h1 h2
  exact ⟨h1, h.to h2 h3⟩
theorem dv_cut {w0 w : World} {d : Nat} {s s' : DS} {C c : Int} {i n : Int} (h : Dv w0 w d s) (hs : s.Ok C) (hC : C ≤ 1000000000) (hp : cutR s i n = (s', c))  :
    Calls Try.prog 21 #[.pointer (some ⟨d, 0, none⟩), .int .i64 i, .int .i64 n] w fun e w' => e = .returned (.int .i64 c) ∧ Dv w0 w' d s' := by
  refine (cut_all h.dk hs hC i n).mono fun e w' ⟨h1, h2, h3⟩ => ?_
  rw [hp] at h1 h2
  exact ⟨h1, h.to h2 h3⟩
theorem dv_arm {w0 w : World} {d : Nat} {s s' : DS} {C c : Int} {n : Int} (h : Dv w0 w d s) (hs : s.Ok C) (_hC : C ≤ 1000000000) (hp : armR s n = (s', c))  :
    Calls Try.prog 20 #[.pointer (some ⟨d, 0, none⟩), .int .i64 n] w fun e w' => e = .returned (.int .i64 c) ∧ Dv w0 w' d s' := by
  refine (arm_all h.dk hs n).mono fun e w' ⟨h1, h2, h3⟩ => ?_
  rw [hp] at h1 h2
  exact ⟨h1, h.to h2 h3⟩
theorem dv_app {w0 w : World} {d : Nat} {s s' : DS} {C c : Int} {i : Int} {l : List UInt8} {B : Option Addr} {cb : Nat} (h : Dv w0 w d s) (hs : s.Ok C) (hC : C ≤ 1000000000) (hp : appR s i l = (s', c)) (hl : u8E.Row (fun b => b ≠ d) w (.slice B l.length cb) l) :
    Calls Try.prog 23 #[.pointer (some ⟨d, 0, none⟩), .int .i64 i, .slice B l.length cb] w fun e w' => e = .returned (.int .i64 c) ∧ Dv w0 w' d s' := by
  refine (append_all h.dk hs hC i hl (fun b hb => hb)).mono fun e w' ⟨h1, h2, h3⟩ => ?_
  rw [hp] at h1 h2
  exact ⟨h1, h.to h2 h3⟩
theorem dv_crash {w0 w : World} {d : Nat} {s : DS} {C : Int} {v : Value} {ks : List Int} (h : Dv w0 w d s) (hs : s.Ok C) (hC : C ≤ 1000000000) (hk : intE.Row (fun b => b ≠ d) w v ks) :
    Calls Try.prog 17 #[.pointer (some ⟨d, 0, none⟩), v] w fun e w' => e = .returned (.int .i64 0) ∧ Dv w0 w' d (s.crash ks) :=
  (crash_any h.dk hs hC hk (fun _ hb => hb)).mono fun _ _ ⟨h1, h2, h3⟩ => ⟨h1, h.to (h2.mono (fun _ hb _ => .inl hb)) (h3.mono (fun _ _ hb => .inl hb))⟩
theorem read_i {w : World} {d : Nat} {G : Nat → Prop} {s : DS} {C : Int} {i : Int} {n : Nat} (h : Dk w d G s) (hs : s.Ok C) (hC : C ≤ 1000000000) (hn : ∃ k : Nat, i = k ∧ ∃ hk : k < s.fs.length, (s.fs[k]'hk).b.length = n) :
    Calls Try.prog 15 #[.pointer (some ⟨d, 0, none⟩), .int .i64 i] w fun e w' => ∃ A c, e = .returned (.slice A n c) ∧ Below w.heap.size w w' := by
  obtain ⟨k, rfl, hk⟩ := hn
  exact read_n h hs hC k hk
/-- Behind j calls, with a fuse of n. -/
def Dead (s : DS) (n j : Nat) : Prop := (j ≤ n ∧ s.down = false ∧ s.fuse = (n : Int) - j) ∨ (n < j ∧ s.down = true)
theorem dead_step {s : DS} {n j k : Nat} {may : Nat → Int} {act : DS → Nat → DS} (h : Dead s n j) (hk : k < s.fs.length) (hm : may k = 0) (ha : ∀ t, (act t k).down = t.down ∧ (act t k).fuse = t.fuse) :
    ∃ s', doW s k may act = (s', if j < n then 0 else 9) ∧ Dead s' n (j + 1) := by
  generalize hp : doW s k may act = p
  have hw := doW_way s k may act
  rw [hp] at hw
  rcases h with ⟨h1, h2, h3⟩ | ⟨h1, h2⟩
  · cases hw with
    | down h => rw [h] at h2; cases h2
    | none _ hi => omega
    | may k' _ hk' _ hm' =>
      obtain rfl : k = k' := by omega
      exact absurd hm hm'
    | off k' _ hk' _ _ hf =>
      have : j = n := by omega
      exact ⟨_, by rw [if_neg (by omega)], .inr ⟨by omega, rfl⟩⟩
    | done k' _ hk' _ _ hf =>
      obtain rfl : k = k' := by omega
      have hlt : j < n := by omega
      have hb : s.burn = { s with fuse := s.fuse - 1 } := burn_yes (by omega)
      refine ⟨_, by rw [if_pos hlt], .inl ⟨by omega, ?_, ?_⟩⟩
      · rw [(ha _).1, hb]; exact h2
      · rw [(ha _).2, hb]; show s.fuse - 1 = _; omega
  · cases hw with
    | down h => exact ⟨_, by rw [if_neg (by omega)], .inr ⟨by omega, h2⟩⟩
    | none h _ => rw [h] at h2; cases h2
    | may _ h _ _ _ => rw [h] at h2; cases h2
    | off _ h _ _ _ _ => rw [h] at h2; cases h2
    | done _ h _ _ _ _ => rw [h] at h2; cases h2
theorem dead_sync {s : DS} {n j k : Nat} (h : Dead s n j) (hk : k < s.fs.length) : ∃ s', syncR s k = (s', if j < n then 0 else 9) ∧ Dead s' n (j + 1) :=
  dead_step h hk rfl (fun _ => ⟨rfl, rfl⟩)
theorem dead_cut {s : DS} {n j k l : Nat} (h : Dead s n j) (hk : k < s.fs.length) (hl : (s.fs[k]'hk).b.length = l) : ∃ s', cutR s k l = (s', if j < n then 0 else 9) ∧ Dead s' n (j + 1) := by
  refine dead_step h hk ?_ (fun t => ⟨rfl, rfl⟩)
  show (if ((l : Int) < 0 ∨ ((s.fs.getD k ⟨[], 0⟩).b.length : Int) < (l : Int)) then (2 : Int) else 0) = 0
  rw [if_neg]
  simp [hk]
  omega

theorem arm_alive (s : DS) (m : Nat) : armR (s.crash []) (m : Int) = ({ s.crash [] with fuse := (m : Int) }, 0) := by
  unfold armR
  rw [if_neg (by show ¬ (false = true); simp)]
  rw [show max (m : Int) (-1) = m by omega]
theorem doW_dead {s : DS} {i : Int} {may : Nat → Int} {act : DS → Nat → DS} (h : s.down = true) : doW s i may act = (s, 9) := by unfold doW; rw [if_pos h]
theorem arm_dead {s : DS} {n : Int} (h : s.down = true) : armR s n = (s, 9) := by unfold armR; rw [if_pos h]
theorem sync_alive {s : DS} (h : 0 < s.fs.length) : ∃ s', syncR (s.crash []) 0 = (s', 0) := by
  have hl : (s.crash []).fs.length = s.fs.length := crash_len s [] _
  unfold syncR doW
  rw [if_neg (by show ¬ (false = true); simp), if_neg (by omega), if_neg (by simp), if_neg (by show ¬ ((-1 : Int) = 0); omega)]
  exact ⟨_, rfl⟩
set_option maxRecDepth 8000 in
set_option maxHeartbeats 4000000 in
theorem dead_any {w : World} {n : Int} {v vb : Value} {xs : List ActD} {l : List UInt8} (h : actE.Row (fun _ => True) w v xs) (hnb : ∀ x ∈ xs, x.n ≤ 9223372036854775807) (hby : u8E.Row (fun _ => True) w vb l) :
    Calls Try.prog 6 #[v, .int .i64 n, vb] w fun e w' => e = .returned (.bool true) ∧ Below w.heap.size w w' := by
  obtain ⟨A, c, rfl, _, _⟩ := h.form
  obtain ⟨B, cb, rfl, _, _⟩ := hby.form
  have HX := hid h
  have HNB := hid hnb
  have HBY := hid (hby.bound.mono (K' := fun b => b < w.heap.size) (fun b hb _ => hb.2))
  clear h hnb hby
  cases hf : fewB xs with
  | false =>
    have HF := hid hf
    clear hf
    go_enter Try.func6, Try.ntmps6
    go_wp2_with (first | (go_at_call 8; refine (few_no (HX.out.below (by repeat (first | (with_reducible exact Below.refl _ _) | (with_reducible exact bl_mm) | (with_reducible refine bl_dr ?_) | (with_reducible refine bl_drN ?_ _) | (with_reducible refine bl_al ?_ _) | (with_reducible refine bl_more ?_ _ _)))) HF.out).mono ?_; rintro e w2 ⟨rfl, hb1⟩; obtain ⟨ex, dx, rfl⟩ := more_of hb1; clear hb1) | (go_at_call 9; refine (lives_any _).mono ?_; rintro e w2 ⟨rfl, hb1⟩; obtain ⟨ex, dx, rfl⟩ := more_of hb1; clear hb1))
    go_ret
    exact ⟨rfl, (by repeat (first | (with_reducible exact Below.refl _ _) | (with_reducible exact bl_mm) | (with_reducible refine bl_dr ?_) | (with_reducible refine bl_drN ?_ _) | (with_reducible refine bl_al ?_ _) | (with_reducible refine bl_more ?_ _ _)))⟩
  | true =>
    have HF := hid hf
    clear hf
    by_cases h1 : n < 0
    · go_enter Try.func6, Try.ntmps6
      go_wp2_with (first | (go_at_call 8; refine (few_yes (HX.out.below (by repeat (first | (with_reducible exact Below.refl _ _) | (with_reducible exact bl_mm) | (with_reducible refine bl_dr ?_) | (with_reducible refine bl_drN ?_ _) | (with_reducible refine bl_al ?_ _) | (with_reducible refine bl_more ?_ _ _)))) HF.out).mono ?_; rintro e w2 ⟨rfl, hb1⟩; obtain ⟨ex0, dx0, rfl⟩ := more_of hb1; clear hb1) | (go_at_call 9; refine (lives_any _).mono ?_; rintro e w2 ⟨rfl, hb1⟩; obtain ⟨ex, dx, rfl⟩ := more_of hb1; clear hb1))
      go_ret
      exact ⟨rfl, (by repeat (first | (with_reducible exact Below.refl _ _) | (with_reducible exact bl_mm) | (with_reducible refine bl_dr ?_) | (with_reducible refine bl_drN ?_ _) | (with_reducible refine bl_al ?_ _) | (with_reducible refine bl_more ?_ _ _)))⟩
    · by_cases h2 : 20 < n
      · have h1' : decide (n < 0) = false := by simpa using h1
        go_enter Try.func6, Try.ntmps6
        go_wp2_with (first | (go_at_call 8; refine (few_yes (HX.out.below (by repeat (first | (with_reducible exact Below.refl _ _) | (with_reducible exact bl_mm) | (with_reducible refine bl_dr ?_) | (with_reducible refine bl_drN ?_ _) | (with_reducible refine bl_al ?_ _) | (with_reducible refine bl_more ?_ _ _)))) HF.out).mono ?_; rintro e w2 ⟨rfl, hb1⟩; obtain ⟨ex0, dx0, rfl⟩ := more_of hb1; clear hb1) | (go_at_call 9; refine (lives_any _).mono ?_; rintro e w2 ⟨rfl, hb1⟩; obtain ⟨ex, dx, rfl⟩ := more_of hb1; clear hb1))
        go_ret
        exact ⟨rfl, (by repeat (first | (with_reducible exact Below.refl _ _) | (with_reducible exact bl_mm) | (with_reducible refine bl_dr ?_) | (with_reducible refine bl_drN ?_ _) | (with_reducible refine bl_al ?_ _) | (with_reducible refine bl_more ?_ _ _)))⟩
      · by_cases h3 : 100 < l.length
        · have h1' : decide (n < 0) = false := by simpa using h1
          have h3' : (100 : Int) < (l.length : Int) := by omega
          go_enter Try.func6, Try.ntmps6
          go_wp2_with (first | (go_at_call 8; refine (few_yes (HX.out.below (by repeat (first | (with_reducible exact Below.refl _ _) | (with_reducible exact bl_mm) | (with_reducible refine bl_dr ?_) | (with_reducible refine bl_drN ?_ _) | (with_reducible refine bl_al ?_ _) | (with_reducible refine bl_more ?_ _ _)))) HF.out).mono ?_; rintro e w2 ⟨rfl, hb1⟩; obtain ⟨ex0, dx0, rfl⟩ := more_of hb1; clear hb1) | (go_at_call 9; refine (lives_any _).mono ?_; rintro e w2 ⟨rfl, hb1⟩; obtain ⟨ex, dx, rfl⟩ := more_of hb1; clear hb1))
          go_ret
          exact ⟨rfl, (by repeat (first | (with_reducible exact Below.refl _ _) | (with_reducible exact bl_mm) | (with_reducible refine bl_dr ?_) | (with_reducible refine bl_drN ?_ _) | (with_reducible refine bl_al ?_ _) | (with_reducible refine bl_more ?_ _ _)))⟩
        · obtain ⟨m, rfl⟩ : ∃ m : Nat, n = m := ⟨n.toNat, by omega⟩
          have h1' : decide ((m : Int) < 0) = false := by simp
          have h2' : ¬ (20 : Int) < (m : Int) := h2
          have h3' : ¬ (100 : Int) < (l.length : Int) := by omega
          have hm : m ≤ 20 := by omega
          clear h1 h2 h3
          go_enter Try.func6, Try.ntmps6
          go_wp2_with (first | (go_at_call 8; refine (few_yes (HX.out.below (by repeat (first | (with_reducible exact Below.refl _ _) | (with_reducible exact bl_mm) | (with_reducible refine bl_dr ?_) | (with_reducible refine bl_drN ?_ _) | (with_reducible refine bl_al ?_ _) | (with_reducible refine bl_more ?_ _ _)))) HF.out).mono ?_; rintro e w2 ⟨rfl, hb1⟩; obtain ⟨ex0, dx0, rfl⟩ := more_of hb1; clear hb1) | (go_at_call 14; refine (begun_any (HX.out.below (by repeat (first | (with_reducible exact Below.refl _ _) | (with_reducible exact bl_mm) | (with_reducible refine bl_dr ?_) | (with_reducible refine bl_drN ?_ _) | (with_reducible refine bl_al ?_ _) | (with_reducible refine bl_more ?_ _ _)))) HNB.out HF.out).mono ?_; rintro e w1 ⟨d, s0, rfl, hq, hld, hb1, hok, hl3⟩; have HD := hid (Dv.mk (w0 := w) (hq.mono (fun b hb _ => by simp only [more_size] at hb; omega)) ((show Below w.heap.size w _ from (by repeat (first | (with_reducible exact Below.refl _ _) | (with_reducible exact bl_mm) | (with_reducible refine bl_dr ?_) | (with_reducible refine bl_drN ?_ _) | (with_reducible refine bl_al ?_ _) | (with_reducible refine bl_more ?_ _ _)))).trans (hb1.mono (by simp only [more_size]; omega))) (by simp only [more_size] at hld; omega)); have HOK := hid hok; have HL3 := hid hl3; clear hq hld hb1 hok hl3))
          go_wp2_with (first | (go_at_call 17; refine (dv_crash (ks := []) (HD.out.below (by repeat (first | (with_reducible exact Below.refl _ _) | (with_reducible exact bl_mm) | (with_reducible refine bl_dr ?_) | (with_reducible refine bl_drN ?_ _) | (with_reducible refine bl_al ?_ _) | (with_reducible refine bl_more ?_ _ _)))) HOK.out (by omega) (Enc.Row.nil _ _ _)).mono ?_; rintro e w1 ⟨rfl, hq⟩; clear HD; have HD := hid hq; clear hq))
          go_wp2_with (first | (go_at_call 20; refine (dv_arm (HD.out.below (by repeat (first | (with_reducible exact Below.refl _ _) | (with_reducible exact bl_mm) | (with_reducible refine bl_dr ?_) | (with_reducible refine bl_drN ?_ _) | (with_reducible refine bl_al ?_ _) | (with_reducible refine bl_more ?_ _ _)))) (crashS_ok HOK.out []) (by omega) (arm_alive s0 m)).mono ?_; rintro e w1 ⟨rfl, hq⟩; clear HD; have HD := hid hq; clear hq))
          have hd0 : Dead { s0.crash [] with fuse := (m : Int) } m 0 := .inl ⟨by omega, rfl, by show (m : Int) = (m : Int) - 0; omega⟩
          have hok0 : DS.Ok { s0.crash [] with fuse := (m : Int) } 300000000 := (crashS_ok HOK.out []).setf (by omega) (by omega)
          have hl0 : (DS.fs { s0.crash [] with fuse := (m : Int) }).length = 3 := (crash_len s0 [] _).trans HL3.out
          go_loopg [8, 9] 25 (fun k dn i wr => ∃ (j q : Nat) (s : DS), j + k = 25 ∧ i = .int .i64 j ∧ dn = .int .i64 q ∧ q = min j m ∧ Dv w wr d s ∧ s.Ok 300000000 ∧ s.fs.length = 3 ∧ Dead s m j)
          case atStart => exact ⟨0, 0, _, by omega, rfl, rfl, by omega, HD.out, hok0, hl0, hd0⟩
          case round =>
            obtain ⟨j, q, s, hj, rfl, rfl, hqm, hq, hs, h3, hdd⟩ := hrel
            clear HD hd0 hok0 hl0 HOK HL3
            have HD := hid hq
            have HS := hid hs
            clear hq hs
            by_cases hlt : j < 25
            · have hk3 : j % 3 < s.fs.length := by omega
              obtain ⟨lk, hlk⟩ : ∃ lk, (s.fs[j % 3]'hk3).b.length = lk := ⟨_, rfl⟩
              have e3 : ((j % 3 : Nat) : Int) = (j : Int) % 3 := by omega
              have hrd : ∃ k : Nat, (j : Int) % 3 = k ∧ ∃ hk : k < s.fs.length, (s.fs[k]'hk).b.length = lk := ⟨j % 3, by omega, hk3, hlk⟩
              have HRD := hid hrd
              cases hpar : ((j : Int) % 2 == 1) with
              | true =>
                obtain ⟨s', hp, hde⟩ := dead_cut hdd hk3 hlk
                have hok' := cut_ok HS.out ((j % 3 : Nat) : Int) lk
                have hlen' := cut_len s ((j % 3 : Nat) : Int) lk
                rw [hp] at hok' hlen'
                rw [e3] at hp
                have hlen' : s'.fs.length = 3 := hlen'.trans h3
                clear hlk hk3 e3
                by_cases hjm : j < m
                · rw [if_pos hjm] at hp
                  have i1 : (j : Int) < 25 := by omega
                  have i3 : (0 : Int) ≤ (j : Int) := by omega
                  have w1' : IntKind.i64.wrap ((j : Int) + 1) = ((j + 1 : Nat) : Int) := by rw [IntWalk.i64_in _ (by omega)]; rfl
                  have w2' : IntKind.i64.wrap ((q : Int) + 1) = ((q + 1 : Nat) : Int) := by rw [IntWalk.i64_in _ (by omega)]; rfl
                  have HS' := hid hok'
                  have HL' := hid hlen'
                  have HDE := hid hde
                  have HP := hid hp
                  have HJ := hid hj
                  have HQ := hid hqm
                  clear hok' hlen' hde hp hj hqm hrd h3 hdd
                  go_wp2_with (first | (go_at_call 15; refine (read_i (s := s) (n := lk) (HD.out.below (by repeat (first | (with_reducible exact Below.refl _ _) | (with_reducible exact bl_mm) | (with_reducible refine bl_dr ?_) | (with_reducible refine bl_drN ?_ _) | (with_reducible refine bl_al ?_ _) | (with_reducible refine bl_more ?_ _ _)))).dk HS.out (by omega) HRD.out).mono ?_; rintro e w1 ⟨A0, c0, rfl, hb1⟩; obtain ⟨ex2, dx2, rfl⟩ := more_of hb1; clear hb1) | (go_at_call 21; refine (dv_cut (HD.out.below (by repeat (first | (with_reducible exact Below.refl _ _) | (with_reducible exact bl_mm) | (with_reducible refine bl_dr ?_) | (with_reducible refine bl_drN ?_ _) | (with_reducible refine bl_al ?_ _) | (with_reducible refine bl_more ?_ _ _)))) HS.out (by omega) HP.out).mono ?_; rintro e w1 ⟨rfl, hq⟩; have HD2 := hid hq; clear hq))
                  go_roundg (25 - (j + 1))
                  case measure => have := HJ.out; omega
                  case rel => exact ⟨j + 1, (q + 1), s', by have := HJ.out; omega, rfl, rfl, by have := HQ.out; have := HJ.out; omega, HD2.out.below (by repeat (first | (with_reducible exact Below.refl _ _) | (with_reducible exact bl_mm) | (with_reducible refine bl_dr ?_) | (with_reducible refine bl_drN ?_ _) | (with_reducible refine bl_al ?_ _) | (with_reducible refine bl_more ?_ _ _))), HS'.out, HL'.out, HDE.out⟩
                · rw [if_neg hjm] at hp
                  have i1 : (j : Int) < 25 := by omega
                  have i3 : (0 : Int) ≤ (j : Int) := by omega
                  have w1' : IntKind.i64.wrap ((j : Int) + 1) = ((j + 1 : Nat) : Int) := by rw [IntWalk.i64_in _ (by omega)]; rfl
                  have w2' : IntKind.i64.wrap ((q : Int) + 1) = ((q + 1 : Nat) : Int) := by rw [IntWalk.i64_in _ (by omega)]; rfl
                  have HS' := hid hok'
                  have HL' := hid hlen'
                  have HDE := hid hde
                  have HP := hid hp
                  have HJ := hid hj
                  have HQ := hid hqm
                  clear hok' hlen' hde hp hj hqm hrd h3 hdd
                  go_wp2_with (first | (go_at_call 15; refine (read_i (s := s) (n := lk) (HD.out.below (by repeat (first | (with_reducible exact Below.refl _ _) | (with_reducible exact bl_mm) | (with_reducible refine bl_dr ?_) | (with_reducible refine bl_drN ?_ _) | (with_reducible refine bl_al ?_ _) | (with_reducible refine bl_more ?_ _ _)))).dk HS.out (by omega) HRD.out).mono ?_; rintro e w1 ⟨A0, c0, rfl, hb1⟩; obtain ⟨ex2, dx2, rfl⟩ := more_of hb1; clear hb1) | (go_at_call 21; refine (dv_cut (HD.out.below (by repeat (first | (with_reducible exact Below.refl _ _) | (with_reducible exact bl_mm) | (with_reducible refine bl_dr ?_) | (with_reducible refine bl_drN ?_ _) | (with_reducible refine bl_al ?_ _) | (with_reducible refine bl_more ?_ _ _)))) HS.out (by omega) HP.out).mono ?_; rintro e w1 ⟨rfl, hq⟩; have HD2 := hid hq; clear hq))
                  go_roundg (25 - (j + 1))
                  case measure => have := HJ.out; omega
                  case rel => exact ⟨j + 1, q, s', by have := HJ.out; omega, rfl, rfl, by have := HQ.out; have := HJ.out; omega, HD2.out.below (by repeat (first | (with_reducible exact Below.refl _ _) | (with_reducible exact bl_mm) | (with_reducible refine bl_dr ?_) | (with_reducible refine bl_drN ?_ _) | (with_reducible refine bl_al ?_ _) | (with_reducible refine bl_more ?_ _ _))), HS'.out, HL'.out, HDE.out⟩
              | false =>
                obtain ⟨s', hp, hde⟩ := dead_sync hdd hk3
                have hok' := sync_ok HS.out ((j % 3 : Nat) : Int)
                have hlen' := sync_len s ((j % 3 : Nat) : Int)
                rw [hp] at hok' hlen'
                rw [e3] at hp
                have hlen' : s'.fs.length = 3 := hlen'.trans h3
                clear hlk hk3 e3
                by_cases hjm : j < m
                · rw [if_pos hjm] at hp
                  have i1 : (j : Int) < 25 := by omega
                  have i3 : (0 : Int) ≤ (j : Int) := by omega
                  have w1' : IntKind.i64.wrap ((j : Int) + 1) = ((j + 1 : Nat) : Int) := by rw [IntWalk.i64_in _ (by omega)]; rfl
                  have w2' : IntKind.i64.wrap ((q : Int) + 1) = ((q + 1 : Nat) : Int) := by rw [IntWalk.i64_in _ (by omega)]; rfl
                  have HS' := hid hok'
                  have HL' := hid hlen'
                  have HDE := hid hde
                  have HP := hid hp
                  have HJ := hid hj
                  have HQ := hid hqm
                  clear hok' hlen' hde hp hj hqm hrd h3 hdd
                  go_wp2_with (first | (go_at_call 15; refine (read_i (s := s) (n := lk) (HD.out.below (by repeat (first | (with_reducible exact Below.refl _ _) | (with_reducible exact bl_mm) | (with_reducible refine bl_dr ?_) | (with_reducible refine bl_drN ?_ _) | (with_reducible refine bl_al ?_ _) | (with_reducible refine bl_more ?_ _ _)))).dk HS.out (by omega) HRD.out).mono ?_; rintro e w1 ⟨A0, c0, rfl, hb1⟩; obtain ⟨ex2, dx2, rfl⟩ := more_of hb1; clear hb1) | (go_at_call 22; refine (dv_sync (HD.out.below (by repeat (first | (with_reducible exact Below.refl _ _) | (with_reducible exact bl_mm) | (with_reducible refine bl_dr ?_) | (with_reducible refine bl_drN ?_ _) | (with_reducible refine bl_al ?_ _) | (with_reducible refine bl_more ?_ _ _)))) HS.out (by omega) HP.out).mono ?_; rintro e w1 ⟨rfl, hq⟩; have HD2 := hid hq; clear hq))
                  go_roundg (25 - (j + 1))
                  case measure => have := HJ.out; omega
                  case rel => exact ⟨j + 1, (q + 1), s', by have := HJ.out; omega, rfl, rfl, by have := HQ.out; have := HJ.out; omega, HD2.out.below (by repeat (first | (with_reducible exact Below.refl _ _) | (with_reducible exact bl_mm) | (with_reducible refine bl_dr ?_) | (with_reducible refine bl_drN ?_ _) | (with_reducible refine bl_al ?_ _) | (with_reducible refine bl_more ?_ _ _))), HS'.out, HL'.out, HDE.out⟩
                · rw [if_neg hjm] at hp
                  have i1 : (j : Int) < 25 := by omega
                  have i3 : (0 : Int) ≤ (j : Int) := by omega
                  have w1' : IntKind.i64.wrap ((j : Int) + 1) = ((j + 1 : Nat) : Int) := by rw [IntWalk.i64_in _ (by omega)]; rfl
                  have w2' : IntKind.i64.wrap ((q : Int) + 1) = ((q + 1 : Nat) : Int) := by rw [IntWalk.i64_in _ (by omega)]; rfl
                  have HS' := hid hok'
                  have HL' := hid hlen'
                  have HDE := hid hde
                  have HP := hid hp
                  have HJ := hid hj
                  have HQ := hid hqm
                  clear hok' hlen' hde hp hj hqm hrd h3 hdd
                  go_wp2_with (first | (go_at_call 15; refine (read_i (s := s) (n := lk) (HD.out.below (by repeat (first | (with_reducible exact Below.refl _ _) | (with_reducible exact bl_mm) | (with_reducible refine bl_dr ?_) | (with_reducible refine bl_drN ?_ _) | (with_reducible refine bl_al ?_ _) | (with_reducible refine bl_more ?_ _ _)))).dk HS.out (by omega) HRD.out).mono ?_; rintro e w1 ⟨A0, c0, rfl, hb1⟩; obtain ⟨ex2, dx2, rfl⟩ := more_of hb1; clear hb1) | (go_at_call 22; refine (dv_sync (HD.out.below (by repeat (first | (with_reducible exact Below.refl _ _) | (with_reducible exact bl_mm) | (with_reducible refine bl_dr ?_) | (with_reducible refine bl_drN ?_ _) | (with_reducible refine bl_al ?_ _) | (with_reducible refine bl_more ?_ _ _)))) HS.out (by omega) HP.out).mono ?_; rintro e w1 ⟨rfl, hq⟩; have HD2 := hid hq; clear hq))
                  go_roundg (25 - (j + 1))
                  case measure => have := HJ.out; omega
                  case rel => exact ⟨j + 1, q, s', by have := HJ.out; omega, rfl, rfl, by have := HQ.out; have := HJ.out; omega, HD2.out.below (by repeat (first | (with_reducible exact Below.refl _ _) | (with_reducible exact bl_mm) | (with_reducible refine bl_dr ?_) | (with_reducible refine bl_drN ?_ _) | (with_reducible refine bl_al ?_ _) | (with_reducible refine bl_more ?_ _ _))), HS'.out, HL'.out, HDE.out⟩
            · obtain rfl : j = 25 := by omega
              have i1 : ¬ (25 : Int) < 25 := by omega
              obtain rfl : q = m := by omega
              have hdn : s.down = true := by rcases hdd with h | h; omega; exact h.2
              have h0 : 0 < s.fs.length := by omega
              obtain ⟨lk, hlk⟩ : ∃ lk, (s.fs[0]'h0).b.length = lk := ⟨_, rfl⟩
              have HRD := hid (show ∃ k : Nat, (0 : Int) = k ∧ ∃ hk : k < s.fs.length, (s.fs[k]'hk).b.length = lk from ⟨0, rfl, h0, hlk⟩)
              have HP9 := hid (show appR s 0 l = (s, 9) from doW_dead hdn)
              have HA9 := hid (show armR s 3 = (s, 9) from arm_dead hdn)
              have HS3 := hid (crashS_ok HS.out [])
              obtain ⟨s4, hs4⟩ := sync_alive h0
              have HP3 := hid hs4
              have hd3 : (s.crash []).down = false := rfl
              clear hj hqm hdd hlk h3 h0 hs4
              go_wp2_with (first | (go_at_call 15; refine (read_i (s := s) (n := lk) (HD.out.below (by repeat (first | (with_reducible exact Below.refl _ _) | (with_reducible exact bl_mm) | (with_reducible refine bl_dr ?_) | (with_reducible refine bl_drN ?_ _) | (with_reducible refine bl_al ?_ _) | (with_reducible refine bl_more ?_ _ _)))).dk HS.out (by omega) HRD.out).mono ?_; rintro e w1 ⟨A0, c0, rfl, hb1⟩; obtain ⟨ex2, dx2, rfl⟩ := more_of hb1; clear hb1))
              go_wp2_with (first | (go_at_call 18; refine (down_any (s := s) (HD.out.below (by repeat (first | (with_reducible exact Below.refl _ _) | (with_reducible exact bl_mm) | (with_reducible refine bl_dr ?_) | (with_reducible refine bl_drN ?_ _) | (with_reducible refine bl_al ?_ _) | (with_reducible refine bl_more ?_ _ _)))).dk HS.out.n1).mono ?_; rintro e w1 ⟨rfl, hb1⟩; obtain ⟨ex2, dx2, rfl⟩ := more_of hb1; clear hb1))
              go_wp2_with (first | (go_at_call 23; refine (dv_app (s := s) (HD.out.below (by repeat (first | (with_reducible exact Below.refl _ _) | (with_reducible exact bl_mm) | (with_reducible refine bl_dr ?_) | (with_reducible refine bl_drN ?_ _) | (with_reducible refine bl_al ?_ _) | (with_reducible refine bl_more ?_ _ _)))) HS.out (by omega) HP9.out ((HBY.out.below (show Below w.heap.size w _ from HD.out.bw.trans ((show Below wr.heap.size wr _ from (by repeat (first | (with_reducible exact Below.refl _ _) | (with_reducible exact bl_mm) | (with_reducible refine bl_dr ?_) | (with_reducible refine bl_drN ?_ _) | (with_reducible refine bl_al ?_ _) | (with_reducible refine bl_more ?_ _ _)))).mono HD.out.bw.size))).mono (fun b hb _ => by have := HD.out.ld; omega))).mono ?_; rintro e w1 ⟨rfl, hq⟩; have HD2 := hid hq; clear hq))
              go_wp2_with (first | (go_at_call 20; refine (dv_arm (s := s) (HD2.out.below (by repeat (first | (with_reducible exact Below.refl _ _) | (with_reducible exact bl_mm) | (with_reducible refine bl_dr ?_) | (with_reducible refine bl_drN ?_ _) | (with_reducible refine bl_al ?_ _) | (with_reducible refine bl_more ?_ _ _)))) HS.out (by omega) HA9.out).mono ?_; rintro e w1 ⟨rfl, hq⟩; clear HD2; have HD2 := hid hq; clear hq))
              go_wp2_with (first | (go_at_call 15; refine (read_i (s := s) (n := lk) (HD2.out.below (by repeat (first | (with_reducible exact Below.refl _ _) | (with_reducible exact bl_mm) | (with_reducible refine bl_dr ?_) | (with_reducible refine bl_drN ?_ _) | (with_reducible refine bl_al ?_ _) | (with_reducible refine bl_more ?_ _ _)))).dk HS.out (by omega) HRD.out).mono ?_; rintro e w1 ⟨A1, c1, rfl, hb1⟩; obtain ⟨ex2, dx2, rfl⟩ := more_of hb1; clear hb1))
              go_wp2_with (first | (go_at_call 17; refine (dv_crash (ks := []) (HD2.out.below (by repeat (first | (with_reducible exact Below.refl _ _) | (with_reducible exact bl_mm) | (with_reducible refine bl_dr ?_) | (with_reducible refine bl_drN ?_ _) | (with_reducible refine bl_al ?_ _) | (with_reducible refine bl_more ?_ _ _)))) HS.out (by omega) (Enc.Row.nil _ _ _)).mono ?_; rintro e w1 ⟨rfl, hq⟩; have HD3 := hid hq; clear hq))
              go_wp2_with (first | (go_at_call 18; refine (down_any (s := s.crash []) (HD3.out.below (by repeat (first | (with_reducible exact Below.refl _ _) | (with_reducible exact bl_mm) | (with_reducible refine bl_dr ?_) | (with_reducible refine bl_drN ?_ _) | (with_reducible refine bl_al ?_ _) | (with_reducible refine bl_more ?_ _ _)))).dk HS3.out.n1).mono ?_; rintro e w1 ⟨rfl, hb1⟩; obtain ⟨ex2, dx2, rfl⟩ := more_of hb1; clear hb1))
              go_wp2_with (first | (go_at_call 22; refine (dv_sync (s := s.crash []) (HD3.out.below (by repeat (first | (with_reducible exact Below.refl _ _) | (with_reducible exact bl_mm) | (with_reducible refine bl_dr ?_) | (with_reducible refine bl_drN ?_ _) | (with_reducible refine bl_al ?_ _) | (with_reducible refine bl_more ?_ _ _)))) HS3.out (by omega) HP3.out).mono ?_; rintro e w1 ⟨rfl, hq⟩; have HD4 := hid hq; clear hq))
              go_wp2_with (first | (go_at_call 9; refine (lives_any _).mono ?_; rintro e w2 ⟨rfl, hb1⟩; obtain ⟨ex, dx, rfl⟩ := more_of hb1; clear hb1))
              go_ret
              exact ⟨rfl, (HD4.out.below (by repeat (first | (with_reducible exact Below.refl _ _) | (with_reducible exact bl_mm) | (with_reducible refine bl_dr ?_) | (with_reducible refine bl_drN ?_ _) | (with_reducible refine bl_al ?_ _) | (with_reducible refine bl_more ?_ _ _)))).bw⟩
end Go.Proofs.Ytnobbehoojgfcaa
