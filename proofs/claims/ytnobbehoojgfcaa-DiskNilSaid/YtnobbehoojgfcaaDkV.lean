/- The examples. -/
import Derived.Test.YtnobbehoojgfcaaDkU
namespace Go.Proofs.Ytnobbehoojgfcaa
open Go.RowKit

structure Lv (w0 w : World) (d : Nat) (s : DS) : Prop where
  dk : Dk w d (fun b => w0.heap.size ≤ b) s
  bw : Below w0.heap.size w0 w
  ld : w0.heap.size ≤ d
  ok : s.Ok 9
theorem Lv.below {w0 w W : World} {d : Nat} {s : DS} (h : Lv w0 w d s) (hb : Below w.heap.size w W) : Lv w0 W d s := ⟨h.dk.below hb, h.bw.trans (hb.mono h.bw.size), h.ld, h.ok⟩
theorem Lv.to {w0 w w' : World} {d : Nat} {s s' : DS} (h : Lv w0 w d s) (hd : Dk w' d (fun b => w0.heap.size ≤ b ∨ w.heap.size ≤ b) s') (he : Ext (fun b => b = d ∨ w0.heap.size ≤ b) w w') (hok : s'.Ok 9) : Lv w0 w' d s' := by
  have h1 := h.bw.size
  have h2 := h.ld
  exact ⟨hd.mono (fun b hb _ => hb.elim id (fun hb => by omega)), h.bw.trans (he.toBelow h1 (fun x hx e => by omega)), h.ld, hok⟩
def S0 : DS := ⟨[⟨[], 0⟩, ⟨[], 0⟩], 9, -1, false⟩
def S1 : DS := ⟨[⟨[97, 98, 99], 0⟩, ⟨[], 0⟩], 6, -1, false⟩
def S2 : DS := ⟨[⟨[97, 98, 99], 3⟩, ⟨[], 0⟩], 6, -1, false⟩
def S3 : DS := ⟨[⟨[97, 98, 99, 100, 101], 3⟩, ⟨[], 0⟩], 4, -1, false⟩
def S4 : DS := ⟨[⟨[97, 98, 99, 100, 101], 3⟩, ⟨[120], 0⟩], 3, -1, false⟩
def S5 : DS := ⟨[⟨[97, 98, 99, 100], 4⟩, ⟨[], 0⟩], 5, -1, false⟩
def S6 : DS := ⟨[⟨[97, 98, 99, 100], 4⟩, ⟨[], 0⟩], 5, 1, false⟩
def S7 : DS := ⟨[⟨[97, 98, 99, 100], 4⟩, ⟨[121], 0⟩], 4, 0, false⟩
def S8 : DS := ⟨[⟨[97, 98, 99, 100], 4⟩, ⟨[121], 0⟩], 4, 0, true⟩
theorem p1 : appR S0 0 [97, 98, 99] = (S1, 0) := by kernel_rfl
theorem p2 : syncR S1 0 = (S2, 0) := by kernel_rfl
theorem p3 : appR S2 0 [100, 101] = (S3, 0) := by kernel_rfl
theorem p4 : appR S3 1 [120] = (S4, 0) := by kernel_rfl
theorem p5 : S4.crash [1] = S5 := by kernel_rfl
theorem p6 : armR S5 1 = (S6, 0) := by kernel_rfl
theorem p7 : appR S6 1 [121] = (S7, 0) := by kernel_rfl
theorem p8 : syncR S7 1 = (S8, 9) := by kernel_rfl
theorem ok0 : S0.Ok 9 := ⟨by decide, by decide, by decide, by decide, by simp [S0], by decide, by decide⟩
theorem lv_new (w : World) : Calls Try.prog 10 #[.int .i64 2, .int .i64 9] w fun e w' => ∃ d, e = .returned (.tuple #[.pointer (some ⟨d, 0, none⟩), .int .i64 0]) ∧ Lv w w' d S0 :=
  (new_any (n := 2) (r := 9) (by omega) (by omega) (by omega) (by omega)).mono fun _ _ ⟨d, h1, h2, h3, h4⟩ => ⟨d, h1, h3, h4, by omega, ok0⟩
theorem lv_app {w0 w : World} {d : Nat} {s s' : DS} {i c : Int} {l : List UInt8} {B : Option Addr} {cb : Nat} (h : Lv w0 w d s) (hp : appR s i l = (s', c)) (hl : u8E.Row (fun b => b ≠ d) w (.slice B l.length cb) l) :
    Calls Try.prog 23 #[.pointer (some ⟨d, 0, none⟩), .int .i64 i, .slice B l.length cb] w fun e w' => e = .returned (.int .i64 c) ∧ Lv w0 w' d s' := by
  refine (append_all h.dk h.ok (by omega) i hl (fun b hb => hb)).mono fun e w' ⟨h1, h2, h3⟩ => ?_
  have hok := app_ok h.ok i l
  rw [hp] at h1 h2 hok
  exact ⟨h1, h.to h2 h3 hok⟩
theorem lv_sync {w0 w : World} {d : Nat} {s s' : DS} {i c : Int} (h : Lv w0 w d s) (hp : syncR s i = (s', c)) :
    Calls Try.prog 22 #[.pointer (some ⟨d, 0, none⟩), .int .i64 i] w fun e w' => e = .returned (.int .i64 c) ∧ Lv w0 w' d s' := by
  refine (sync_all h.dk h.ok (by omega) i).mono fun e w' ⟨h1, h2, h3⟩ => ?_
  have hok := sync_ok h.ok i
  rw [hp] at h1 h2 hok
  exact ⟨h1, h.to h2 h3 hok⟩
theorem lv_arm {w0 w : World} {d : Nat} {s s' : DS} {n c : Int} (h : Lv w0 w d s) (hp : armR s n = (s', c)) (hn : n ≤ 9223372036854775807) :
    Calls Try.prog 20 #[.pointer (some ⟨d, 0, none⟩), .int .i64 n] w fun e w' => e = .returned (.int .i64 c) ∧ Lv w0 w' d s' := by
  refine (arm_all h.dk h.ok n).mono fun e w' ⟨h1, h2, h3⟩ => ?_
  have hok := arm_ok h.ok hn
  rw [hp] at h1 h2 hok
  exact ⟨h1, h.to h2 h3 hok⟩
theorem lv_crash {w0 w : World} {d : Nat} {s s' : DS} {v : Value} {ks : List Int} (h : Lv w0 w d s) (hp : s.crash ks = s') (hk : intE.Row (fun b => b ≠ d) w v ks) :
    Calls Try.prog 17 #[.pointer (some ⟨d, 0, none⟩), v] w fun e w' => e = .returned (.int .i64 0) ∧ Lv w0 w' d s' := by
  refine (crash_any h.dk h.ok (by omega) hk (fun b hb => hb)).mono fun e w' ⟨h1, h2, h3⟩ => ?_
  have hok := crashS_ok h.ok ks
  rw [hp] at h2 hok
  exact ⟨h1, h.to (h2.mono (fun b hb _ => .inl hb)) (h3.mono (fun b _ hb => .inl hb)) hok⟩
theorem lv_read {w0 w : World} {d : Nat} {s : DS} {i n : Nat} {l : List UInt8} (h : Lv w0 w d s) (hi : i < s.fs.length) (hl : s.fs[i].b = l) (hn : l.length = n) :
    Calls Try.prog 15 #[.pointer (some ⟨d, 0, none⟩), .int .i64 i] w fun e w' => ∃ A c, e = .returned (.slice A n c) ∧ u8E.Row (fun _ => True) w' (.slice A n c) l ∧ Below w.heap.size w w' := by
  refine (read_any h.dk h.ok (by omega) i hi).mono fun e w' ⟨v, h1, h2, h3⟩ => ?_
  rw [hl] at h2
  obtain ⟨A, c, rfl, _, _⟩ := h2.form
  rw [hn] at h1 h2
  exact ⟨A, c, h1, h2.mono (fun _ _ _ => trivial), h3⟩
theorem lit_rowN {K : Nat → Prop} {w : World} {b : Nat} {fr : Nat × Nat} {cs : Array Value} {l : List UInt8} (hb : w.heap[b]? = some (.cells cs 5 fr)) (hcs : cs = (l.map fun b => Value.int .u8 (b.toNat : Int)).toArray) (hl : l.length ≤ 100) (hk : K b) : u8E.Row K w (.slice (some ⟨b, 0, none⟩) l.length l.length) l := by
  refine ⟨_, l.length, rfl, Nat.le_refl _, by unfold maxLen; omega, fun _ => ⟨b, 0, rfl, hk, (Array.getElem?_eq_some_iff.1 hb).1, fun i hi => ⟨[_], rfl, fun j u hj => ?_⟩⟩⟩
  obtain rfl : j = 0 := by have := (List.getElem?_eq_some_iff.1 hj).1; simp at this; omega
  simp at hj
  rw [cell_blk hb, hcs]
  simp [u8E_sz, hi, hj]

set_option maxRecDepth 8000 in
set_option maxHeartbeats 4000000 in
theorem lives_any (w : World) : Calls Try.prog 9 #[] w fun e w' => e = .returned (.bool true) ∧ Below w.heap.size w w' := by
  have x1 : bs [97, 98, 99, 100] = ⟨#[97, 98, 99, 100]⟩ := rfl
  have x2 : S5.room = 5 := rfl
  have x3 : S8.down = true := rfl
  go_enter Try.func9, Try.ntmps9
  go_wp2_with (first | (go_at_call 10; refine (lv_new _).mono ?_; rintro e w1 ⟨d, rfl, hq⟩; have HD := hid hq; have hdl := hq.dk.lt; clear hq) | (rw [Joins.run_convert_bytes_const_at (ht := Try.underlying33) (he := Try.underlying5)]; rotate_left; (first | rfl | simp only [more_size, World.size_alloc, World.size_drew])))
  go_wp2_with (first | (go_at_call 23; refine (lv_app (s := S0) (l := [97, 98, 99]) (cb := 3) (HD.out.below (by repeat (first | (with_reducible exact Below.refl _ _) | (with_reducible exact bl_mm) | (with_reducible refine bl_dr ?_) | (with_reducible refine bl_drN ?_ _) | (with_reducible refine bl_al ?_ _) | (with_reducible refine bl_more ?_ _ _)))) p1 (lit_rowN (alloc_blk (by first | rfl | (simp only [more_size, World.size_alloc]; done))) (by rfl) (by decide) (Nat.ne_of_gt (by first | omega | (simp only [more_size, World.size_alloc]; omega))))).mono ?_; rintro e w2 ⟨rfl, hq⟩; clear HD hdl; have HD := hid hq; have hdl := hq.dk.lt; clear hq))
  go_wp2_with (first | (go_at_call 22; refine (lv_sync (s := S1) (HD.out.below (by repeat (first | (with_reducible exact Below.refl _ _) | (with_reducible exact bl_mm) | (with_reducible refine bl_dr ?_) | (with_reducible refine bl_drN ?_ _) | (with_reducible refine bl_al ?_ _) | (with_reducible refine bl_more ?_ _ _)))) p2).mono ?_; rintro e w2 ⟨rfl, hq⟩; clear HD hdl; have HD := hid hq; have hdl := hq.dk.lt; clear hq) | (rw [Joins.run_convert_bytes_const_at (ht := Try.underlying33) (he := Try.underlying5)]; rotate_left; (first | rfl | simp only [more_size, World.size_alloc, World.size_drew])))
  go_wp2_with (first | (go_at_call 23; refine (lv_app (s := S2) (l := [100, 101]) (cb := 2) (HD.out.below (by repeat (first | (with_reducible exact Below.refl _ _) | (with_reducible exact bl_mm) | (with_reducible refine bl_dr ?_) | (with_reducible refine bl_drN ?_ _) | (with_reducible refine bl_al ?_ _) | (with_reducible refine bl_more ?_ _ _)))) p3 (lit_rowN (alloc_blk (by first | rfl | (simp only [more_size, World.size_alloc]; done))) (by rfl) (by decide) (Nat.ne_of_gt (by first | omega | (simp only [more_size, World.size_alloc]; omega))))).mono ?_; rintro e w2 ⟨rfl, hq⟩; clear HD hdl; have HD := hid hq; have hdl := hq.dk.lt; clear hq))
  go_wp2_with (first | (rw [Joins.run_convert_bytes_const_at (ht := Try.underlying33) (he := Try.underlying5)]; rotate_left; (first | rfl | simp only [more_size, World.size_alloc, World.size_drew])))
  go_wp2_with (first | (go_at_call 23; refine (lv_app (s := S3) (l := [120]) (cb := 1) (HD.out.below (by repeat (first | (with_reducible exact Below.refl _ _) | (with_reducible exact bl_mm) | (with_reducible refine bl_dr ?_) | (with_reducible refine bl_drN ?_ _) | (with_reducible refine bl_al ?_ _) | (with_reducible refine bl_more ?_ _ _)))) p4 (lit_rowN (alloc_blk (by first | rfl | (simp only [more_size, World.size_alloc]; done))) (by rfl) (by decide) (Nat.ne_of_gt (by first | omega | (simp only [more_size, World.size_alloc]; omega))))).mono ?_; rintro e w2 ⟨rfl, hq⟩; clear HD hdl; have HD := hid hq; have hdl := hq.dk.lt; clear hq))
  go_wp2_with (first | (go_at_call 17; refine (lv_crash (s := S4) (ks := [1]) (HD.out.below (by repeat (first | (with_reducible exact Below.refl _ _) | (with_reducible exact bl_mm) | (with_reducible refine bl_dr ?_) | (with_reducible refine bl_drN ?_ _) | (with_reducible refine bl_al ?_ _) | (with_reducible refine bl_more ?_ _ _)))) p5 (Enc.Row.one_blk (cs := [.int .i64 1]) (alloc_blk (by first | rfl | (simp only [more_size, World.size_alloc]; done))) rfl (Nat.ne_of_gt (by first | omega | (simp only [more_size, World.size_alloc]; omega))))).mono ?_; rintro e w2 ⟨rfl, hq⟩; clear HD hdl; have HD := hid hq; have hdl := hq.dk.lt; clear hq))
  go_wp2_with (first | (go_at_call 15; refine (lv_read (s := S5) (i := 0) (n := 4) (l := [97, 98, 99, 100]) (HD.out.below (by repeat (first | (with_reducible exact Below.refl _ _) | (with_reducible exact bl_mm) | (with_reducible refine bl_dr ?_) | (with_reducible refine bl_drN ?_ _) | (with_reducible refine bl_al ?_ _) | (with_reducible refine bl_more ?_ _ _)))) (by decide) rfl rfl).mono ?_; rintro e w2 ⟨A1, c1, rfl, hr, hb1⟩; obtain ⟨ex, dx, rfl⟩ := more_of hb1; have HR := hid hr; clear hr hb1))
  go_wp2_with (first | (rw [str_run (HR.out.below (by repeat (first | (with_reducible exact Below.refl _ _) | (with_reducible exact bl_mm) | (with_reducible refine bl_dr ?_) | (with_reducible refine bl_drN ?_ _) | (with_reducible refine bl_al ?_ _) | (with_reducible refine bl_more ?_ _ _))))]))
  go_wp2_with (first | (go_at_call 15; refine (lv_read (s := S5) (i := 1) (n := 0) (l := []) (HD.out.below (by repeat (first | (with_reducible exact Below.refl _ _) | (with_reducible exact bl_mm) | (with_reducible refine bl_dr ?_) | (with_reducible refine bl_drN ?_ _) | (with_reducible refine bl_al ?_ _) | (with_reducible refine bl_more ?_ _ _)))) (by decide) rfl rfl).mono ?_; rintro e w2 ⟨A2, c2, rfl, hr, hb1⟩; obtain ⟨ex, dx, rfl⟩ := more_of hb1; clear hr hb1))
  go_wp2_with (first | (go_at_call 19; refine (room_any (s := S5) (HD.out.below (by repeat (first | (with_reducible exact Below.refl _ _) | (with_reducible exact bl_mm) | (with_reducible refine bl_dr ?_) | (with_reducible refine bl_drN ?_ _) | (with_reducible refine bl_al ?_ _) | (with_reducible refine bl_more ?_ _ _)))).dk (by decide)).mono ?_; rintro e w1 ⟨rfl, hb1⟩; obtain ⟨ex2, dx2, rfl⟩ := more_of hb1; clear hb1))
  go_wp2_with (first | (go_at_call 20; refine (lv_arm (s := S5) (HD.out.below (by repeat (first | (with_reducible exact Below.refl _ _) | (with_reducible exact bl_mm) | (with_reducible refine bl_dr ?_) | (with_reducible refine bl_drN ?_ _) | (with_reducible refine bl_al ?_ _) | (with_reducible refine bl_more ?_ _ _)))) p6 (by omega)).mono ?_; rintro e w2 ⟨rfl, hq⟩; clear HD hdl; have HD := hid hq; have hdl := hq.dk.lt; clear hq) | (rw [Joins.run_convert_bytes_const_at (ht := Try.underlying33) (he := Try.underlying5)]; rotate_left; (first | rfl | simp only [more_size, World.size_alloc, World.size_drew])))
  go_wp2_with (first | (go_at_call 23; refine (lv_app (s := S6) (l := [121]) (cb := 1) (HD.out.below (by repeat (first | (with_reducible exact Below.refl _ _) | (with_reducible exact bl_mm) | (with_reducible refine bl_dr ?_) | (with_reducible refine bl_drN ?_ _) | (with_reducible refine bl_al ?_ _) | (with_reducible refine bl_more ?_ _ _)))) p7 (lit_rowN (alloc_blk (by first | rfl | (simp only [more_size, World.size_alloc]; done))) (by rfl) (by decide) (Nat.ne_of_gt (by first | omega | (simp only [more_size, World.size_alloc]; omega))))).mono ?_; rintro e w2 ⟨rfl, hq⟩; clear HD hdl; have HD := hid hq; have hdl := hq.dk.lt; clear hq))
  go_wp2_with (first | (go_at_call 22; refine (lv_sync (s := S7) (HD.out.below (by repeat (first | (with_reducible exact Below.refl _ _) | (with_reducible exact bl_mm) | (with_reducible refine bl_dr ?_) | (with_reducible refine bl_drN ?_ _) | (with_reducible refine bl_al ?_ _) | (with_reducible refine bl_more ?_ _ _)))) p8).mono ?_; rintro e w2 ⟨rfl, hq⟩; clear HD hdl; have HD := hid hq; have hdl := hq.dk.lt; clear hq))
  go_wp2_with (first | (go_at_call 18; refine (down_any (s := S8) (HD.out.below (by repeat (first | (with_reducible exact Below.refl _ _) | (with_reducible exact bl_mm) | (with_reducible refine bl_dr ?_) | (with_reducible refine bl_drN ?_ _) | (with_reducible refine bl_al ?_ _) | (with_reducible refine bl_more ?_ _ _)))).dk (by decide)).mono ?_; rintro e w1 ⟨rfl, hb1⟩; obtain ⟨ex2, dx2, rfl⟩ := more_of hb1; clear hb1))
  go_ret
  exact ⟨rfl, (HD.out.below (by repeat (first | (with_reducible exact Below.refl _ _) | (with_reducible exact bl_mm) | (with_reducible refine bl_dr ?_) | (with_reducible refine bl_drN ?_ _) | (with_reducible refine bl_al ?_ _) | (with_reducible refine bl_more ?_ _ _)))).bw⟩
end Go.Proofs.Ytnobbehoojgfcaa
