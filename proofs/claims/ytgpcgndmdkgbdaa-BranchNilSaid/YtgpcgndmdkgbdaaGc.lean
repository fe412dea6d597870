/- Events put. -/
import Derived.Test.YtgpcgndmdkgbdaaGb
import Derived.Deep.QuietTactic
import Derived.BigQuiet
import Derived.Deep.Cut
import Derived.Test.YtgpcgndmdkgbdaaGa
/- Events put. -/
namespace Go.Proofs.Ytgpcgndmdkgbdaa
open Go.RowKit

/-- An event's bytes. -/
def bytesE (k i t : Int) (st : List Int) : List Int := [k] ++ oneL i.toNat ++ (if k ≤ 3 then [] else oneL t.toNat) ++ putsL st
theorem cell_blk {w : World} {b : Nat} {cs : Array Value} {t : TypeId} {fr : Nat × Nat} (h : w.heap[b]? = some (.cells cs t fr)) (i : Nat) : w.cell? ⟨b, i, none⟩ = cs[i]? := by simp [World.cell?, h]
theorem mk_one {w : World} {b : Nat} {x : Int} (h : w.heap[b]? = some (.cells #[.int .u8 x] 5 (0, 0))) : Mk byteE 5 w.heap.size w w b (.slice (some ⟨b, 0, none⟩) 1 1) [x] := by
  refine Mk.start ?_ rfl
  refine Enc.Spine.of_at (cur := #[.int .u8 x]) (off := 0) (c := 1) (xs := [x]) h (Nat.le_refl _) (Nat.le_refl _) (by decide) ?_
  intro i hi
  have : i = 0 := by simpa using hi
  subst this
  refine ⟨[.int .u8 x], rfl, fun j u hj => ?_⟩
  have : j = 0 := by
    have := (List.getElem?_eq_some_iff.1 hj).1
    simpa using this
  subst this
  rw [cell_blk h]
  exact hj
theorem Mk.back {α : Type} {d : Enc α} {E : TypeId} {M : Nat} {w0 W w' : World} {g : Nat} {v : Value} {xs : List α} (h : Mk d E M W w' g v xs) (hb : Below w0.heap.size w0 W) (hM : w0.heap.size ≤ M) : Mk d E w0.heap.size w0 w' g v xs :=
  ⟨h.sp, h.own.imp id (fun h => Nat.le_trans hM h), Nat.le_trans hM h.size, hb.trans (h.low.mono hM)⟩
set_option maxRecDepth 10000 in
set_option maxHeartbeats 4000000 in
theorem ebytes_any {w : World} {k i t : Int} {v : Value} {st : List Int} {K : Nat → Prop} (h : intE.Row K w v st) (hK : ∀ b, K b → b < w.heap.size) (hr : rightE k i t st = true) : Calls Try.prog 41 #[evV k i t v] w fun e w' => Put2R w.heap.size w (bytesE k i t st) e w' := by
  obtain ⟨A, c, rfl, _, _⟩ := h.form
  have hs : rightS st = true := by unfold rightE at hr; rw [Bool.and_eq_true] at hr; exact hr.2
  have hri : rightI k i t = true := by unfold rightE at hr; rw [Bool.and_eq_true] at hr; exact hr.1
  have hsl := (rightS_parts hs).2.1
  have HR := hid h
  have HKK := hid hK
  have HS := hid hs
  have HLL : Hid (st.length ≤ 4000000000) := hid (by omega)
  have HCK : Hid ((if rightE k i t st = true then (0 : Int) else 2) = 0) := hid (by rw [hr]; rfl)
  rcases of_cases k i t with ⟨_, hk3, hk1, hi0, hi1, ht, hv⟩ | ⟨_, hk3, hk6, hi0, hi1, ht0, ht3, hv⟩ | ⟨hno, hv⟩
  · have HV := hid hv
    obtain ⟨n, rfl⟩ : ∃ n : Nat, i = (n : Int) := ⟨i.toNat, by omega⟩
    have hkm : k % 256 = k := by omega
    have HB : Hid (bytesE k (n : Int) t st = [k] ++ oneL n ++ putsL st) := hid (by unfold bytesE; rw [if_pos hk3, Int.toNat_natCast, List.append_nil])
    have HN : Hid (n ≤ 1099511627776) := hid (by omega)
    have h9 := oneL_9 (n := n) (by omega)
    have HL1 : Hid ([k].length ≤ 4000000000) := hid (by simp)
    have HL3 : Hid (([k] ++ oneL n).length ≤ 1000000000) := hid (by simp; omega)
    have Mput := hid trivial
    clear h hK hr hs hri hsl hv hk3 hk1 hi0 hi1 ht h9
    go_enter Try.func41, Try.ntmps41
    go_wp2_with (first | (go_at_call 70; refine (echeck_any (K := K) (HR.out.below (by repeat (first | (with_reducible exact Below.refl _ _) | (with_reducible exact bl_mm) | (with_reducible refine bl_dr ?_) | (with_reducible refine bl_drN ?_ _) | (with_reducible refine bl_al ?_ _) | (with_reducible refine bl_more ?_ _ _)))) HLL.out).mono ?_; rintro e w1 ⟨rfl, hb1⟩; rw [HCK.out]; obtain ⟨ex1, dx1, rfl⟩ := more_of hb1; clear hb1) | (go_at_call 71; refine (of_any ⟨_, _, _, rfl⟩).mono ?_; rintro e w2 ⟨rfl, hb2⟩; rw [HV.out]; obtain ⟨ex2, dx2, rfl⟩ := more_of hb2; clear hb2) | (go_at_call 72; clear Mput; have hbk := ((show Below ((more (w.alloc (Obj.cells #[.int .i64 k, .int .i64 (n : Int), .int .i64 t, .slice A st.length c] 52)) ex1 dx1).alloc (Obj.cells #[.int .u8 k] 5)).heap.size ((more (w.alloc (Obj.cells #[.int .i64 k, .int .i64 (n : Int), .int .i64 t, .slice A st.length c] 52)) ex1 dx1).alloc (Obj.cells #[.int .u8 k] 5)) ((more ((more (w.alloc (Obj.cells #[.int .i64 k, .int .i64 (n : Int), .int .i64 t, .slice A st.length c] 52)) ex1 dx1).alloc (Obj.cells #[.int .u8 k] 5)) ex2 dx2).alloc (Obj.cells #[.int .i64 (n : Int)] 125)) from (by repeat (first | (with_reducible exact Below.refl _ _) | (with_reducible exact bl_mm) | (with_reducible refine bl_dr ?_) | (with_reducible refine bl_drN ?_ _) | (with_reducible refine bl_al ?_ _) | (with_reducible refine bl_more ?_ _ _)))).block (w.heap.size + 1 + ex1.size) (by simp [more_size])).trans (alloc_blk (by simp [more_size])); refine (wput_any (mk_one hbk) HN.out HL1.out).mono ?_; rintro e w3 ⟨v3, g3, rfl, ho3⟩; have HO3 := hid ho3; obtain ⟨ex3, dx3, rfl⟩ := more_of ho3.low; clear ho3 hbk) | (go_at_call 73; refine (sbytes_any (K := K) HO3.out (HR.out.below (by repeat (first | (with_reducible exact Below.refl _ _) | (with_reducible exact bl_mm) | (with_reducible refine bl_dr ?_) | (with_reducible refine bl_drN ?_ _) | (with_reducible refine bl_al ?_ _) | (with_reducible refine bl_more ?_ _ _)))) (fun b hb => Nat.lt_of_lt_of_le (HKK.out b hb) (by simp [more_size]; omega)) HS.out HL3.out).mono ?_; rintro e w4 ⟨v4, g4, rfl, ho4⟩; have HO4 := hid ho4; clear ho4))
    go_ret2
    refine ⟨v4, g4, rfl, ?_⟩
    rw [HB.out]
    exact HO4.out.back (by repeat (first | (with_reducible exact Below.refl _ _) | (with_reducible exact bl_mm) | (with_reducible refine bl_dr ?_) | (with_reducible refine bl_drN ?_ _) | (with_reducible refine bl_al ?_ _) | (with_reducible refine bl_more ?_ _ _))) (by simp [more_size]; omega)
  · have HV := hid hv
    obtain ⟨n, rfl⟩ : ∃ n : Nat, i = (n : Int) := ⟨i.toNat, by omega⟩
    obtain ⟨m, rfl⟩ : ∃ m : Nat, t = (m : Int) := ⟨t.toNat, by omega⟩
    have hkm : k % 256 = k := by omega
    have HB : Hid (bytesE k (n : Int) (m : Int) st = [k] ++ oneL n ++ oneL m ++ putsL st) := hid (by unfold bytesE; rw [if_neg (by omega), Int.toNat_natCast, Int.toNat_natCast])
    have HN : Hid (n ≤ 1099511627776) := hid (by omega)
    have HM : Hid (m ≤ 1099511627776) := hid (by omega)
    have h9 := oneL_9 (n := n) (by omega)
    have h8 := oneL_9 (n := m) (by omega)
    have HL1 : Hid ([k].length ≤ 4000000000) := hid (by simp)
    have HL2 : Hid (([k] ++ oneL n).length ≤ 4000000000) := hid (by simp; omega)
    have HL3 : Hid (([k] ++ oneL n ++ oneL m).length ≤ 1000000000) := hid (by simp; omega)
    have Mput := hid trivial
    clear h hK hr hs hri hsl hv hk3 hk6 hi0 hi1 ht0 ht3 h9 h8
    go_enter Try.func41, Try.ntmps41
    go_wp2_with (first | (go_at_call 70; refine (echeck_any (K := K) (HR.out.below (by repeat (first | (with_reducible exact Below.refl _ _) | (with_reducible exact bl_mm) | (with_reducible refine bl_dr ?_) | (with_reducible refine bl_drN ?_ _) | (with_reducible refine bl_al ?_ _) | (with_reducible refine bl_more ?_ _ _)))) HLL.out).mono ?_; rintro e w1 ⟨rfl, hb1⟩; rw [HCK.out]; obtain ⟨ex1, dx1, rfl⟩ := more_of hb1; clear hb1) | (go_at_call 71; refine (of_any ⟨_, _, _, rfl⟩).mono ?_; rintro e w2 ⟨rfl, hb2⟩; rw [HV.out]; obtain ⟨ex2, dx2, rfl⟩ := more_of hb2; clear hb2) | (go_at_call 72; clear Mput; have hbk := ((show Below ((more (w.alloc (Obj.cells #[.int .i64 k, .int .i64 (n : Int), .int .i64 (m : Int), .slice A st.length c] 52)) ex1 dx1).alloc (Obj.cells #[.int .u8 k] 5)).heap.size ((more (w.alloc (Obj.cells #[.int .i64 k, .int .i64 (n : Int), .int .i64 (m : Int), .slice A st.length c] 52)) ex1 dx1).alloc (Obj.cells #[.int .u8 k] 5)) ((more ((more (w.alloc (Obj.cells #[.int .i64 k, .int .i64 (n : Int), .int .i64 (m : Int), .slice A st.length c] 52)) ex1 dx1).alloc (Obj.cells #[.int .u8 k] 5)) ex2 dx2).alloc (Obj.cells #[.int .i64 (n : Int), .int .i64 (m : Int)] 128)) from (by repeat (first | (with_reducible exact Below.refl _ _) | (with_reducible exact bl_mm) | (with_reducible refine bl_dr ?_) | (with_reducible refine bl_drN ?_ _) | (with_reducible refine bl_al ?_ _) | (with_reducible refine bl_more ?_ _ _)))).block (w.heap.size + 1 + ex1.size) (by simp [more_size])).trans (alloc_blk (by simp [more_size])); refine (wput_any (mk_one hbk) HN.out HL1.out).mono ?_; rintro e w3 ⟨v3, g3, rfl, ho3⟩; have HO3 := hid ho3; obtain ⟨ex3, dx3, rfl⟩ := more_of ho3.low; clear ho3 hbk) | (go_at_call 72; refine (wput_any (HO3.out.below (by repeat (first | (with_reducible exact Below.refl _ _) | (with_reducible exact bl_mm) | (with_reducible refine bl_dr ?_) | (with_reducible refine bl_drN ?_ _) | (with_reducible refine bl_al ?_ _) | (with_reducible refine bl_more ?_ _ _)))) HM.out HL2.out).mono ?_; rintro e w5 ⟨v5, g5, rfl, ho5⟩; have HO5 := hid ho5; obtain ⟨ex5, dx5, rfl⟩ := more_of ho5.low; clear ho5) | (go_at_call 73; refine (sbytes_any (K := K) HO5.out (HR.out.below (by repeat (first | (with_reducible exact Below.refl _ _) | (with_reducible exact bl_mm) | (with_reducible refine bl_dr ?_) | (with_reducible refine bl_drN ?_ _) | (with_reducible refine bl_al ?_ _) | (with_reducible refine bl_more ?_ _ _)))) (fun b hb => Nat.lt_of_lt_of_le (HKK.out b hb) (by simp [more_size]; omega)) HS.out HL3.out).mono ?_; rintro e w4 ⟨v4, g4, rfl, ho4⟩; have HO4 := hid ho4; clear ho4))
    go_ret2
    refine ⟨v4, g4, rfl, ?_⟩
    rw [HB.out]
    exact HO4.out.back (by repeat (first | (with_reducible exact Below.refl _ _) | (with_reducible exact bl_mm) | (with_reducible refine bl_dr ?_) | (with_reducible refine bl_drN ?_ _) | (with_reducible refine bl_al ?_ _) | (with_reducible refine bl_more ?_ _ _))) (by simp [more_size]; omega)
  · rw [hno] at hri; cases hri
end Go.Proofs.Ytgpcgndmdkgbdaa

/- Bytes' sum. -/
namespace Go.Proofs.Ytgpcgndmdkgbdaa
open Go.RowKit

def rnd (r : Nat) : Nat := if r % 2 = 1 then (r / 2) ^^^ 2197175160 else r / 2
def rnds : Nat → Nat → Nat
  | 0, r => r
  | k + 1, r => rnds k (rnd r)
def sumF : List Int → Nat → Nat
  | [], r => r
  | c :: l, r => sumF l (rnds 8 (r ^^^ c.toNat))
def sumW (bs : List Int) : Nat := sumF bs 4294967295 ^^^ 4294967295
theorem xor_lt {a b : Nat} (ha : a < 4294967296) (hb : b < 4294967296) : a ^^^ b < 4294967296 := Nat.xor_lt_two_pow (n := 32) ha hb
theorem rnd_lt {r : Nat} (h : r < 4294967296) : rnd r < 4294967296 := by
  unfold rnd
  split
  · exact xor_lt (by omega) (by decide)
  · omega
theorem rnds_lt (k : Nat) : ∀ r, r < 4294967296 → rnds k r < 4294967296 := by
  induction k with
  | zero => exact fun r h => h
  | succ k ih => exact fun r h => ih _ (rnd_lt h)
theorem and1 (r : Nat) (h : r < 4294967296) : bits .and .u32 (r : Int) 1 = ((r % 2 : Nat) : Int) := by
  have e := bits_and_nat .u32 r 1 (by show r < 4294967296; omega) (by decide)
  rw [Nat.and_one_is_mod, wrap_u32 _ (by omega)] at e
  exact e
theorem xor32 (a b : Nat) (ha : a < 4294967296) (hb : b < 4294967296) : bits .xor .u32 (a : Int) (b : Int) = ((a ^^^ b : Nat) : Int) := by
  have e := bits_xor_nat .u32 a b (by show a < 4294967296; omega) (by show b < 4294967296; omega)
  rw [wrap_u32 _ (xor_lt ha hb)] at e
  exact e
set_option maxHeartbeats 4000000 in
theorem sum_any {w : World} {v : Value} {bs : List Int} {K : Nat → Prop} (h : byteE.Row K w v bs) (hbs : ∀ b ∈ bs, 0 ≤ b ∧ b < 256) (hl : bs.length ≤ 4000000000) : Calls Try.prog 74 #[v] w fun e w' => e = .returned (.int .u32 (sumW bs)) ∧ w = w' := by
  obtain ⟨A, c, rfl, _, _⟩ := h.form
  have HR := hid h
  have HBS := hid hbs
  have hlx : (bs.length : Int) ≤ 4000000000 := by omega
  clear h hbs hl
  go_enter Try.func74, Try.ntmps74
  go_wp2
  go_loopg [3, 8] bs.length (fun k vr vi wr => ∃ (j r : Nat), j + k = bs.length ∧ vi = .int .i64 (j : Int) ∧ vr = .int .u32 (r : Int) ∧ r < 4294967296 ∧ sumF bs 4294967295 = sumF (bs.drop j) r ∧ w = wr)
  case atStart => exact ⟨0, 4294967295, by omega, rfl, rfl, by decide, rfl, rfl⟩
  case round =>
    obtain ⟨j, r, hk, rfl, rfl, hr, hs, rfl⟩ := hrel
    have HK := hid hk
    have HS := hid hs
    by_cases hj : j < bs.length
    · obtain ⟨b, o, rfl, _, hlt, hcell⟩ := row_byte HR.out j hj
      have hcb := HBS.out _ (List.getElem_mem hj)
      have HD := hid (List.drop_eq_getElem_cons hj)
      obtain ⟨c2, hc2⟩ : ∃ c2 : Nat, (bs[j]'hj) = (c2 : Int) := ⟨(bs[j]'hj).toNat, by omega⟩
      rw [hc2] at hcell hcb HD
      have hj0 : (0 : Int) ≤ j := by omega
      have hjx : (j : Int) < bs.length := by omega
      have HJ := hid (And.intro hj trivial)
      have hx := xor32 r c2 hr (by omega)
      have hc4 : (c2 : Int) % 4294967296 = (c2 : Int) := by omega
      have hcz : (0 : Int) ≤ c2 := by omega
      have hcl : (c2 : Int) < 256 := by omega
      obtain ⟨r0, hr0⟩ : ∃ r0, r ^^^ c2 = r0 := ⟨_, rfl⟩
      have hr0l : r0 < 4294967296 := by rw [← hr0]; exact xor_lt hr (by omega)
      rw [hr0] at hx
      have HN : Hid (sumF bs 4294967295 = sumF (bs.drop (j + 1)) (rnds 8 r0)) := hid (by rw [hs, HD.out, sumF, Int.toNat_natCast, hr0])
      have HR0 := hid hr0l
      clear hk hr hs hj hcb hc2 hr0 hr0l
      go_wp2
      go_loopg [3, 16] 8 (fun k2 vr vi wr => ∃ (i r1 : Nat), i + k2 = 8 ∧ vi = .int .i64 (i : Int) ∧ vr = .int .u32 (r1 : Int) ∧ r1 < 4294967296 ∧ rnds 8 r0 = rnds k2 r1 ∧ w = wr)
      case atStart => exact ⟨0, r0, rfl, rfl, rfl, HR0.out, rfl, rfl⟩
      case round =>
        obtain ⟨i, r1, hk2, rfl, rfl, hr1, hs1, rfl⟩ := hrel
        have HK2 := hid hk2
        have hi8 : (i : Int) ≤ 8 := by omega
        by_cases hi : i < 8
        · obtain ⟨k3, hk3⟩ : ∃ k3, gk = k3 + 1 := ⟨gk - 1, by omega⟩
          have hil : (i : Int) < 8 := by omega
          have hi0 : (0 : Int) ≤ i := by omega
          obtain ⟨q, hq⟩ : ∃ q, r1 / 2 = q := ⟨_, rfl⟩
          have hql : q < 4294967296 := by omega
          have hsh : (r1 : Int) / 2 = (q : Int) := by rw [← hq]; rfl
          have ha := and1 r1 hr1
          have HRL := hid (rnd_lt hr1)
          have HN : Hid (rnds 8 r0 = rnds k3 (rnd r1)) := hid (by rw [hs1, hk3]; rfl)
          have HK3 := hid hk3
          have hcs : r1 % 2 = 0 ∨ r1 % 2 = 1 := by omega
          rcases hcs with hp | hp
          · have HE : Hid (rnd r1 = q) := hid (by unfold rnd; rw [if_neg (by omega), hq])
            have ha0 : bits .and .u32 2197175160 0 = 0 := by decide
            have hx0 : bits .xor .u32 (q : Int) 0 = (q : Int) := by have := xor32 q 0 hql (by decide); rw [Nat.xor_zero] at this; exact this
            rw [hp] at ha
            have ha : bits .and .u32 (r1 : Int) 1 = 0 := ha
            clear hk2 hr1 hs1 hi hk3 hq hql hp
            go_wp2
            go_roundg k3
            case measure => have := HK3.out; omega
            case rel => exact ⟨i + 1, q, by have := HK2.out; have := HK3.out; omega, by push_cast; rfl, rfl, by rw [← HE.out]; exact HRL.out, by rw [HN.out, HE.out], rfl⟩
          · have HE : Hid (rnd r1 = q ^^^ 2197175160) := hid (by unfold rnd; rw [if_pos hp, hq])
            have ha1 : bits .and .u32 2197175160 4294967295 = 2197175160 := by decide
            have hx1 : bits .xor .u32 (q : Int) 2197175160 = ((q ^^^ 2197175160 : Nat) : Int) := xor32 q 2197175160 hql (by decide)
            rw [hp] at ha
            have ha : bits .and .u32 (r1 : Int) 1 = 1 := ha
            obtain ⟨r2, hr2⟩ : ∃ r2, q ^^^ 2197175160 = r2 := ⟨_, rfl⟩
            rw [hr2] at hx1 HE
            clear hk2 hr1 hs1 hi hk3 hq hql hp hr2
            go_wp2
            go_roundg k3
            case measure => have := HK3.out; omega
            case rel => exact ⟨i + 1, r2, by have := HK2.out; have := HK3.out; omega, by push_cast; rfl, rfl, by rw [← HE.out]; exact HRL.out, by rw [HN.out, HE.out], rfl⟩
        · have hi8' : i = 8 := by omega
          have hk0 : gk = 0 := by omega
          have HE : Hid (rnds 8 r0 = r1) := hid (by rw [hs1, hk0]; rfl)
          have HRL := hid hr1
          subst hi8'
          clear hk2 hr1 hs1 hi hk0
          go_wp2
          go_roundg (bs.length - (j + 1))
          case measure => have := HK.out; have := HJ.out.1; omega
          case rel => exact ⟨j + 1, r1, by have := HJ.out.1; omega, by push_cast; rfl, rfl, HRL.out, by rw [HN.out, HE.out], rfl⟩
    · have hje : j = bs.length := by omega
      subst hje
      rw [List.drop_length] at hs
      have HE : Hid (sumW bs = r ^^^ 4294967295) := hid (by unfold sumW; rw [hs]; rfl)
      have hnl : ¬ (bs.length : Int) < bs.length := by omega
      have HCM : Hid (bits .xor .u32 IntKind.u32.max (r : Int) = ((r ^^^ 4294967295 : Nat) : Int)) := hid (by
        have h := xor32 4294967295 r (by decide) hr
        rw [Nat.xor_comm] at h
        exact h)
      clear hk hr hs hj
      go_wp2
      go_ret
      refine ⟨?_, rfl⟩
      rw [HE.out, ← HCM.out]
      rfl
end Go.Proofs.Ytgpcgndmdkgbdaa

/- A frame put. -/
namespace Go.Proofs.Ytgpcgndmdkgbdaa
open Go.RowKit

theorem Mk.grownR {α : Type} {d : Enc α} {E : TypeId} {N : Nat} {w0 w w2 : World} {g g2 : Nat} {v v2 : Value} {xs ys : List α} {K : Nat → Prop} (h : Mk d E N w0 w g v xs) (hg' : N ≤ g) (hs : d.Spine E K g2 w2 v2 (xs ++ ys)) (hK : ∀ b, ¬ K b) (he : Ext (fun b => b = g ∧ capOf v ≠ 0 ∧ xs.length + ys.length ≤ capOf v) w w2) (hg : Grew g w w2 v v2 g2) : Mk d E N w0 w2 g2 v2 (xs ++ ys) ∧ N ≤ g2 := by
  have h1 := h.size
  have h2 : N ≤ g2 := by rcases hg.two with e | e <;> omega
  exact ⟨⟨hs.step (fun _ hc => hc) (fun b hb _ => (hK b hb).elim), .inr h2, Nat.le_trans h.size he.size, h.low.trans (he.toBelow h.size (fun x hx e => by omega))⟩, h2⟩
theorem at_lit {w : World} {b : Nat} {l : List Int} {K : Nat → Prop} {t : TypeId} {fr : Nat × Nat} (h : w.heap[b]? = some (.cells (l.map (Value.int .u8)).toArray t fr)) : byteE.At K w b 0 l := by
  intro i hi
  refine ⟨[.int .u8 (l[i]'hi)], rfl, fun j u hj => ?_⟩
  have hj0 : j = 0 := by
    have := (List.getElem?_eq_some_iff.1 hj).1
    simpa using this
  subst hj0
  rw [cell_blk h, show byteE.sz = 1 from rfl]
  simpa [hi] using hj
theorem src_lit {w : World} {b : Nat} {l : List Int} {K : Nat → Prop} {t : TypeId} {fr : Nat × Nat} (h : w.heap[b]? = some (.cells (l.map (Value.int .u8)).toArray t fr)) (hl : l.length ≤ 1000) : byteE.Src K w (.slice (some ⟨b, 0, none⟩) l.length l.length) l :=
  ⟨_, _, rfl, Nat.le_refl _, by simp only [maxLen]; omega, fun _ => ⟨b, 0, rfl, at_lit h⟩⟩
theorem mk_lit {N : Nat} {w0 w : World} {b : Nat} {l : List Int} (h : w.heap[b]? = some (.cells (l.map (Value.int .u8)).toArray 5 (0, 0))) (hl : l.length ≤ 1000) (hb : N ≤ b) (hN : N ≤ w.heap.size) (hlow : Below N w0 w) : Mk byteE 5 N w0 w b (.slice (some ⟨b, 0, none⟩) l.length l.length) l :=
  ⟨Enc.Spine.of_at (cur := (l.map (Value.int .u8)).toArray) (off := 0) (c := l.length) (xs := l) h (by simp [show byteE.sz = 1 from rfl]) (Nat.le_refl _) (by simp only [maxLen]; omega) (at_lit h), .inr hb, hN, hlow⟩
theorem sumF_lt : ∀ (l : List Int) (r : Nat), (∀ b ∈ l, 0 ≤ b ∧ b < 256) → r < 4294967296 → sumF l r < 4294967296 := by
  intro l
  induction l with
  | nil => intro r _ h; exact h
  | cons c l ih =>
    intro r hb h
    have h1 := hb c (List.mem_cons_self ..)
    exact ih _ (fun b hb' => hb b (List.mem_cons_of_mem _ hb')) (rnds_lt 8 _ (xor_lt h (by omega)))
theorem sumW_lt {l : List Int} (h : ∀ b ∈ l, 0 ≤ b ∧ b < 256) : sumW l < 4294967296 := xor_lt (sumF_lt l _ h (by decide)) (by decide)
/-- What stands ahead of the sum. -/
def headL (body : List Int) : List Int := [((body.length / 256 : Nat) : Int), ((body.length % 256 : Nat) : Int)] ++ body
def tailL (s : Nat) : List Int := [((s % 256 : Nat) : Int), ((s / 256 % 256 : Nat) : Int), ((s / 65536 % 256 : Nat) : Int), ((s / 16777216 % 256 : Nat) : Int)]
/-- A body's frame. -/
def frameL (body : List Int) : List Int := headL body ++ tailL (sumW (headL body))
theorem headL_in {body : List Int} (h : ∀ b ∈ body, 0 ≤ b ∧ b < 256) (hl : body.length ≤ 1024) : ∀ b ∈ headL body, 0 ≤ b ∧ b < 256 := by
  intro b hb
  unfold headL at hb
  rcases List.mem_append.1 hb with h1 | h1
  · rcases List.mem_cons.1 h1 with rfl | h1
    · omega
    · rw [List.mem_singleton.1 h1]; omega
  · exact h b h1
def FPutR (N : Nat) (w0 : World) (xs : List Int) (e : Ending) (w' : World) : Prop := ∃ v' g', e = .returned (.tuple #[v', .int .i64 0]) ∧ Mk byteE 5 N w0 w' g' v' xs ∧ N ≤ g'
theorem Mk.grownF {α : Type} {d : Enc α} {E : TypeId} {N : Nat} {w0 w w2 : World} {g g2 : Nat} {v v2 : Value} {xs ys : List α} {K : Nat → Prop} (h : Mk d E N w0 w g v xs) (hf : capOf v = xs.length) (hy : 0 < ys.length) (hs : d.Spine E K g2 w2 v2 (xs ++ ys)) (hK : ∀ b, ¬ K b) (he : Ext (fun b => b = g ∧ capOf v ≠ 0 ∧ xs.length + ys.length ≤ capOf v) w w2) (hg : Grew g w w2 v v2 g2) : Mk d E N w0 w2 g2 v2 (xs ++ ys) ∧ N ≤ g2 := by
  refine ⟨h.grown hy hs hK he hg, ?_⟩
  have h1 := h.size
  have hcap : xs.length + ys.length ≤ capOf v2 := by
    obtain ⟨A, c, rfl, h2, _⟩ := hs
    rw [List.length_append] at h2
    exact h2
  rcases hg with ⟨_, _, e3⟩ | ⟨e1, _⟩
  · omega
  · omega
theorem Mk.ofFull {N : Nat} {w0 w : World} {g c : Nat} {A : Option Addr} {xs : List Int} (h : byteE.Spine 5 No g w (.slice A xs.length c) xs) (hN : N ≤ w.heap.size) (hlow : Below N w0 w) (hc : xs.length ≤ c) : Mk byteE 5 N w0 w g (.slice A xs.length xs.length) xs := by
  have := h.take xs.length xs.length (Nat.le_refl _) (Nat.le_refl _) hc
  rw [List.take_of_length_le (Nat.le_refl _)] at this
  exact ⟨this, .inl rfl, hN, hlow⟩
set_option maxHeartbeats 4000000 in
theorem fput_any {N : Nat} {w0 w : World} {v vb : Value} {g : Nat} {xs body : List Int} {K : Nat → Prop} (h : byteE.Spine 5 No g w v xs) (hN : N ≤ w.heap.size) (hlow : Below N w0 w) (hb : byteE.Row K w vb body) (hbs : ∀ b ∈ body, 0 ≤ b ∧ b < 256) (hl : body.length ≤ 1024) (hx : xs.length ≤ 1000000000) : Calls Try.prog 42 #[v, vb] w fun e w' => FPutR N w0 (xs ++ frameL body) e w' := by
  obtain ⟨A, c, rfl, hc1, _⟩ := h.form
  obtain ⟨B, cb, rfl, _, _⟩ := hb.form
  have HO := hid (Mk.ofFull h hN hlow hc1)
  have HB := hid hb
  have hl' : (body.length : Int) ≤ 1024 := by omega
  have hc2 : (xs.length : Int) ≤ (c : Int) := by omega
  obtain ⟨hi, hhi⟩ : ∃ hi, body.length / 256 = hi := ⟨_, rfl⟩
  obtain ⟨lo, hlo⟩ : ∃ lo, body.length % 256 = lo := ⟨_, rfl⟩
  have h1 : (body.length : Int) / 256 = (hi : Int) := by rw [← hhi]; rfl
  have h2 : (hi : Int) % 256 = (hi : Int) := by omega
  have h3 : (body.length : Int) % 256 = (lo : Int) := by rw [← hlo]; rfl
  have HHD : Hid ([(hi : Int), (lo : Int)] ++ body = headL body) := hid (by unfold headL; rw [hhi, hlo])
  have HHB := hid (headL_in hbs hl)
  have hsl := sumW_lt HHB.out
  obtain ⟨sm, hsm⟩ : ∃ sm, sumW (headL body) = sm := ⟨_, rfl⟩
  have HSM := hid hsm
  have HL2 : Hid ([(hi : Int), (lo : Int)].length + body.length ≤ 4294967296) := hid (by simp; omega)
  have HL3 : Hid (([(hi : Int), (lo : Int)] ++ body).length = body.length + 2) := hid (by simp)
  have HL4 : Hid ((headL body).length ≤ 4000000000) := hid (by unfold headL; simp; omega)
  rw [hsm] at hsl
  obtain ⟨s0, hs0⟩ : ∃ x, sm % 256 = x := ⟨_, rfl⟩
  obtain ⟨s1, hs1⟩ : ∃ x, sm / 256 % 256 = x := ⟨_, rfl⟩
  obtain ⟨s2, hs2⟩ : ∃ x, sm / 65536 % 256 = x := ⟨_, rfl⟩
  obtain ⟨s3, hs3⟩ : ∃ x, sm / 16777216 % 256 = x := ⟨_, rfl⟩
  have e0 : (sm : Int) % 256 = (s0 : Int) := by rw [← hs0]; rfl
  have e1 : (sm : Int) / 256 % 256 = (s1 : Int) := by rw [← hs1]; rfl
  have e2 : (sm : Int) / 65536 % 256 = (s2 : Int) := by rw [← hs2]; rfl
  have e3 : (sm : Int) / 16777216 % 256 = (s3 : Int) := by rw [← hs3]; rfl
  have HTL : Hid (tailL sm = [(s0 : Int), (s1 : Int), (s2 : Int), (s3 : Int)]) := hid (by unfold tailL; rw [hs0, hs1, hs2, hs3])
  have HLX := hid hx
  have HL5 : Hid ((headL body).length + [(s0 : Int), (s1 : Int), (s2 : Int), (s3 : Int)].length ≤ 4294967296) := hid (by unfold headL; simp <;> omega)
  have HL6 : Hid ((headL body ++ [(s0 : Int), (s1 : Int), (s2 : Int), (s3 : Int)]).length = body.length + 6) := hid (by unfold headL; simp <;> omega)
  have HFR : Hid (headL body ++ [(s0 : Int), (s1 : Int), (s2 : Int), (s3 : Int)] = frameL body) := hid (by unfold frameL; rw [hsm, HTL.out])
  have HFL : Hid (0 < (frameL body).length) := hid (by rw [← HFR.out, HL6.out]; omega)
  have HL7 : Hid (xs.length + (frameL body).length ≤ 4294967296) := hid (by rw [← HFR.out, HL6.out]; omega)
  have Mapp1 := hid trivial
  have Mapp2 := hid trivial
  clear h hN hlow hb hbs hl hx hc1 hhi hlo hsl hsm hs0 hs1 hs2 hs3
  go_enter Try.func42, Try.ntmps42
  go_wp2_with (first | (at_builtin; clear Mapp1; have hm1 := mk_lit (N := w.heap.size) (w0 := w) (w := w.alloc (Obj.cells #[.int .u8 (hi : Int), .int .u8 (lo : Int)] 5)) (b := w.heap.size) (l := [(hi : Int), (lo : Int)]) (alloc_blk rfl) (by simp) (Nat.le_refl _) (by simp) (by repeat (first | (with_reducible exact Below.refl _ _) | (with_reducible exact bl_mm) | (with_reducible refine bl_dr ?_) | (with_reducible refine bl_drN ?_ _) | (with_reducible refine bl_al ?_ _) | (with_reducible refine bl_more ?_ _ _))); refine wpList_app30 (ys := body) (by rfl) (.tmp 18) (.tmp 19) (by rfl) (by rfl) (by rfl) (by rfl) hm1.sp (HB.out.below (by repeat (first | (with_reducible exact Below.refl _ _) | (with_reducible exact bl_mm) | (with_reducible refine bl_dr ?_) | (with_reducible refine bl_drN ?_ _) | (with_reducible refine bl_al ?_ _) | (with_reducible refine bl_more ?_ _ _)))).src (fun _ h _ => h.elim) HL2.out ?_; intro v2 w2 g2 hs2 he2 hg2; obtain ⟨A2, c2, hv2, _, _⟩ := hs2.form; rw [HL3.out] at hv2; subst hv2; have hm2 := hm1.grownR (Nat.le_refl _) hs2 (fun _ h => h.1) he2 hg2; clear hs2 he2 hg2 hm1; rw [HHD.out] at hm2; have HM2 := hid hm2.1; have HG2 := hid hm2.2; obtain ⟨ex2, dx2, rfl⟩ := more_of hm2.1.low; clear hm2) | (go_at_call 74; refine (sum_any (HM2.out.sp.row (K' := fun _ => True) (fun _ h _ => h.elim) trivial) HHB.out HL4.out).mono ?_; rintro e w3 ⟨rfl, rfl⟩; rw [HSM.out]) | (at_builtin; clear Mapp2; refine wpList_app30 (ys := [(s0 : Int), (s1 : Int), (s2 : Int), (s3 : Int)]) (by rfl) (.tmp 23) (.tmp 35) (by rfl) (by rfl) (by rfl) (by rfl) (HM2.out.below (by repeat (first | (with_reducible exact Below.refl _ _) | (with_reducible exact bl_mm) | (with_reducible refine bl_dr ?_) | (with_reducible refine bl_drN ?_ _) | (with_reducible refine bl_al ?_ _) | (with_reducible refine bl_more ?_ _ _)))).sp (by exact src_lit (l := [(s0 : Int), (s1 : Int), (s2 : Int), (s3 : Int)]) (alloc_blk (by simp [more_size])) (by simp)) (fun _ h _ => h.elim) HL5.out ?_; intro v4 w4 g4 hs4 he4 hg4; obtain ⟨A4, c4, hv4, hc4, _⟩ := hs4.form; rw [HL6.out] at hv4 hc4; subst hv4; have hm4 := (HM2.out.below (by repeat (first | (with_reducible exact Below.refl _ _) | (with_reducible exact bl_mm) | (with_reducible refine bl_dr ?_) | (with_reducible refine bl_drN ?_ _) | (with_reducible refine bl_al ?_ _) | (with_reducible refine bl_more ?_ _ _)))).grownR HG2.out hs4 (fun _ h => h.1) he4 hg4; clear hs4 he4 hg4; rw [HFR.out] at hm4; have HM4 := hid hm4.1; obtain ⟨ex4, dx4, rfl⟩ := more_of hm4.1.low; clear hm4) | (at_builtin; refine wpList_app30 (ys := frameL body) (by rfl) (.tmp 42) (.tmp 43) (by rfl) (by rfl) (by rfl) (by rfl) (HO.out.below (by repeat (first | (with_reducible exact Below.refl _ _) | (with_reducible exact bl_mm) | (with_reducible refine bl_dr ?_) | (with_reducible refine bl_drN ?_ _) | (with_reducible refine bl_al ?_ _) | (with_reducible refine bl_more ?_ _ _)))).sp (HM4.out.sp.row (K' := fun _ => True) (fun _ h _ => h.elim) trivial).src (fun _ h _ => h.elim) HL7.out ?_; intro v5 w5 g5 hs5 he5 hg5; have HM5 := hid ((HO.out.below (w' := more w ex4 dx4) (by repeat (first | (with_reducible exact Below.refl _ _) | (with_reducible exact bl_mm) | (with_reducible refine bl_dr ?_) | (with_reducible refine bl_drN ?_ _) | (with_reducible refine bl_al ?_ _) | (with_reducible refine bl_more ?_ _ _)))).grownF rfl HFL.out hs5 (fun _ h => h.1) he5 hg5); clear hs5 he5 hg5))
  go_ret2
  exact ⟨_, _, rfl, HM5.out.1, HM5.out.2⟩
end Go.Proofs.Ytgpcgndmdkgbdaa

/- A frame's size. -/
namespace Go.Proofs.Ytgpcgndmdkgbdaa
open Go.RowKit

/-- What a head says. -/
def hdr (bs : List Int) : Nat := match bs with | b0 :: b1 :: _ => b0.toNat * 256 + b1.toNat | _ => 0
def sizeF (bs : List Int) : Nat × Int := if bs.length = 0 then (0, 16) else if bs.length < 2 then (0, 3) else if 1024 < hdr bs then (0, 5) else if bs.length < hdr bs + 6 then (0, 3) else (hdr bs + 6, 0)
theorem hdr_of {bs : List Int} {c0 c1 : Nat} (h0 : bs[0]? = some (c0 : Int)) (h1 : bs[1]? = some (c1 : Int)) : hdr bs = c0 * 256 + c1 := by
  match bs with
  | b0 :: b1 :: l =>
    have h0 : some b0 = some (c0 : Int) := h0
    have h1 : some b1 = some (c1 : Int) := h1
    cases h0; cases h1
    rfl
  | [] => cases h0
  | [_] => cases h1
theorem or256 (h l : Nat) (hh : h < 256) (hl : l < 256) : bits .or .i64 ((h * 256 : Nat) : Int) (l : Int) = ((h * 256 + l : Nat) : Int) := by
  have e := bits_or_nat .i64 (h * 256) l (by show _ < 18446744073709551616; omega) (by show _ < 18446744073709551616; omega)
  have h1 : h * 256 ||| l = h * 256 + l := by
    have := Nat.two_pow_add_eq_or_of_lt (i := 8) (b := l) (by omega) h
    have e2 : (2 : Nat) ^ 8 = 256 := rfl
    rw [e2, Nat.mul_comm 256 h] at this
    exact this.symm
  rw [h1, wrap_i64 _ (by omega)] at e
  exact e
set_option maxHeartbeats 4000000 in
theorem size_any {w : World} {v : Value} {bs : List Int} {K : Nat → Prop} (h : byteE.Row K w v bs) (hbs : ∀ b ∈ bs, 0 ≤ b ∧ b < 256) (hl : bs.length ≤ 4000000000) : Calls Try.prog 85 #[v] w fun e w' => e = .returned (.tuple #[.int .i64 (sizeF bs).1, .int .i64 (sizeF bs).2]) ∧ Below w.heap.size w w' := by
  obtain ⟨A, c, rfl, _, _⟩ := h.form
  have hlx : (bs.length : Int) ≤ 4000000000 := by omega
  have hl0 : (0 : Int) ≤ bs.length := by omega
  by_cases h0 : bs.length = 0
  · have HE : Hid (sizeF bs = (0, 16)) := hid (by unfold sizeF; rw [if_pos h0])
    have hi0 : (bs.length : Int) = 0 := by omega
    have hdd : decide ((bs.length : Int) = 0) = true := by rw [decide_eq_true_eq]; omega
    clear h hbs hl h0
    go_enter Try.func85, Try.ntmps85
    go_wp2_with (first | ((with_reducible refine wp_region_plan (id := 5) (.two [(true, 0), (true, 1), (true, 2), (true, 5), (true, 6), (true, 7)] 3 [5, 6, 7] (.eff [(true, 4)] 8 [0, 1, 2, 4] (.fin [(false, 9), (false, 10)])) 8 [0, 1, 2] (.eff [] 3 [5, 6, 7] (.fin [(false, 4), (false, 9), (false, 10)]))) ?_ ?_ ?_ ?_ ?_ ?_); kernel_rfl; kernel_rfl; kernel_rfl; kernel_rfl; (intro c a d v w h; cases d <;> exact h)) | (with_reducible refine wpPlan_eff ?_) | (with_reducible refine wpPlan_fin ?_) | (with_reducible refine wpPlan_two ?_) | (with_reducible refine wpOpPair ?_ ?_) | ((with_reducible apply wpPre_keep); rfl; intro K' hK'; go_simp; refine hK' _ _ ?_; intro f hf; clear hK' K') | ((with_reducible apply wpPre_drop); rfl; intro K' hK'; go_simp; refine hK' _ _ ?_; intro f; clear hK' K') | (with_reducible refine wpPre_nil ?_) | ((with_reducible apply wpOp_list); rfl) | (with_reducible refine heldPair ?_ ?_) | ((with_reducible refine heldH_no ?_ ?_); rfl) | (with_reducible refine heldH_yes ?_ ?_) | (with_reducible exact heldH_nil) | (unfold YAt; go_simp; done))
    go_ret2
    rw [HE.out]
    exact ⟨rfl, (by repeat (first | (with_reducible exact Below.refl _ _) | (with_reducible exact bl_mm) | (with_reducible refine bl_dr ?_) | (with_reducible refine bl_drN ?_ _) | (with_reducible refine bl_al ?_ _) | (with_reducible refine bl_more ?_ _ _)))⟩
  · by_cases h2 : bs.length < 2
    · have HE : Hid (sizeF bs = (0, 3)) := hid (by unfold sizeF; rw [if_neg h0, if_pos h2])
      have hi0 : ¬ (bs.length : Int) = 0 := by omega
      have hi2 : (bs.length : Int) < 2 := by omega
      clear h hbs hl h0 h2
      go_enter Try.func85, Try.ntmps85
      go_wp2_with (first | ((with_reducible refine wp_region_plan (id := 5) (.two [(true, 0), (true, 1), (true, 2), (true, 5), (true, 6), (true, 7)] 3 [5, 6, 7] (.eff [(true, 4)] 8 [0, 1, 2, 4] (.fin [(false, 9), (false, 10)])) 8 [0, 1, 2] (.eff [] 3 [5, 6, 7] (.fin [(false, 4), (false, 9), (false, 10)]))) ?_ ?_ ?_ ?_ ?_ ?_); kernel_rfl; kernel_rfl; kernel_rfl; kernel_rfl; (intro c a d v w h; cases d <;> exact h)) | (with_reducible refine wpPlan_eff ?_) | (with_reducible refine wpPlan_fin ?_) | (with_reducible refine wpPlan_two ?_) | (with_reducible refine wpOpPair ?_ ?_) | ((with_reducible apply wpPre_keep); rfl; intro K' hK'; go_simp; refine hK' _ _ ?_; intro f hf; clear hK' K') | ((with_reducible apply wpPre_drop); rfl; intro K' hK'; go_simp; refine hK' _ _ ?_; intro f; clear hK' K') | (with_reducible refine wpPre_nil ?_) | ((with_reducible apply wpOp_list); rfl) | (with_reducible refine heldPair ?_ ?_) | ((with_reducible refine heldH_no ?_ ?_); rfl) | (with_reducible refine heldH_yes ?_ ?_) | (with_reducible exact heldH_nil) | (unfold YAt; go_simp; done))
      go_ret2
      rw [HE.out]
      exact ⟨rfl, (by repeat (first | (with_reducible exact Below.refl _ _) | (with_reducible exact bl_mm) | (with_reducible refine bl_dr ?_) | (with_reducible refine bl_drN ?_ _) | (with_reducible refine bl_al ?_ _) | (with_reducible refine bl_more ?_ _ _)))⟩
    · obtain ⟨b, o, rfl, hKb, hlt, hcell0⟩ := row_byte h 0 (by omega)
      obtain ⟨_, _, e, _, _, hcell1⟩ := row_byte h 1 (by omega)
      cases e
      have hb0 := hbs _ (List.getElem_mem (show 0 < bs.length by omega))
      have hb1 := hbs _ (List.getElem_mem (show 1 < bs.length by omega))
      obtain ⟨c0, hc0⟩ : ∃ c0 : Nat, (bs[0]'(by omega)) = (c0 : Int) := ⟨(bs[0]'(by omega)).toNat, by omega⟩
      obtain ⟨c1, hc1⟩ : ∃ c1 : Nat, (bs[1]'(by omega)) = (c1 : Int) := ⟨(bs[1]'(by omega)).toNat, by omega⟩
      have hhd : hdr bs = c0 * 256 + c1 := hdr_of (List.getElem?_eq_some_iff.2 ⟨by omega, hc0⟩) (List.getElem?_eq_some_iff.2 ⟨by omega, hc1⟩)
      rw [hc0] at hcell0 hb0
      rw [hc1] at hcell1 hb1
      have hor := or256 c0 c1 (by omega) (by omega)
      rw [Nat.add_zero] at hcell0
      have hsh : (c0 : Int) * 256 = ((c0 * 256 : Nat) : Int) := (Int.natCast_mul c0 256).symm
      obtain ⟨c2, hc2⟩ : ∃ c2, c0 * 256 = c2 := ⟨_, rfl⟩
      obtain ⟨m, hm⟩ : ∃ m, c2 + c1 = m := ⟨_, rfl⟩
      rw [hc2] at hor hsh hhd
      rw [hm] at hor hhd
      have hi0 : ¬ (bs.length : Int) = 0 := by omega
      have hi2 : ¬ (bs.length : Int) < 2 := by omega
      have hi1 : (1 : Int) < bs.length := by omega
      have hi3 : (0 : Int) < bs.length := by omega
      have hn0 : 0 < bs.length := by omega
      have hn1 : 1 < bs.length := by omega
      have hml : (m : Int) ≤ 65535 := by omega
      have hmz : (0 : Int) ≤ m := by omega
      have h2l : (c2 : Int) ≤ 65535 := by omega
      have h2z : (0 : Int) ≤ c2 := by omega
      have h0z : (0 : Int) ≤ c0 := by omega
      have h0l : (c0 : Int) ≤ 255 := by omega
      have HW1 : Hid (wrap64 (c1 : Int) = (c1 : Int)) := hid (IntWalk.wrap64_in _ (by omega))
      have HW2 : Hid (IntKind.i64.wrap (c2 : Int) = (c2 : Int)) := hid (wrap_i64 _ (by omega))
      by_cases hbig : 1024 < m
      · have HE : Hid (sizeF bs = (0, 5)) := hid (by unfold sizeF; rw [if_neg h0, if_neg h2, hhd, if_pos hbig])
        have hbi : (1024 : Int) < m := by omega
        clear h hbs hl h0 h2 hhd hc2 hm hc0 hc1 hbig hb0 hb1
        have hw1 := HW1.out; have hw2 := HW2.out; go_enter Try.func85, Try.ntmps85
        go_wp2_with (first | ((with_reducible refine wp_region_plan (id := 5) (.two [(true, 0), (true, 1), (true, 2), (true, 5), (true, 6), (true, 7)] 3 [5, 6, 7] (.eff [(true, 4)] 8 [0, 1, 2, 4] (.fin [(false, 9), (false, 10)])) 8 [0, 1, 2] (.eff [] 3 [5, 6, 7] (.fin [(false, 4), (false, 9), (false, 10)]))) ?_ ?_ ?_ ?_ ?_ ?_); kernel_rfl; kernel_rfl; kernel_rfl; kernel_rfl; (intro c a d v w h; cases d <;> exact h)) | (with_reducible refine wpPlan_eff ?_) | (with_reducible refine wpPlan_fin ?_) | (with_reducible refine wpPlan_two ?_) | (with_reducible refine wpOpPair ?_ ?_) | ((with_reducible apply wpPre_keep); rfl; intro K' hK'; go_simp; refine hK' _ _ ?_; intro f hf; clear hK' K') | ((with_reducible apply wpPre_drop); rfl; intro K' hK'; go_simp; refine hK' _ _ ?_; intro f; clear hK' K') | (with_reducible refine wpPre_nil ?_) | ((with_reducible apply wpOp_list); rfl) | (with_reducible refine heldPair ?_ ?_) | ((with_reducible refine heldH_no ?_ ?_); rfl) | (with_reducible refine heldH_yes ?_ ?_) | (with_reducible exact heldH_nil) | (unfold YAt; go_simp; done))
        all_goals (go_ret2; rw [HE.out]; exact ⟨rfl, (by repeat (first | (with_reducible exact Below.refl _ _) | (with_reducible exact bl_mm) | (with_reducible refine bl_dr ?_) | (with_reducible refine bl_drN ?_ _) | (with_reducible refine bl_al ?_ _) | (with_reducible refine bl_more ?_ _ _)))⟩)
      · have hbi : ¬ (1024 : Int) < m := by omega
        by_cases hsm : bs.length < m + 6
        · have HE : Hid (sizeF bs = (0, 3)) := hid (by unfold sizeF; rw [if_neg h0, if_neg h2, hhd, if_neg hbig, if_pos hsm])
          have hsi : (bs.length : Int) < 2 + (m : Int) + 4 := by omega
          clear h hbs hl h0 h2 hhd hc2 hm hc0 hc1 hbig hb0 hb1 hsm
          have hw1 := HW1.out; have hw2 := HW2.out; go_enter Try.func85, Try.ntmps85
          go_wp2_with (first | ((with_reducible refine wp_region_plan (id := 5) (.two [(true, 0), (true, 1), (true, 2), (true, 5), (true, 6), (true, 7)] 3 [5, 6, 7] (.eff [(true, 4)] 8 [0, 1, 2, 4] (.fin [(false, 9), (false, 10)])) 8 [0, 1, 2] (.eff [] 3 [5, 6, 7] (.fin [(false, 4), (false, 9), (false, 10)]))) ?_ ?_ ?_ ?_ ?_ ?_); kernel_rfl; kernel_rfl; kernel_rfl; kernel_rfl; (intro c a d v w h; cases d <;> exact h)) | (with_reducible refine wpPlan_eff ?_) | (with_reducible refine wpPlan_fin ?_) | (with_reducible refine wpPlan_two ?_) | (with_reducible refine wpOpPair ?_ ?_) | ((with_reducible apply wpPre_keep); rfl; intro K' hK'; go_simp; refine hK' _ _ ?_; intro f hf; clear hK' K') | ((with_reducible apply wpPre_drop); rfl; intro K' hK'; go_simp; refine hK' _ _ ?_; intro f; clear hK' K') | (with_reducible refine wpPre_nil ?_) | ((with_reducible apply wpOp_list); rfl) | (with_reducible refine heldPair ?_ ?_) | ((with_reducible refine heldH_no ?_ ?_); rfl) | (with_reducible refine heldH_yes ?_ ?_) | (with_reducible exact heldH_nil) | (unfold YAt; go_simp; done))
          all_goals (go_ret2; rw [HE.out]; exact ⟨rfl, (by repeat (first | (with_reducible exact Below.refl _ _) | (with_reducible exact bl_mm) | (with_reducible refine bl_dr ?_) | (with_reducible refine bl_drN ?_ _) | (with_reducible refine bl_al ?_ _) | (with_reducible refine bl_more ?_ _ _)))⟩)
        · have HE : Hid (sizeF bs = (m + 6, 0)) := hid (by unfold sizeF; rw [if_neg h0, if_neg h2, hhd, if_neg hbig, if_neg hsm])
          have hsi : ¬ (bs.length : Int) < 2 + (m : Int) + 4 := by omega
          have HA : Hid ((2 : Int) + (m : Int) + 4 = ((m + 6 : Nat) : Int)) := hid (by omega)
          clear h hbs hl h0 h2 hhd hc2 hm hc0 hc1 hbig hb0 hb1 hsm
          have hw1 := HW1.out; have hw2 := HW2.out; go_enter Try.func85, Try.ntmps85
          go_wp2_with (first | ((with_reducible refine wp_region_plan (id := 5) (.two [(true, 0), (true, 1), (true, 2), (true, 5), (true, 6), (true, 7)] 3 [5, 6, 7] (.eff [(true, 4)] 8 [0, 1, 2, 4] (.fin [(false, 9), (false, 10)])) 8 [0, 1, 2] (.eff [] 3 [5, 6, 7] (.fin [(false, 4), (false, 9), (false, 10)]))) ?_ ?_ ?_ ?_ ?_ ?_); kernel_rfl; kernel_rfl; kernel_rfl; kernel_rfl; (intro c a d v w h; cases d <;> exact h)) | (with_reducible refine wpPlan_eff ?_) | (with_reducible refine wpPlan_fin ?_) | (with_reducible refine wpPlan_two ?_) | (with_reducible refine wpOpPair ?_ ?_) | ((with_reducible apply wpPre_keep); rfl; intro K' hK'; go_simp; refine hK' _ _ ?_; intro f hf; clear hK' K') | ((with_reducible apply wpPre_drop); rfl; intro K' hK'; go_simp; refine hK' _ _ ?_; intro f; clear hK' K') | (with_reducible refine wpPre_nil ?_) | ((with_reducible apply wpOp_list); rfl) | (with_reducible refine heldPair ?_ ?_) | ((with_reducible refine heldH_no ?_ ?_); rfl) | (with_reducible refine heldH_yes ?_ ?_) | (with_reducible exact heldH_nil) | (unfold YAt; go_simp; done))
          all_goals (go_ret2; rw [HE.out, HA.out]; exact ⟨rfl, (by repeat (first | (with_reducible exact Below.refl _ _) | (with_reducible exact bl_mm) | (with_reducible refine bl_dr ?_) | (with_reducible refine bl_drN ?_ _) | (with_reducible refine bl_al ?_ _) | (with_reducible refine bl_more ?_ _ _)))⟩)
end Go.Proofs.Ytgpcgndmdkgbdaa

/- A frame taken. -/
namespace Go.Proofs.Ytgpcgndmdkgbdaa
open Go.RowKit

theorem run_slice_3 {P : Program} (t e : TypeId) (size : Nat) {i : TypeInfo} (ht : P.underlying t = some (.slice e)) (hi : P.info? e = some i) (hs : i.size = size) (A : Option Addr) (n c k h m : Nat) (hk : k ≤ h) (hh : h ≤ m) (hm : m ≤ c) :
    ∃ A', (m ≠ k → A' = A.map (·.add (k * size))) ∧ ∀ W, (Instr.slice t (.slice A n c) (some (.int .i64 k)) (some (.int .i64 h)) (some (.int .i64 m))).run P W = .ok (.slice A' (h - k) (m - k)) W := by
  refine ⟨if m = k then A else A.map (·.add (k * size)), fun h => by rw [if_neg h], fun W => ?_⟩
  subst hs
  simp [Instr.slice, run_underlying ht, Instr.sliceBounds, Instr.sliceBound, asIntOf, sizeOf, typeInfo, hi]
  rw [if_pos hm, if_pos hh, if_pos hk]
theorem run_slice_hi {P : Program} (t e : TypeId) (size : Nat) {i : TypeInfo} (ht : P.underlying t = some (.slice e)) (hi : P.info? e = some i) (_hs : i.size = size) (A : Option Addr) (n c h : Nat) (hh : h ≤ c) :
    ∀ W, (Instr.slice t (.slice A n c) none (some (.int .i64 h)) none).run P W = .ok (.slice A h c) W := by
  intro W
  subst _hs
  simp [Instr.slice, run_underlying ht, Instr.sliceBounds, Instr.sliceBound, asIntOf, sizeOf, typeInfo, hi]
  rw [if_pos hh]
  congr 2
  split
  · rfl
  · cases A with
    | none => rfl
    | some a => cases a; simp [Addr.add]
theorem run_slice_lh {P : Program} (t e : TypeId) (size : Nat) {i : TypeInfo} (ht : P.underlying t = some (.slice e)) (hi : P.info? e = some i) (hs : i.size = size) (A : Option Addr) (n c k h : Nat) (hk : k ≤ h) (hh : h ≤ c) :
    ∃ A', (c ≠ k → A' = A.map (·.add (k * size))) ∧ ∀ W, (Instr.slice t (.slice A n c) (some (.int .i64 k)) (some (.int .i64 h)) none).run P W = .ok (.slice A' (h - k) (c - k)) W := by
  refine ⟨if c = k then A else A.map (·.add (k * size)), fun h => by rw [if_neg h], fun W => ?_⟩
  subst hs
  simp [Instr.slice, run_underlying ht, Instr.sliceBounds, Instr.sliceBound, asIntOf, sizeOf, typeInfo, hi]
  rw [if_pos hh, if_pos hk]
theorem or32 (a b p : Nat) (i : Nat) (hp : 2 ^ i = p) (ha : a < p) (hb : b * p + a < 4294967296) : bits .or .u32 (a : Int) ((b * p : Nat) : Int) = ((a + b * p : Nat) : Int) := by
  subst hp
  have e := bits_or_nat .u32 a (b * 2 ^ i) (by show _ < 4294967296; omega) (by show _ < 4294967296; omega)
  have h1 : a ||| b * 2 ^ i = a + b * 2 ^ i := by
    have := Nat.two_pow_add_eq_or_of_lt ha b
    rw [Nat.mul_comm] at this
    rw [Nat.or_comm, ← this, Nat.add_comm]
  rw [h1, wrap_u32 _ (by omega)] at e
  exact e
/-- Four bytes' number. -/
def wordL (l : List Int) : Nat := match l with | [x0, x1, x2, x3] => x0.toNat + x1.toNat * 256 + x2.toNat * 65536 + x3.toNat * 16777216 | _ => 0
/-- The frame at a place. -/
def takeF (bs : List Int) (a : Nat) : List Int × Nat × Int :=
  if (sizeF (bs.drop a)).2 ≠ 0 then ([], 0, (sizeF (bs.drop a)).2)
  else if sumW (((bs.take (a + (sizeF (bs.drop a)).1)).drop a).take ((sizeF (bs.drop a)).1 - 4)) ≠ wordL (((bs.take (a + (sizeF (bs.drop a)).1)).drop a).drop ((sizeF (bs.drop a)).1 - 4)) then ([], 0, 12)
  else ((((bs.take (a + (sizeF (bs.drop a)).1)).drop a).drop 2).take ((sizeF (bs.drop a)).1 - 6), a + (sizeF (bs.drop a)).1, 0)
def TakeR (r : List Int × Nat × Int) (w : World) (e : Ending) (w' : World) : Prop := ∃ v g, e = .returned (.tuple #[v, .int .i64 r.2.1, .int .i64 r.2.2]) ∧ Made byteE 5 w.heap.size w w' g v r.1
theorem sizeF_ok {bs : List Int} {s : Nat} (h : sizeF bs = (s, 0)) : 6 ≤ s ∧ s ≤ bs.length := by
  unfold sizeF at h
  split at h
  · cases h
  · split at h
    · cases h
    · split at h
      · cases h
      · split at h
        · cases h
        · cases h; omega
theorem four {l : List Int} (h : l.length = 4) (hb : ∀ b ∈ l, 0 ≤ b ∧ b < 256) : ∃ x0 x1 x2 x3 : Nat, l = [(x0 : Int), (x1 : Int), (x2 : Int), (x3 : Int)] ∧ x0 < 256 ∧ x1 < 256 ∧ x2 < 256 ∧ x3 < 256 := by
  match l, h with
  | [a, b, c, d], _ =>
    have h0 := hb a (by simp)
    have h1 := hb b (by simp)
    have h2 := hb c (by simp)
    have h3 := hb d (by simp)
    exact ⟨a.toNat, b.toNat, c.toNat, d.toNat, by rw [Int.toNat_of_nonneg h0.1, Int.toNat_of_nonneg h1.1, Int.toNat_of_nonneg h2.1, Int.toNat_of_nonneg h3.1], by omega, by omega, by omega, by omega⟩
theorem sum_is {w : World} {v : Value} {bs : List Int} {sm : Nat} {K : Nat → Prop} (h : byteE.Row K w v bs) (hbs : ∀ b ∈ bs, 0 ≤ b ∧ b < 256) (hl : bs.length ≤ 4000000000) (hs : sumW bs = sm) : Calls Try.prog 74 #[v] w fun e w' => e = .returned (.int .u32 sm) ∧ w = w' := by
  subst hs
  exact sum_any h hbs hl
set_option maxRecDepth 8000 in
set_option maxHeartbeats 4000000 in
theorem ftake_any {w : World} {v : Value} {a : Nat} {bs : List Int} {K : Nat → Prop} (h : byteE.Row K w v bs) (hbs : ∀ b ∈ bs, 0 ≤ b ∧ b < 256) (ha : a ≤ bs.length) (hl : bs.length ≤ 4000000000) : Calls Try.prog 61 #[v, .int .i64 a] w fun e w' => TakeR (takeF bs a) w e w' := by
  obtain ⟨A, c, rfl, hc1, hcm⟩ := h.form
  obtain ⟨i0, hi, _, hz1, _⟩ := info_parts info5
  obtain ⟨A1, hA1, hsl1⟩ := run_slice_low (P := Try.prog) 30 5 1 Try.underlying30 hi hz1 A bs.length c a ha
  have HD := hid (h.drop a ha hA1)
  have HBD := hid (fun b hb => hbs b (List.mem_of_mem_drop hb) : ∀ b ∈ bs.drop a, 0 ≤ b ∧ b < 256)
  have HLD : Hid ((bs.drop a).length ≤ 4000000000) := hid (by rw [List.length_drop]; omega)
  have ha1 : (a : Int) ≤ bs.length := by omega
  have ha0 : (0 : Int) ≤ a := by omega
  have hlx : (bs.length : Int) ≤ 4000000000 := by omega
  have hba : decide (bs.length < a) = false := by rw [decide_eq_false_iff_not]; omega
  have hba0 : decide ((a : Int) < 0) = false := by rw [decide_eq_false_iff_not]; omega
  obtain ⟨s, E, hse⟩ : ∃ s E, sizeF (bs.drop a) = (s, E) := ⟨_, _, rfl⟩
  have HSE := hid hse
  by_cases hE : E = 0
  · subst hE
    obtain ⟨hs6, hsl⟩ := sizeF_ok hse
    rw [List.length_drop] at hsl
    obtain ⟨q, hq⟩ : ∃ q, a + s = q := ⟨_, rfl⟩
    obtain ⟨m, hm⟩ : ∃ m, s - 4 = m := ⟨_, rfl⟩
    have HTF : Hid (takeF bs a = if sumW (((bs.take q).drop a).take m) ≠ wordL (((bs.take q).drop a).drop m) then ([], 0, 12) else ((((bs.take q).drop a).drop 2).take (m - 2), q, 0)) := hid (by unfold takeF; rw [hse]; simp only [ne_eq, not_true_eq_false, if_false]; rw [hq, hm, ← hm, Nat.sub_sub])
    have hq1 : (a : Int) + (s : Int) = (q : Int) := by omega
    have hm1 : (s : Int) - 4 = (m : Int) := by omega
    obtain ⟨A2, hA2, hsl2⟩ := run_slice_3 (P := Try.prog) 30 5 1 Try.underlying30 hi hz1 A bs.length c a q q (by omega) (Nat.le_refl _) (by omega)
    have hF := (h.take q q (by omega) (Nat.le_refl _) (by omega)).drop a (by rw [List.length_take]; omega) hA2
    have hqs : q - a = s := by omega
    rw [hqs] at hF hsl2
    obtain ⟨F, hFe⟩ : ∃ F, (bs.take q).drop a = F := ⟨_, rfl⟩
    have hFl : F.length = s := by rw [← hFe, List.length_drop, List.length_take]; omega
    have hFb : ∀ b ∈ F, 0 ≤ b ∧ b < 256 := fun b hb => by rw [← hFe] at hb; exact hbs b (List.mem_of_mem_take (List.mem_of_mem_drop hb))
    rw [hFe] at hF HTF
    obtain ⟨A3, hA3, hsl3⟩ := run_slice_low (P := Try.prog) 30 5 1 Try.underlying30 hi hz1 A2 s s m (by omega)
    have hT := hF.drop m (by omega) hA3
    have hsm4 : s - m = 4 := by omega
    rw [hsm4] at hT hsl3
    have hT4 : (F.drop m).length = 4 := by rw [List.length_drop]; omega
    obtain ⟨x0, x1, x2, x3, hl4, hx0, hx1, hx2, hx3⟩ := four hT4 (fun b hb => hFb b (List.mem_of_mem_drop hb))
    rw [hl4] at hT HTF
    obtain ⟨b, o, rfl, hKb, hlt, hcell0⟩ := row_byte hT 0 (by simp)
    obtain ⟨_, _, e1, _, _, hcell1⟩ := row_byte hT 1 (by simp)
    cases e1
    obtain ⟨_, _, e1, _, _, hcell2⟩ := row_byte hT 2 (by simp)
    cases e1
    obtain ⟨_, _, e1, _, _, hcell3⟩ := row_byte hT 3 (by simp)
    cases e1
    rw [Nat.add_zero] at hcell0
    have hcell0 : w.cell? ⟨b, o, none⟩ = some (.int .u8 (x0 : Int)) := hcell0
    have hcell1 : w.cell? ⟨b, o + 1, none⟩ = some (.int .u8 (x1 : Int)) := hcell1
    have hcell2 : w.cell? ⟨b, o + 2, none⟩ = some (.int .u8 (x2 : Int)) := hcell2
    have hcell3 : w.cell? ⟨b, o + 3, none⟩ = some (.int .u8 (x3 : Int)) := hcell3
    obtain ⟨y1, hy1⟩ : ∃ y, x1 * 256 = y := ⟨_, rfl⟩
    obtain ⟨y2, hy2⟩ : ∃ y, x2 * 65536 = y := ⟨_, rfl⟩
    obtain ⟨y3, hy3⟩ : ∃ y, x3 * 16777216 = y := ⟨_, rfl⟩
    obtain ⟨z1, hz1'⟩ : ∃ z, x0 + y1 = z := ⟨_, rfl⟩
    obtain ⟨z2, hz2'⟩ : ∃ z, z1 + y2 = z := ⟨_, rfl⟩
    obtain ⟨z3, hz3'⟩ : ∃ z, z2 + y3 = z := ⟨_, rfl⟩
    have hsh1 : (x1 : Int) * 256 = (y1 : Int) := by omega
    have hsh2 : (x2 : Int) * 65536 = (y2 : Int) := by omega
    have hsh3 : (x3 : Int) * 16777216 = (y3 : Int) := by omega
    have hor1 : bits .or .u32 (x0 : Int) (y1 : Int) = (z1 : Int) := by have := or32 x0 x1 256 8 rfl (by omega) (by omega); rw [hy1, hz1'] at this; exact this
    have hor2 : bits .or .u32 (z1 : Int) (y2 : Int) = (z2 : Int) := by have := or32 z1 x2 65536 16 rfl (by omega) (by omega); rw [hy2, hz2'] at this; exact this
    have hor3 : bits .or .u32 (z2 : Int) (y3 : Int) = (z3 : Int) := by have := or32 z2 x3 16777216 24 rfl (by omega) (by omega); rw [hy3, hz3'] at this; exact this
    have hW : wordL [(x0 : Int), (x1 : Int), (x2 : Int), (x3 : Int)] = z3 := by simp only [wordL, Int.toNat_natCast]; rw [hy1, hy2, hy3, hz1', hz2', hz3']
    have hc0 : (x0 : Int) % 4294967296 = (x0 : Int) := by omega
    have hc1 : (x1 : Int) % 4294967296 = (x1 : Int) := by omega
    have hc2 : (x2 : Int) % 4294967296 = (x2 : Int) := by omega
    have hc3 : (x3 : Int) % 4294967296 = (x3 : Int) := by omega
    have hd1 : (y1 : Int) % 4294967296 = (y1 : Int) := by omega
    have hd2 : (y2 : Int) % 4294967296 = (y2 : Int) := by omega
    have hd3 : (y3 : Int) % 4294967296 = (y3 : Int) := by omega
    have he1 : IntKind.u32.wrap (y1 : Int) = (y1 : Int) := wrap_u32 _ (by omega)
    have he2 : IntKind.u32.wrap (y2 : Int) = (y2 : Int) := wrap_u32 _ (by omega)
    have he3 : IntKind.u32.wrap (y3 : Int) = (y3 : Int) := wrap_u32 _ (by omega)
    have hf0 : IntKind.u32.wrap (x0 : Int) = (x0 : Int) := wrap_u32 _ (by omega)
    have hf1 : IntKind.u32.wrap (x1 : Int) = (x1 : Int) := wrap_u32 _ (by omega)
    have hf2 : IntKind.u32.wrap (x2 : Int) = (x2 : Int) := wrap_u32 _ (by omega)
    have hf3 : IntKind.u32.wrap (x3 : Int) = (x3 : Int) := wrap_u32 _ (by omega)
    rw [hW] at HTF
    have hsl4 := run_slice_hi (P := Try.prog) 30 5 1 Try.underlying30 hi hz1 A2 s s m (by omega)
    have hX := hF.take m s (by omega) (by omega) (by omega)
    have HX := hid hX
    have HXB := hid (fun b hb => hFb b (List.mem_of_mem_take hb) : ∀ b ∈ F.take m, 0 ≤ b ∧ b < 256)
    have HXL : Hid ((F.take m).length ≤ 4000000000) := hid (by rw [List.length_take]; omega)
    obtain ⟨sm, hsm⟩ : ∃ sm, sumW (F.take m) = sm := ⟨_, rfl⟩
    have HSM := hid hsm
    rw [hsm] at HTF
    obtain ⟨A4, hA4, hsl5⟩ := run_slice_lh (P := Try.prog) 30 5 1 Try.underlying30 hi hz1 A2 s s 2 m (by omega) (by omega)
    have hsl5 : ∀ W, (Instr.slice 30 (.slice A2 s s) (some (.int .i64 2)) (some (.int .i64 (m : Int))) none).run Try.prog W = .ok (.slice A4 (m - 2) (s - 2)) W := hsl5
    have hP := (hF.drop 2 (by omega) hA4).take (m - 2) (s - 2) (by rw [List.length_drop]; omega) (by omega) (by omega)
    obtain ⟨P, hPe⟩ : ∃ P, (F.drop 2).take (m - 2) = P := ⟨_, rfl⟩
    have hPl : P.length = m - 2 := by rw [← hPe, List.length_take, List.length_drop]; omega
    rw [hPe] at hP HTF
    have HP := hid hP
    have HLP : Hid (([] : List Int).length + P.length ≤ 4294967296) := hid (by simp only [List.length_nil]; omega)
    have n1 : (1 : Int) < 4 := by decide
    have hq0 : (0 : Int) ≤ q := by omega
    have hql : (q : Int) ≤ 4000000000 := by omega
    have hm0 : (0 : Int) ≤ m := by omega
    have hml : (m : Int) ≤ 4000000000 := by omega
    have hs0 : (0 : Int) ≤ s := by omega
    have hsl0 : (s : Int) ≤ 4000000000 := by omega
    have hwm : IntKind.i64.wrap (m : Int) = (m : Int) := wrap_i64 _ (by omega)
    by_cases hne : sm = z3
    · have HTF2 : Hid (takeF bs a = (P, q, 0)) := hid (by rw [HTF.out, if_neg (fun h => h hne)])
      subst hne
      have HQE := hid hq1
      clear h hbs ha hl hse hA1 hi hz1 hcm hs6 hsl hq hm hA2 hF hqs hFe hFl hFb hA3 hT hsm4 hT4 hl4 hx0 hx1 hx2 hx3 hy1 hy2 hy3 hz1' hz2' hz3' hW hX hsm hA4 hP hPe hPl HTF
      go_enter Try.func61, Try.ntmps61
      go_upto_region 8 with (first | (go_at_call 85; refine (size_any (HD.out.below (by repeat (first | (with_reducible exact Below.refl _ _) | (with_reducible exact bl_mm) | (with_reducible refine bl_dr ?_) | (with_reducible refine bl_drN ?_ _) | (with_reducible refine bl_al ?_ _) | (with_reducible refine bl_more ?_ _ _)))) HBD.out HLD.out).mono ?_; rintro e w1 ⟨rfl, hb1⟩; obtain ⟨ex1, dx1, rfl⟩ := more_of hb1; clear hb1; rw [HSE.out]))
      go_quiet ((go_at_call 74; refine (sum_is (HX.out.below (by repeat (first | (with_reducible exact Below.refl _ _) | (with_reducible exact bl_mm) | (with_reducible refine bl_dr ?_) | (with_reducible refine bl_drN ?_ _) | (with_reducible refine bl_al ?_ _) | (with_reducible refine bl_more ?_ _ _)))) HXB.out HXL.out HSM.out).mono ?_; rintro e w3 ⟨rfl, rfl⟩; exact ⟨rfl, _, rfl⟩))
      go_wp2_with (first | (at_builtin; refine wpList_app30 (xs := []) (ys := P) (by rfl) (.tmp 70) (.tmp 74) (by rfl) (by rfl) (by rfl) (by rfl) (Enc.Spine.bare byteE 5 No w.heap.size _ _) (HP.out.below (by repeat (first | (with_reducible exact Below.refl _ _) | (with_reducible exact bl_mm) | (with_reducible refine bl_dr ?_) | (with_reducible refine bl_drN ?_ _) | (with_reducible refine bl_al ?_ _) | (with_reducible refine bl_more ?_ _ _)))).src (fun _ h _ => h.elim) HLP.out ?_; intro v4 w4 g4 hs4 he4 hg4; have HS4 := hid hs4; have HE4 := hid he4; have HG4 := hid hg4; clear hs4 he4 hg4))
      go_ret3
      unfold TakeR
      rw [HTF2.out]
      refine ⟨v4, g4, ?_, ?_⟩
      · rfl
      · refine Made.grown (v := .slice (some ⟨_, 0, none⟩) 0 0) (xs := []) (g := w.heap.size) ⟨Enc.Spine.bare byteE 5 No w.heap.size _ _, Nat.le_refl _, ?_, (by repeat (first | (with_reducible exact Below.refl _ _) | (with_reducible exact bl_mm) | (with_reducible refine bl_dr ?_) | (with_reducible refine bl_drN ?_ _) | (with_reducible refine bl_al ?_ _) | (with_reducible refine bl_more ?_ _ _)))⟩ HS4.out (fun _ h => h.1) (HE4.out.mono (fun _ _ h => ⟨h.1, h.2.1⟩)) HG4.out
        simp [more_size]
        omega
    · have HTF2 : Hid (takeF bs a = ([], 0, 12)) := hid (by rw [HTF.out, if_pos hne])
      have hne1 : ¬ (sm : Int) = (z3 : Int) := by omega
      have hne2 : ((sm : Int) != (z3 : Int)) = true := by simpa using hne1
      clear h hbs ha hl hse hA1 hi hz1 hcm hs6 hsl hq hm hA2 hF hqs hFe hFl hFb hA3 hT hsm4 hT4 hl4 hx0 hx1 hx2 hx3 hy1 hy2 hy3 hz1' hz2' hz3' hW hX hsm hA4 hP hPe hPl HTF hne
      go_enter Try.func61, Try.ntmps61
      go_upto_region 8 with (first | (go_at_call 85; refine (size_any (HD.out.below (by repeat (first | (with_reducible exact Below.refl _ _) | (with_reducible exact bl_mm) | (with_reducible refine bl_dr ?_) | (with_reducible refine bl_drN ?_ _) | (with_reducible refine bl_al ?_ _) | (with_reducible refine bl_more ?_ _ _)))) HBD.out HLD.out).mono ?_; rintro e w1 ⟨rfl, hb1⟩; obtain ⟨ex1, dx1, rfl⟩ := more_of hb1; clear hb1; rw [HSE.out]))
      go_quiet ((go_at_call 74; refine (sum_is (HX.out.below (by repeat (first | (with_reducible exact Below.refl _ _) | (with_reducible exact bl_mm) | (with_reducible refine bl_dr ?_) | (with_reducible refine bl_drN ?_ _) | (with_reducible refine bl_al ?_ _) | (with_reducible refine bl_more ?_ _ _)))) HXB.out HXL.out HSM.out).mono ?_; rintro e w3 ⟨rfl, rfl⟩; exact ⟨rfl, _, rfl⟩))
      go_wp2
      go_ret3
      unfold TakeR
      rw [HTF2.out]
      exact ⟨.slice none 0 0, w.heap.size, rfl, Made.no _ _ (by repeat (first | (with_reducible exact Below.refl _ _) | (with_reducible exact bl_mm) | (with_reducible refine bl_dr ?_) | (with_reducible refine bl_drN ?_ _) | (with_reducible refine bl_al ?_ _) | (with_reducible refine bl_more ?_ _ _)))⟩
  · have HTF : Hid (takeF bs a = ([], 0, E)) := hid (by unfold takeF; rw [hse]; simp only [ne_eq]; rw [if_pos hE])
    have hEb : (E != 0) = true := by simpa using hE
    clear h hbs ha hl hse hE hA1 hi hz1 hc1 hcm
    go_enter Try.func61, Try.ntmps61
    go_wp2_with (first | ((with_reducible refine wp_region_plan (id := 8) (TOO MANY) ?_ ?_ ?_ ?_ ?_ ?_); kernel_rfl; kernel_rfl; kernel_rfl; kernel_rfl; (intro c a d v w h; cases d <;> exact h)) | (with_reducible refine wpPlan_eff ?_) | (with_reducible refine wpPlan_fin ?_) | (with_reducible refine wpPlan_two ?_) | (with_reducible refine wpOpPair ?_ ?_) | ((with_reducible apply wpPre_keep); rfl; intro K' hK'; go_simp; refine hK' _ _ ?_; intro f hf; clear hK' K') | ((with_reducible apply wpPre_drop); rfl; intro K' hK'; go_simp; refine hK' _ _ ?_; intro f; clear hK' K') | (with_reducible refine wpPre_nil ?_) | ((with_reducible apply wpOp_list); rfl) | (with_reducible refine heldPair ?_ ?_) | ((with_reducible refine heldH_no ?_ ?_); rfl) | (with_reducible refine heldH_yes ?_ ?_) | (with_reducible exact heldH_nil) | (unfold YAt; go_simp; done) | (go_at_call 85; refine (size_any (HD.out.below (by repeat (first | (with_reducible exact Below.refl _ _) | (with_reducible exact bl_mm) | (with_reducible refine bl_dr ?_) | (with_reducible refine bl_drN ?_ _) | (with_reducible refine bl_al ?_ _) | (with_reducible refine bl_more ?_ _ _)))) HBD.out HLD.out).mono ?_; rintro e w1 ⟨rfl, hb1⟩; obtain ⟨ex1, dx1, rfl⟩ := more_of hb1; clear hb1; rw [HSE.out]))
    go_ret3
    unfold TakeR
    rw [HTF.out]
    exact ⟨.slice none 0 0, w.heap.size, rfl, Made.no _ _ (by repeat (first | (with_reducible exact Below.refl _ _) | (with_reducible exact bl_mm) | (with_reducible refine bl_dr ?_) | (with_reducible refine bl_drN ?_ _) | (with_reducible refine bl_al ?_ _) | (with_reducible refine bl_more ?_ _ _)))⟩
end Go.Proofs.Ytgpcgndmdkgbdaa

/- All frames. -/
namespace Go.Proofs.Ytgpcgndmdkgbdaa
open Go.RowKit

theorem info30 : (Try.prog.info? 30).map (fun i => (i.zero, i.size, i.bytes)) = some (some (.slice none 0 0), 1, 24) := by kernel_rfl
abbrev bytesE' : Enc (List Int) := Enc.slice byteE
theorem app86 {K : Nat → Prop} {g : Nat} {w : World} {v x : Value} {xs ys : List (List Int)} (h : bytesE'.Spine 30 K g w v xs) (hy : bytesE'.Src K w x ys) (hKg : ∀ b, K b → b < w.heap.size → b ≠ g) (hlen : xs.length + ys.length ≤ 4294967296) :
    ∃ v' w' g', (Builtin.append_ #[86, 86] 86 #[v, x]).run Try.prog w = .ok v' w' ∧ bytesE'.Spine 30 (fun b => K b ∧ b < w.heap.size) g' w' v' (xs ++ ys) ∧ Ext (fun b => b = g ∧ capOf v ≠ 0) w w' ∧ Grew g w w' v v' g' := by
  obtain ⟨i0, hi, hz0, hz1, hz2⟩ := info_parts info30
  exact h.append 86 86 86 i0 _ Try.underlying86 ⟨_, Try.underlying86⟩ hi hz0 hz1 rfl (by decide) hy hKg hlen (by rw [hz2]; decide)
theorem wpList_app86 {w : World} {ops : Array Oper} {rest : List Oper} {o : Oper} {a : Act} {Q : Exit → Act → World → Prop} {K : Nat → Prop} {g : Nat} {xs ys : List (List Int)} {v x : Value}
    (hg : o.guard = none) (s x' : Operand) (hop : o.op = Op.call { callee := Callee.builtin Builtin.append, args := #[s, x'], argTypes := #[86, 86] }) (hty : o.type = 86)
    (hv : a.eval s = v) (hx : a.eval x' = x) (hs : bytesE'.Spine 30 K g w v xs) (hy : bytesE'.Src K w x ys) (hKg : ∀ b, K b → b < w.heap.size → b ≠ g) (hlen : xs.length + ys.length ≤ 4294967296)
    (h : ∀ v' w' g', bytesE'.Spine 30 (fun b => K b ∧ b < w.heap.size) g' w' v' (xs ++ ys) → Ext (fun b => b = g ∧ capOf v ≠ 0) w w' → Grew g w w' v v' g' → wpList Try.prog ops Q rest (a.put o.dst v') w') :
    wpList Try.prog ops Q (o :: rest) a w := by
  subst hv; subst hx
  obtain ⟨v', w', g', hrun, h1, h2, h3⟩ := app86 hs hy hKg hlen
  exact wpList_append_run hg s x' 86 86 hop (by rw [hty]; exact hrun) (h v' w' g' h1 h2 h3)
/-- All frames from a place on; where they end, and why. -/
def allF (bs : List Int) : Nat → Nat → List (List Int) → List (List Int) × Nat × Int
  | 0, a, out => (out, a, 0)
  | k + 1, a, out => if (takeF bs a).2.2 = 0 then allF bs k (takeF bs a).2.1 (out ++ [(takeF bs a).1]) else (out, a, (takeF bs a).2.2)
def allW (bs : List Int) : List (List Int) × Nat × Int := allF bs (bs.length + 1) 0 []
theorem takeF_ok {bs : List Int} {a : Nat} (ha : a ≤ bs.length) {x : List Int} {n : Nat} (h : takeF bs a = (x, n, 0)) : a + 6 ≤ n ∧ n ≤ bs.length ∧ x.length + 6 + a = n ∧ ∀ b ∈ x, b ∈ bs := by
  obtain ⟨s, E, hse⟩ : ∃ s E, sizeF (bs.drop a) = (s, E) := ⟨_, _, rfl⟩
  unfold takeF at h
  rw [hse] at h
  simp only at h
  split at h
  · rename_i hE
    cases h
    exact absurd rfl hE
  · rename_i hE
    have hE : E = 0 := by simpa using hE
    subst hE
    obtain ⟨h1, h2⟩ := sizeF_ok hse
    rw [List.length_drop] at h2
    split at h
    · cases h
    · cases h
      refine ⟨by omega, by omega, ?_, fun b hb => List.mem_of_mem_take (List.mem_of_mem_drop (List.mem_of_mem_drop (List.mem_of_mem_take hb)))⟩
      simp only [List.length_take, List.length_drop]
      omega
def AllR (r : List (List Int) × Nat × Int) (w : World) (e : Ending) (w' : World) : Prop := ∃ v g, e = .returned (.tuple #[v, .int .i64 r.2.1, .int .i64 r.2.2]) ∧ bytesE'.OutP 30 (fun b => w.heap.size ≤ b) 0 w.heap.size g w' v r.1 ∧ Below w.heap.size w w'
set_option maxRecDepth 8000 in
set_option maxHeartbeats 4000000 in
theorem all_any {w : World} {v : Value} {bs : List Int} {K : Nat → Prop} (h : byteE.Row K w v bs) (hbs : ∀ b ∈ bs, 0 ≤ b ∧ b < 256) (hl : bs.length ≤ 4000000000) (hw : 0 < w.heap.size) : Calls Try.prog 40 #[v] w fun e w' => AllR (allW bs) w e w' := by
  obtain ⟨A, c, rfl, _, _⟩ := h.form
  have HR := hid h
  have HBS := hid hbs
  have HL := hid hl
  have HW := hid hw
  clear h hbs hl hw
  go_enter Try.func40, Try.ntmps40
  go_wp2
  go_step3
  go_wp2
  go_step3
  go_wp2
  go_loopg [5, 6] bs.length (fun k vo va wr => ∃ (a g : Nat) (out : List (List Int)), va = .int .i64 (a : Int) ∧ a ≤ bs.length ∧ bs.length ≤ a + k ∧ out.length ≤ a ∧ allW bs = allF bs (k + 1) a out ∧ bytesE'.OutP 30 (fun b => w.heap.size ≤ b) 0 w.heap.size g wr vo out ∧ Below w.heap.size w wr)
  case atStart => exact ⟨0, 0, [], rfl, Nat.zero_le _, by omega, Nat.le_refl _, rfl, Enc.OutP.start _ _ HW.out, Below.refl _ _⟩
  case round =>
    obtain ⟨a, g, out, rfl, ha, hk, hol, hall, ho, hb⟩ := hrel
    have HO := hid ho
    have HB := hid hb
    have HA := hid ha
    have HK := hid hk
    have HOL := hid hol
    rw [allF] at hall
    obtain ⟨x, n, E, ht⟩ : ∃ x n E, takeF bs a = (x, n, E) := ⟨_, _, _, rfl⟩
    have HT := hid ht
    rw [ht] at hall
    simp only at hall
    by_cases hE : E = 0
    · subst hE
      obtain ⟨hn1, hn2, hxl, _⟩ := takeF_ok ha ht
      rw [if_pos rfl] at hall
      obtain ⟨k2, rfl⟩ : ∃ k2, gk = k2 + 1 := ⟨gk - 1, by omega⟩
      have HALL := hid hall
      have HN1 := hid hn1
      have HN2 := hid hn2
      have HLEN : Hid (out.length + [x].length ≤ 4294967296) := hid (by have := HL.out; simp; omega)
      clear ha hk hol hall ho hb ht hn1 hn2 hxl
      go_wp2_with (first | (go_at_call 61; refine (ftake_any (HR.out.below HB.out) HBS.out HA.out HL.out).mono ?_; rintro e w2 ⟨v2, g2, rfl, hm2⟩; rw [HT.out] at hm2 ⊢; have hm2 : Made byteE 5 _ _ _ g2 v2 x := hm2; obtain ⟨A2, c2, rfl, _, _⟩ := hm2.sp.form; have HM2 := hid hm2; obtain ⟨ex2, dx2, rfl⟩ := more_of hm2.low; clear hm2) | (at_builtin; refine wpList_app86 (ys := [x]) (by rfl) (.tmp 22) (.tmp 24) (by rfl) (by rfl) (by rfl) (by rfl) (HO.out.below (by repeat (first | (with_reducible exact Below.refl _ _) | (with_reducible exact bl_mm) | (with_reducible refine bl_dr ?_) | (with_reducible refine bl_drN ?_ _) | (with_reducible refine bl_al ?_ _) | (with_reducible refine bl_more ?_ _ _)))).sp (by exact Enc.Src.one_blk (cs := [.slice A2 x.length c2]) (alloc_blk (by simp [more_size])) ⟨_, rfl, ((HM2.out.below (by repeat (first | (with_reducible exact Below.refl _ _) | (with_reducible exact bl_mm) | (with_reducible refine bl_dr ?_) | (with_reducible refine bl_drN ?_ _) | (with_reducible refine bl_al ?_ _) | (with_reducible refine bl_more ?_ _ _)))).sp.row (fun _ h _ => h.elim) ⟨Nat.le_trans HB.out.size HM2.out.gN, Nat.ne_of_gt (Nat.lt_of_lt_of_le HO.out.lt HM2.out.gN)⟩)⟩) (fun _ h _ => h.2) HLEN.out ?_; intro v4 w4 g4 hs4 he4 hg4; have HS4 := hid hs4; have HE4 := hid he4; have HG4 := hid hg4; clear hs4 he4 hg4))
      go_roundg k2
      case measure => omega
      case rel =>
        refine ⟨n, g4, out ++ [x], rfl, HN2.out, ?_, ?_, HALL.out, ?_⟩
        · have := HK.out; have := HN1.out; omega
        · have := HOL.out; have := HN1.out; simp; omega
        · have := HO.out.plain HB.out (by repeat (first | (with_reducible exact Below.refl _ _) | (with_reducible exact bl_mm) | (with_reducible refine bl_dr ?_) | (with_reducible refine bl_drN ?_ _) | (with_reducible refine bl_al ?_ _) | (with_reducible refine bl_more ?_ _ _))) HS4.out HE4.out HG4.out HB.out.size (Nat.le_refl _)
          exact ⟨this.1, this.2.1⟩
    · rw [if_neg hE] at hall
      have HALL := hid hall
      have hEb : (E != 0) = true := by simpa using hE
      clear ha hk hol hall ho hb ht hE
      go_wp2_with (first | (go_at_call 61; refine (ftake_any (HR.out.below HB.out) HBS.out HA.out HL.out).mono ?_; rintro e w2 ⟨v2, g2, rfl, hm2⟩; rw [HT.out] at hm2 ⊢; have hm2 : Made byteE 5 _ _ _ g2 v2 x := hm2; obtain ⟨A2, c2, rfl, _, _⟩ := hm2.sp.form; have HM2 := hid hm2; obtain ⟨ex2, dx2, rfl⟩ := more_of hm2.low; clear hm2))
      try rw [Exit.noGoto_ret]
      go_ret3
      unfold AllR
      rw [HALL.out]
      exact ⟨_, g, rfl, HO.out.below (by repeat (first | (with_reducible exact Below.refl _ _) | (with_reducible exact bl_mm) | (with_reducible refine bl_dr ?_) | (with_reducible refine bl_drN ?_ _) | (with_reducible refine bl_al ?_ _) | (with_reducible refine bl_more ?_ _ _))), HB.out.trans ((show Below wr.heap.size wr (more wr ex2 dx2) from (by repeat (first | (with_reducible exact Below.refl _ _) | (with_reducible exact bl_mm) | (with_reducible refine bl_dr ?_) | (with_reducible refine bl_drN ?_ _) | (with_reducible refine bl_al ?_ _) | (with_reducible refine bl_more ?_ _ _)))).mono HB.out.size)⟩
end Go.Proofs.Ytgpcgndmdkgbdaa

/- Events read. -/
namespace Go.Proofs.Ytgpcgndmdkgbdaa
open Go.RowKit

theorem tries_any {w : World} {k : Int} : Calls Try.prog 87 #[.int .i64 k] w fun e w' => e = .returned (.bool (decide (3 < k))) ∧ w = w' := by
  cases h3 : decide (3 < k) with
  | false =>
    go_enter Try.func87, Try.ntmps87
    go_wp2
    go_ret
    exact ⟨rfl, rfl⟩
  | true =>
    go_enter Try.func87, Try.ntmps87
    go_wp2
    go_ret
    exact ⟨rfl, rfl⟩
theorem sread_len (bs : List Int) (a : Nat) : (sreadW bs a).1.length ≤ 255 := by
  unfold sreadW
  split
  · split
    · exact takes_len bs a
    · simp
  · simp
abbrev Ev := Int × Int × Int × List Int
/-- The number behind the kind, and the second one, if there is one. -/
def headE (bs : List Int) : Int × Int × Int × Int :=
  if (tkW bs 1 0 6).2.2 = 0 ∧ 3 < bs.headD 0 then ((tkW bs 1 0 6).1, (tkW bs (tkW bs 1 0 6).2.1.toNat 0 6).1, (tkW bs (tkW bs 1 0 6).2.1.toNat 0 6).2.1, (tkW bs (tkW bs 1 0 6).2.1.toNat 0 6).2.2)
  else ((tkW bs 1 0 6).1, 0, (tkW bs 1 0 6).2.1, (tkW bs 1 0 6).2.2)
/-- What is read of bytes. -/
def readE (bs : List Int) : Option Ev :=
  if bs = [] then none
  else if (headE bs).2.2.2 ≠ 0 then none
  else if (sreadW bs (headE bs).2.2.1.toNat).2.2 ≠ 0 ∨ (sreadW bs (headE bs).2.2.1.toNat).2.1 ≠ bs.length then none
  else if rightE (bs.headD 0) (headE bs).1 (headE bs).2.1 (sreadW bs (headE bs).2.2.1.toNat).1 = true then some (bs.headD 0, (headE bs).1, (headE bs).2.1, (sreadW bs (headE bs).2.2.1.toNat).1) else none
def ReadR : Option Ev → World → Ending → World → Prop
  | none, w, e, w' => e = .returned (.tuple #[evV 0 0 0 (.slice none 0 0), .int .i64 4]) ∧ Below w.heap.size w w'
  | some (k, i, t, st), w, e, w' => ∃ v g, e = .returned (.tuple #[evV k i t v, .int .i64 0]) ∧ Made intE 3 w.heap.size w w' g v st
theorem more_top {X Y : World} {e : Array Obj} {n g : Nat} (hs : X.heap.size = Y.heap.size) (hg : X.heap.size ≤ g) : (more X e n).heap[g]? = (more Y e n).heap[g]? := by
  simp only [more, Array.getElem?_append]
  rw [if_neg (by omega), if_neg (by omega), hs]
/-- What was made behind a world lies as well behind another one of its size. -/
theorem Made.top {α : Type} {d : Enc α} {E : TypeId} {X Y : World} {e : Array Obj} {n g : Nat} {v : Value} {xs : List α} (h : Made d E X.heap.size X (more X e n) g v xs) (hs : X.heap.size = Y.heap.size) : d.Spine E No g (more Y e n) v xs :=
  h.sp.step (fun _ hc => (more_top hs h.gN).symm.trans hc) (fun _ hk _ => hk.elim)
theorem Made.top2 {α : Type} {d : Enc α} {E : TypeId} {X Y w0 : World} {e e2 : Array Obj} {n n2 g N : Nat} {v : Value} {xs : List α} (h : Made d E X.heap.size X (more X e n) g v xs) (hs : X.heap.size = Y.heap.size) (hN : N ≤ X.heap.size) (hb : Below N w0 (more (more Y e n) e2 n2)) : Made d E N w0 (more (more Y e n) e2 n2) g v xs :=
  ⟨(h.top hs).step (fun _ hc => ((more_below (more Y e n) e2 n2).block g (Array.getElem?_eq_some_iff.1 hc).1).trans hc) (fun _ hk _ => hk.elim), Nat.le_trans hN h.gN, by simp [more_size]; omega, hb⟩
theorem readE_bad {bs : List Int} (h0 : bs ≠ []) (h : (headE bs).2.2.2 ≠ 0) : readE bs = none := by unfold readE; rw [if_neg h0, if_pos h]
theorem readE_bad2 {bs : List Int} {i t p : Int} {st : List Int} {n E : Int} (h0 : bs ≠ []) (h : headE bs = (i, t, p, 0)) (hs : sreadW bs p.toNat = (st, n, E)) (hE : E ≠ 0 ∨ n ≠ bs.length) : readE bs = none := by
  unfold readE
  rw [if_neg h0, h, hs, if_neg (by simp), if_pos hE]
theorem readE_check {bs : List Int} {i t p : Int} {st : List Int} (h0 : bs ≠ []) (h : headE bs = (i, t, p, 0)) (hs : sreadW bs p.toNat = (st, (bs.length : Int), (0 : Int))) {k : Int} (hk : bs.headD 0 = k) : readE bs = if rightE k i t st = true then some (k, i, t, st) else none := by
  unfold readE
  rw [if_neg h0, h, hs, if_neg (by simp), if_neg (by simp), hk]
set_option maxRecDepth 8000 in
set_option maxHeartbeats 4000000 in
theorem eread_any {w : World} {v : Value} {bs : List Int} {K : Nat → Prop} (h : byteE.Row K w v bs) (hbs : ∀ b ∈ bs, 0 ≤ b ∧ b < 256) (hl : bs.length ≤ 4000000000) : Calls Try.prog 62 #[v] w fun e w' => ReadR (readE bs) w e w' := by
  obtain ⟨A, c, rfl, _, _⟩ := h.form
  have HR := hid h
  have HBS := hid hbs
  have HL := hid hl
  by_cases h0 : bs = []
  · have HE : Hid (readE bs = none) := hid (by unfold readE; rw [if_pos h0])
    have hl0 : (bs.length : Int) = 0 := by rw [h0]; rfl
    clear h hbs hl h0
    go_enter Try.func62, Try.ntmps62
    go_wp2
    (try simp only [Exit.inBlock, Exit.then]); refine bodyPost_ret (v := .tuple #[evV 0 0 0 (.slice none 0 0), .int .i64 4]) (by simp [results, Try.results62]; go_simp) rfl ?_
    rw [HE.out]
    exact ⟨rfl, (by repeat (first | (with_reducible exact Below.refl _ _) | (with_reducible exact bl_mm) | (with_reducible refine bl_dr ?_) | (with_reducible refine bl_drN ?_ _) | (with_reducible refine bl_al ?_ _) | (with_reducible refine bl_more ?_ _ _)))⟩
  · have hpos : 0 < bs.length := List.length_pos_iff.2 h0
    have HA1 : Hid (1 ≤ bs.length) := hid hpos
    obtain ⟨b, o, rfl, _, hlt, hcell⟩ := row_byte h 0 hpos
    rw [Nat.add_zero] at hcell
    have hkb := hbs _ (List.getElem_mem hpos)
    obtain ⟨k, hk⟩ : ∃ k, (bs[0]'hpos) = k := ⟨_, rfl⟩
    have HHD : Hid (bs.headD 0 = k) := hid (by rw [← hk]; cases bs with | nil => exact absurd rfl h0 | cons a l => rfl)
    rw [hk] at hcell hkb
    obtain ⟨hk0, hkl⟩ := hkb
    have hl0 : ¬ (bs.length : Int) = 0 := by omega
    have hl1 : (0 : Int) < bs.length := by omega
    obtain ⟨i, p, E1, ht1⟩ : ∃ i p E1, tkW bs 1 0 6 = (i, p, E1) := ⟨_, _, _, rfl⟩
    have HT1 := hid ht1
    have HBN := hid h0
    have Mtake := hid trivial
    by_cases hE1 : E1 = 0
    · subst hE1
      obtain ⟨_, hp0, hpl⟩ := tk_ok _ _ _ _ ht1
      obtain ⟨q, rfl⟩ : ∃ q : Nat, p = q := ⟨p.toNat, by omega⟩
      have hql : q ≤ bs.length := by omega
      by_cases h3 : 3 < k
      · have HT3 : Hid (decide (3 < k) = true) := hid (decide_eq_true h3)
        have HA2 := hid hql
        obtain ⟨t, p2, E2, ht2⟩ : ∃ t p2 E2, tkW bs q 0 6 = (t, p2, E2) := ⟨_, _, _, rfl⟩
        have HT2 := hid ht2
        have Mtake2 := hid trivial
        by_cases hE2 : E2 = 0
        · subst hE2
          obtain ⟨_, hp0, hpl⟩ := tk_ok _ _ _ _ ht2
          have HHE : Hid (headE bs = (i, t, p2, 0)) := hid (by unfold headE; rw [ht1, HHD.out]; simp only [true_and]; rw [if_pos h3]; simp only [Int.toNat_natCast]; rw [ht2])
          obtain ⟨q2, rfl⟩ : ∃ q : Nat, p2 = q := ⟨p2.toNat, by omega⟩
          have HQ : Hid (q2 ≤ bs.length) := hid (by omega)
          clear h hbs hl h0 hpos hk ht1 hql h3 ht2 hp0 hpl
          obtain ⟨st, n, E3, hs3⟩ : ∃ st n E3, sreadW bs q2 = (st, n, E3) := ⟨_, _, _, rfl⟩
          have HS := hid hs3
          by_cases hE3 : E3 = 0
          · subst hE3
            by_cases hn : n = bs.length
            · subst hn
              have HSL : Hid (st.length ≤ 4000000000) := hid (by have := sread_len bs q2; rw [hs3] at this; simp only at this; omega)
              have hE := readE_check HBN.out HHE.out hs3 HHD.out
              by_cases hc : rightE k i t st = true
              · rw [if_pos hc] at hE
                have HC : Hid ((if rightE k i t st = true then (0 : Int) else 2) = 0) := hid (if_pos hc)
                have HE := hid hE
                clear hs3
                go_enter Try.func62, Try.ntmps62
                go_wp2_with (first | (go_at_call 86; clear Mtake; refine (take_any (HR.out.below (by repeat (first | (with_reducible exact Below.refl _ _) | (with_reducible exact bl_mm) | (with_reducible refine bl_dr ?_) | (with_reducible refine bl_drN ?_ _) | (with_reducible refine bl_al ?_ _) | (with_reducible refine bl_more ?_ _ _)))) HBS.out HA1.out HL.out).mono ?_; rintro e w1 ⟨rfl, hb1⟩; obtain ⟨ex1, dx1, rfl⟩ := more_of hb1; clear hb1; rw [HT1.out]) | (go_at_call 87; refine tries_any.mono ?_; rintro e w2 ⟨rfl, rfl⟩; rw [HT3.out]) | (go_at_call 86; clear Mtake2; refine (take_any (HR.out.below (by repeat (first | (with_reducible exact Below.refl _ _) | (with_reducible exact bl_mm) | (with_reducible refine bl_dr ?_) | (with_reducible refine bl_drN ?_ _) | (with_reducible refine bl_al ?_ _) | (with_reducible refine bl_more ?_ _ _)))) HBS.out HA2.out HL.out).mono ?_; rintro e w1 ⟨rfl, hb1⟩; obtain ⟨ex2, dx2, rfl⟩ := more_of hb1; clear hb1; rw [HT2.out]) | (go_at_call 88; refine (sread_any (HR.out.below (by repeat (first | (with_reducible exact Below.refl _ _) | (with_reducible exact bl_mm) | (with_reducible refine bl_dr ?_) | (with_reducible refine bl_drN ?_ _) | (with_reducible refine bl_al ?_ _) | (with_reducible refine bl_more ?_ _ _)))) HBS.out HQ.out HL.out).mono ?_; rintro e w3 ⟨v3, g3, rfl, hm3⟩; rw [HS.out] at hm3 ⊢; have hm3 : Made intE 3 _ _ _ g3 v3 st := hm3; obtain ⟨A3, c3, rfl, _, _⟩ := hm3.sp.form; have HM3 := hid hm3; obtain ⟨ex3, dx3, rfl⟩ := more_of hm3.low; clear hm3) | (go_at_call 70; refine (echeck_any (st := st) (K := fun _ => True) ((HM3.out.top (Y := _) (by simp [more_size])).row (fun _ h _ => h.elim) trivial) HSL.out).mono ?_; rintro e w4 ⟨rfl, hb4⟩; obtain ⟨ex4, dx4, rfl⟩ := more_of hb4; clear hb4; rw [HC.out]))
                (try simp only [Exit.inBlock, Exit.then]); refine bodyPost_ret (v := .tuple #[evV k i t (.slice A3 st.length c3), .int .i64 0]) (by simp [results, Try.results62]; go_simp) rfl ?_
                rw [HE.out]
                exact ⟨_, g3, rfl, HM3.out.top2 (by simp [more_size]) (by simp [more_size]; omega) (by repeat (first | (with_reducible exact Below.refl _ _) | (with_reducible exact bl_mm) | (with_reducible refine bl_dr ?_) | (with_reducible refine bl_drN ?_ _) | (with_reducible refine bl_al ?_ _) | (with_reducible refine bl_more ?_ _ _)))⟩
              · rw [if_neg hc] at hE
                have HC : Hid ((if rightE k i t st = true then (0 : Int) else 2) = 2) := hid (if_neg hc)
                have HE := hid hE
                clear hs3
                go_enter Try.func62, Try.ntmps62
                go_wp2_with (first | (go_at_call 86; clear Mtake; refine (take_any (HR.out.below (by repeat (first | (with_reducible exact Below.refl _ _) | (with_reducible exact bl_mm) | (with_reducible refine bl_dr ?_) | (with_reducible refine bl_drN ?_ _) | (with_reducible refine bl_al ?_ _) | (with_reducible refine bl_more ?_ _ _)))) HBS.out HA1.out HL.out).mono ?_; rintro e w1 ⟨rfl, hb1⟩; obtain ⟨ex1, dx1, rfl⟩ := more_of hb1; clear hb1; rw [HT1.out]) | (go_at_call 87; refine tries_any.mono ?_; rintro e w2 ⟨rfl, rfl⟩; rw [HT3.out]) | (go_at_call 86; clear Mtake2; refine (take_any (HR.out.below (by repeat (first | (with_reducible exact Below.refl _ _) | (with_reducible exact bl_mm) | (with_reducible refine bl_dr ?_) | (with_reducible refine bl_drN ?_ _) | (with_reducible refine bl_al ?_ _) | (with_reducible refine bl_more ?_ _ _)))) HBS.out HA2.out HL.out).mono ?_; rintro e w1 ⟨rfl, hb1⟩; obtain ⟨ex2, dx2, rfl⟩ := more_of hb1; clear hb1; rw [HT2.out]) | (go_at_call 88; refine (sread_any (HR.out.below (by repeat (first | (with_reducible exact Below.refl _ _) | (with_reducible exact bl_mm) | (with_reducible refine bl_dr ?_) | (with_reducible refine bl_drN ?_ _) | (with_reducible refine bl_al ?_ _) | (with_reducible refine bl_more ?_ _ _)))) HBS.out HQ.out HL.out).mono ?_; rintro e w3 ⟨v3, g3, rfl, hm3⟩; rw [HS.out] at hm3 ⊢; have hm3 : Made intE 3 _ _ _ g3 v3 st := hm3; obtain ⟨A3, c3, rfl, _, _⟩ := hm3.sp.form; have HM3 := hid hm3; obtain ⟨ex3, dx3, rfl⟩ := more_of hm3.low; clear hm3) | (go_at_call 70; refine (echeck_any (st := st) (K := fun _ => True) ((HM3.out.top (Y := _) (by simp [more_size])).row (fun _ h _ => h.elim) trivial) HSL.out).mono ?_; rintro e w4 ⟨rfl, hb4⟩; obtain ⟨ex4, dx4, rfl⟩ := more_of hb4; clear hb4; rw [HC.out]))
                (try simp only [Exit.inBlock, Exit.then]); refine bodyPost_ret (v := .tuple #[evV 0 0 0 (.slice none 0 0), .int .i64 4]) (by simp [results, Try.results62]; go_simp) rfl ?_
                rw [HE.out]
                exact ⟨rfl, (by repeat (first | (with_reducible exact Below.refl _ _) | (with_reducible exact bl_mm) | (with_reducible refine bl_dr ?_) | (with_reducible refine bl_drN ?_ _) | (with_reducible refine bl_al ?_ _) | (with_reducible refine bl_more ?_ _ _)))⟩
            · have HE := hid (readE_bad2 HBN.out HHE.out hs3 (.inr hn))
              have hnb : (n != bs.length) = true := by simpa using hn
              clear hs3
              clear hn
              go_enter Try.func62, Try.ntmps62
              go_wp2_with (first | (go_at_call 86; clear Mtake; refine (take_any (HR.out.below (by repeat (first | (with_reducible exact Below.refl _ _) | (with_reducible exact bl_mm) | (with_reducible refine bl_dr ?_) | (with_reducible refine bl_drN ?_ _) | (with_reducible refine bl_al ?_ _) | (with_reducible refine bl_more ?_ _ _)))) HBS.out HA1.out HL.out).mono ?_; rintro e w1 ⟨rfl, hb1⟩; obtain ⟨ex1, dx1, rfl⟩ := more_of hb1; clear hb1; rw [HT1.out]) | (go_at_call 87; refine tries_any.mono ?_; rintro e w2 ⟨rfl, rfl⟩; rw [HT3.out]) | (go_at_call 86; clear Mtake2; refine (take_any (HR.out.below (by repeat (first | (with_reducible exact Below.refl _ _) | (with_reducible exact bl_mm) | (with_reducible refine bl_dr ?_) | (with_reducible refine bl_drN ?_ _) | (with_reducible refine bl_al ?_ _) | (with_reducible refine bl_more ?_ _ _)))) HBS.out HA2.out HL.out).mono ?_; rintro e w1 ⟨rfl, hb1⟩; obtain ⟨ex2, dx2, rfl⟩ := more_of hb1; clear hb1; rw [HT2.out]) | (go_at_call 88; refine (sread_any (HR.out.below (by repeat (first | (with_reducible exact Below.refl _ _) | (with_reducible exact bl_mm) | (with_reducible refine bl_dr ?_) | (with_reducible refine bl_drN ?_ _) | (with_reducible refine bl_al ?_ _) | (with_reducible refine bl_more ?_ _ _)))) HBS.out HQ.out HL.out).mono ?_; rintro e w3 ⟨v3, g3, rfl, hm3⟩; rw [HS.out] at hm3 ⊢; have hm3 : Made intE 3 _ _ _ g3 v3 st := hm3; obtain ⟨A3, c3, rfl, _, _⟩ := hm3.sp.form; have HM3 := hid hm3; obtain ⟨ex3, dx3, rfl⟩ := more_of hm3.low; clear hm3))
              (try simp only [Exit.inBlock, Exit.then]); refine bodyPost_ret (v := .tuple #[evV 0 0 0 (.slice none 0 0), .int .i64 4]) (by simp [results, Try.results62]; go_simp) rfl ?_
              rw [HE.out]
              exact ⟨rfl, (by repeat (first | (with_reducible exact Below.refl _ _) | (with_reducible exact bl_mm) | (with_reducible refine bl_dr ?_) | (with_reducible refine bl_drN ?_ _) | (with_reducible refine bl_al ?_ _) | (with_reducible refine bl_more ?_ _ _)))⟩
          · have HE := hid (readE_bad2 HBN.out HHE.out hs3 (.inl hE3))
            have hEb : (E3 != 0) = true := by simpa using hE3
            clear hs3
            clear hE3
            go_enter Try.func62, Try.ntmps62
            go_wp2_with (first | (go_at_call 86; clear Mtake; refine (take_any (HR.out.below (by repeat (first | (with_reducible exact Below.refl _ _) | (with_reducible exact bl_mm) | (with_reducible refine bl_dr ?_) | (with_reducible refine bl_drN ?_ _) | (with_reducible refine bl_al ?_ _) | (with_reducible refine bl_more ?_ _ _)))) HBS.out HA1.out HL.out).mono ?_; rintro e w1 ⟨rfl, hb1⟩; obtain ⟨ex1, dx1, rfl⟩ := more_of hb1; clear hb1; rw [HT1.out]) | (go_at_call 87; refine tries_any.mono ?_; rintro e w2 ⟨rfl, rfl⟩; rw [HT3.out]) | (go_at_call 86; clear Mtake2; refine (take_any (HR.out.below (by repeat (first | (with_reducible exact Below.refl _ _) | (with_reducible exact bl_mm) | (with_reducible refine bl_dr ?_) | (with_reducible refine bl_drN ?_ _) | (with_reducible refine bl_al ?_ _) | (with_reducible refine bl_more ?_ _ _)))) HBS.out HA2.out HL.out).mono ?_; rintro e w1 ⟨rfl, hb1⟩; obtain ⟨ex2, dx2, rfl⟩ := more_of hb1; clear hb1; rw [HT2.out]) | (go_at_call 88; refine (sread_any (HR.out.below (by repeat (first | (with_reducible exact Below.refl _ _) | (with_reducible exact bl_mm) | (with_reducible refine bl_dr ?_) | (with_reducible refine bl_drN ?_ _) | (with_reducible refine bl_al ?_ _) | (with_reducible refine bl_more ?_ _ _)))) HBS.out HQ.out HL.out).mono ?_; rintro e w3 ⟨v3, g3, rfl, hm3⟩; rw [HS.out] at hm3 ⊢; have hm3 : Made intE 3 _ _ _ g3 v3 st := hm3; obtain ⟨A3, c3, rfl, _, _⟩ := hm3.sp.form; have HM3 := hid hm3; obtain ⟨ex3, dx3, rfl⟩ := more_of hm3.low; clear hm3))
            (try simp only [Exit.inBlock, Exit.then]); refine bodyPost_ret (v := .tuple #[evV 0 0 0 (.slice none 0 0), .int .i64 4]) (by simp [results, Try.results62]; go_simp) rfl ?_
            rw [HE.out]
            exact ⟨rfl, (by repeat (first | (with_reducible exact Below.refl _ _) | (with_reducible exact bl_mm) | (with_reducible refine bl_dr ?_) | (with_reducible refine bl_drN ?_ _) | (with_reducible refine bl_al ?_ _) | (with_reducible refine bl_more ?_ _ _)))⟩
        · have HE : Hid (readE bs = none) := hid (readE_bad h0 (by unfold headE; rw [ht1, HHD.out]; simp only [true_and]; rw [if_pos h3]; simp only [Int.toNat_natCast]; rw [ht2]; exact hE2))
          have hEb : (E2 != 0) = true := by simpa using hE2
          have hEc : (E2 == 0) = false := by simpa using hE2
          clear h hbs hl h0 hpos hk ht1 hql h3 ht2 hp0 hpl hE2
          go_enter Try.func62, Try.ntmps62
          go_wp2_with (first | (go_at_call 86; clear Mtake; refine (take_any (HR.out.below (by repeat (first | (with_reducible exact Below.refl _ _) | (with_reducible exact bl_mm) | (with_reducible refine bl_dr ?_) | (with_reducible refine bl_drN ?_ _) | (with_reducible refine bl_al ?_ _) | (with_reducible refine bl_more ?_ _ _)))) HBS.out HA1.out HL.out).mono ?_; rintro e w1 ⟨rfl, hb1⟩; obtain ⟨ex1, dx1, rfl⟩ := more_of hb1; clear hb1; rw [HT1.out]) | (go_at_call 87; refine tries_any.mono ?_; rintro e w2 ⟨rfl, rfl⟩; rw [HT3.out]) | (go_at_call 86; clear Mtake2; refine (take_any (HR.out.below (by repeat (first | (with_reducible exact Below.refl _ _) | (with_reducible exact bl_mm) | (with_reducible refine bl_dr ?_) | (with_reducible refine bl_drN ?_ _) | (with_reducible refine bl_al ?_ _) | (with_reducible refine bl_more ?_ _ _)))) HBS.out HA2.out HL.out).mono ?_; rintro e w1 ⟨rfl, hb1⟩; obtain ⟨ex2, dx2, rfl⟩ := more_of hb1; clear hb1; rw [HT2.out]))
          (try simp only [Exit.inBlock, Exit.then]); refine bodyPost_ret (v := .tuple #[evV 0 0 0 (.slice none 0 0), .int .i64 4]) (by simp [results, Try.results62]; go_simp) rfl ?_
          rw [HE.out]
          exact ⟨rfl, (by repeat (first | (with_reducible exact Below.refl _ _) | (with_reducible exact bl_mm) | (with_reducible refine bl_dr ?_) | (with_reducible refine bl_drN ?_ _) | (with_reducible refine bl_al ?_ _) | (with_reducible refine bl_more ?_ _ _)))⟩
      · have HT3 : Hid (decide (3 < k) = false) := hid (decide_eq_false h3)
        have HQ := hid hql
        have HHE : Hid (headE bs = (i, 0, (q : Int), 0)) := hid (by unfold headE; rw [ht1, HHD.out]; simp only [true_and]; rw [if_neg h3])
        clear h hbs hl h0 hpos hk ht1 hql h3 hp0 hpl
        obtain ⟨st, n, E3, hs3⟩ : ∃ st n E3, sreadW bs q = (st, n, E3) := ⟨_, _, _, rfl⟩
        have HS := hid hs3
        by_cases hE3 : E3 = 0
        · subst hE3
          by_cases hn : n = bs.length
          · subst hn
            have HSL : Hid (st.length ≤ 4000000000) := hid (by have := sread_len bs q; rw [hs3] at this; simp only at this; omega)
            have hE := readE_check HBN.out HHE.out hs3 HHD.out
            by_cases hc : rightE k i 0 st = true
            · rw [if_pos hc] at hE
              have HC : Hid ((if rightE k i 0 st = true then (0 : Int) else 2) = 0) := hid (if_pos hc)
              have HE := hid hE
              clear hs3
              go_enter Try.func62, Try.ntmps62
              go_wp2_with (first | (go_at_call 86; clear Mtake; refine (take_any (HR.out.below (by repeat (first | (with_reducible exact Below.refl _ _) | (with_reducible exact bl_mm) | (with_reducible refine bl_dr ?_) | (with_reducible refine bl_drN ?_ _) | (with_reducible refine bl_al ?_ _) | (with_reducible refine bl_more ?_ _ _)))) HBS.out HA1.out HL.out).mono ?_; rintro e w1 ⟨rfl, hb1⟩; obtain ⟨ex1, dx1, rfl⟩ := more_of hb1; clear hb1; rw [HT1.out]) | (go_at_call 87; refine tries_any.mono ?_; rintro e w2 ⟨rfl, rfl⟩; rw [HT3.out]) | (go_at_call 88; refine (sread_any (HR.out.below (by repeat (first | (with_reducible exact Below.refl _ _) | (with_reducible exact bl_mm) | (with_reducible refine bl_dr ?_) | (with_reducible refine bl_drN ?_ _) | (with_reducible refine bl_al ?_ _) | (with_reducible refine bl_more ?_ _ _)))) HBS.out HQ.out HL.out).mono ?_; rintro e w3 ⟨v3, g3, rfl, hm3⟩; rw [HS.out] at hm3 ⊢; have hm3 : Made intE 3 _ _ _ g3 v3 st := hm3; obtain ⟨A3, c3, rfl, _, _⟩ := hm3.sp.form; have HM3 := hid hm3; obtain ⟨ex3, dx3, rfl⟩ := more_of hm3.low; clear hm3) | (go_at_call 70; refine (echeck_any (st := st) (K := fun _ => True) ((HM3.out.top (Y := _) (by simp [more_size])).row (fun _ h _ => h.elim) trivial) HSL.out).mono ?_; rintro e w4 ⟨rfl, hb4⟩; obtain ⟨ex4, dx4, rfl⟩ := more_of hb4; clear hb4; rw [HC.out]))
              (try simp only [Exit.inBlock, Exit.then]); refine bodyPost_ret (v := .tuple #[evV k i 0 (.slice A3 st.length c3), .int .i64 0]) (by simp [results, Try.results62]; go_simp) rfl ?_
              rw [HE.out]
              exact ⟨_, g3, rfl, HM3.out.top2 (by simp [more_size]) (by simp [more_size]; omega) (by repeat (first | (with_reducible exact Below.refl _ _) | (with_reducible exact bl_mm) | (with_reducible refine bl_dr ?_) | (with_reducible refine bl_drN ?_ _) | (with_reducible refine bl_al ?_ _) | (with_reducible refine bl_more ?_ _ _)))⟩
            · rw [if_neg hc] at hE
              have HC : Hid ((if rightE k i 0 st = true then (0 : Int) else 2) = 2) := hid (if_neg hc)
              have HE := hid hE
              clear hs3
              go_enter Try.func62, Try.ntmps62
              go_wp2_with (first | (go_at_call 86; clear Mtake; refine (take_any (HR.out.below (by repeat (first | (with_reducible exact Below.refl _ _) | (with_reducible exact bl_mm) | (with_reducible refine bl_dr ?_) | (with_reducible refine bl_drN ?_ _) | (with_reducible refine bl_al ?_ _) | (with_reducible refine bl_more ?_ _ _)))) HBS.out HA1.out HL.out).mono ?_; rintro e w1 ⟨rfl, hb1⟩; obtain ⟨ex1, dx1, rfl⟩ := more_of hb1; clear hb1; rw [HT1.out]) | (go_at_call 87; refine tries_any.mono ?_; rintro e w2 ⟨rfl, rfl⟩; rw [HT3.out]) | (go_at_call 88; refine (sread_any (HR.out.below (by repeat (first | (with_reducible exact Below.refl _ _) | (with_reducible exact bl_mm) | (with_reducible refine bl_dr ?_) | (with_reducible refine bl_drN ?_ _) | (with_reducible refine bl_al ?_ _) | (with_reducible refine bl_more ?_ _ _)))) HBS.out HQ.out HL.out).mono ?_; rintro e w3 ⟨v3, g3, rfl, hm3⟩; rw [HS.out] at hm3 ⊢; have hm3 : Made intE 3 _ _ _ g3 v3 st := hm3; obtain ⟨A3, c3, rfl, _, _⟩ := hm3.sp.form; have HM3 := hid hm3; obtain ⟨ex3, dx3, rfl⟩ := more_of hm3.low; clear hm3) | (go_at_call 70; refine (echeck_any (st := st) (K := fun _ => True) ((HM3.out.top (Y := _) (by simp [more_size])).row (fun _ h _ => h.elim) trivial) HSL.out).mono ?_; rintro e w4 ⟨rfl, hb4⟩; obtain ⟨ex4, dx4, rfl⟩ := more_of hb4; clear hb4; rw [HC.out]))
              (try simp only [Exit.inBlock, Exit.then]); refine bodyPost_ret (v := .tuple #[evV 0 0 0 (.slice none 0 0), .int .i64 4]) (by simp [results, Try.results62]; go_simp) rfl ?_
              rw [HE.out]
              exact ⟨rfl, (by repeat (first | (with_reducible exact Below.refl _ _) | (with_reducible exact bl_mm) | (with_reducible refine bl_dr ?_) | (with_reducible refine bl_drN ?_ _) | (with_reducible refine bl_al ?_ _) | (with_reducible refine bl_more ?_ _ _)))⟩
          · have HE := hid (readE_bad2 HBN.out HHE.out hs3 (.inr hn))
            have hnb : (n != bs.length) = true := by simpa using hn
            clear hs3
            clear hn
            go_enter Try.func62, Try.ntmps62
            go_wp2_with (first | (go_at_call 86; clear Mtake; refine (take_any (HR.out.below (by repeat (first | (with_reducible exact Below.refl _ _) | (with_reducible exact bl_mm) | (with_reducible refine bl_dr ?_) | (with_reducible refine bl_drN ?_ _) | (with_reducible refine bl_al ?_ _) | (with_reducible refine bl_more ?_ _ _)))) HBS.out HA1.out HL.out).mono ?_; rintro e w1 ⟨rfl, hb1⟩; obtain ⟨ex1, dx1, rfl⟩ := more_of hb1; clear hb1; rw [HT1.out]) | (go_at_call 87; refine tries_any.mono ?_; rintro e w2 ⟨rfl, rfl⟩; rw [HT3.out]) | (go_at_call 88; refine (sread_any (HR.out.below (by repeat (first | (with_reducible exact Below.refl _ _) | (with_reducible exact bl_mm) | (with_reducible refine bl_dr ?_) | (with_reducible refine bl_drN ?_ _) | (with_reducible refine bl_al ?_ _) | (with_reducible refine bl_more ?_ _ _)))) HBS.out HQ.out HL.out).mono ?_; rintro e w3 ⟨v3, g3, rfl, hm3⟩; rw [HS.out] at hm3 ⊢; have hm3 : Made intE 3 _ _ _ g3 v3 st := hm3; obtain ⟨A3, c3, rfl, _, _⟩ := hm3.sp.form; have HM3 := hid hm3; obtain ⟨ex3, dx3, rfl⟩ := more_of hm3.low; clear hm3))
            (try simp only [Exit.inBlock, Exit.then]); refine bodyPost_ret (v := .tuple #[evV 0 0 0 (.slice none 0 0), .int .i64 4]) (by simp [results, Try.results62]; go_simp) rfl ?_
            rw [HE.out]
            exact ⟨rfl, (by repeat (first | (with_reducible exact Below.refl _ _) | (with_reducible exact bl_mm) | (with_reducible refine bl_dr ?_) | (with_reducible refine bl_drN ?_ _) | (with_reducible refine bl_al ?_ _) | (with_reducible refine bl_more ?_ _ _)))⟩
        · have HE := hid (readE_bad2 HBN.out HHE.out hs3 (.inl hE3))
          have hEb : (E3 != 0) = true := by simpa using hE3
          clear hs3
          clear hE3
          go_enter Try.func62, Try.ntmps62
          go_wp2_with (first | (go_at_call 86; clear Mtake; refine (take_any (HR.out.below (by repeat (first | (with_reducible exact Below.refl _ _) | (with_reducible exact bl_mm) | (with_reducible refine bl_dr ?_) | (with_reducible refine bl_drN ?_ _) | (with_reducible refine bl_al ?_ _) | (with_reducible refine bl_more ?_ _ _)))) HBS.out HA1.out HL.out).mono ?_; rintro e w1 ⟨rfl, hb1⟩; obtain ⟨ex1, dx1, rfl⟩ := more_of hb1; clear hb1; rw [HT1.out]) | (go_at_call 87; refine tries_any.mono ?_; rintro e w2 ⟨rfl, rfl⟩; rw [HT3.out]) | (go_at_call 88; refine (sread_any (HR.out.below (by repeat (first | (with_reducible exact Below.refl _ _) | (with_reducible exact bl_mm) | (with_reducible refine bl_dr ?_) | (with_reducible refine bl_drN ?_ _) | (with_reducible refine bl_al ?_ _) | (with_reducible refine bl_more ?_ _ _)))) HBS.out HQ.out HL.out).mono ?_; rintro e w3 ⟨v3, g3, rfl, hm3⟩; rw [HS.out] at hm3 ⊢; have hm3 : Made intE 3 _ _ _ g3 v3 st := hm3; obtain ⟨A3, c3, rfl, _, _⟩ := hm3.sp.form; have HM3 := hid hm3; obtain ⟨ex3, dx3, rfl⟩ := more_of hm3.low; clear hm3))
          (try simp only [Exit.inBlock, Exit.then]); refine bodyPost_ret (v := .tuple #[evV 0 0 0 (.slice none 0 0), .int .i64 4]) (by simp [results, Try.results62]; go_simp) rfl ?_
          rw [HE.out]
          exact ⟨rfl, (by repeat (first | (with_reducible exact Below.refl _ _) | (with_reducible exact bl_mm) | (with_reducible refine bl_dr ?_) | (with_reducible refine bl_drN ?_ _) | (with_reducible refine bl_al ?_ _) | (with_reducible refine bl_more ?_ _ _)))⟩
    · have HE : Hid (readE bs = none) := hid (by unfold readE headE; rw [if_neg h0, ht1]; simp only [hE1, false_and, if_false]; rw [if_pos (by simpa using hE1)])
      have hEb : (E1 != 0) = true := by simpa using hE1
      have hEc : (E1 == 0) = false := by simpa using hE1
      have hEd : decide (E1 = 0) = false := by simpa using hE1
      clear h hbs hl h0 hpos hk ht1 hE1
      go_enter Try.func62, Try.ntmps62
      go_wp2_with (first | (go_at_call 86; clear Mtake; refine (take_any (HR.out.below (by repeat (first | (with_reducible exact Below.refl _ _) | (with_reducible exact bl_mm) | (with_reducible refine bl_dr ?_) | (with_reducible refine bl_drN ?_ _) | (with_reducible refine bl_al ?_ _) | (with_reducible refine bl_more ?_ _ _)))) HBS.out HA1.out HL.out).mono ?_; rintro e w1 ⟨rfl, hb1⟩; obtain ⟨ex1, dx1, rfl⟩ := more_of hb1; clear hb1; rw [HT1.out]))
      (try simp only [Exit.inBlock, Exit.then]); refine bodyPost_ret (v := .tuple #[evV 0 0 0 (.slice none 0 0), .int .i64 4]) (by simp [results, Try.results62]; go_simp) rfl ?_
      rw [HE.out]
      exact ⟨rfl, (by repeat (first | (with_reducible exact Below.refl _ _) | (with_reducible exact bl_mm) | (with_reducible refine bl_dr ?_) | (with_reducible refine bl_drN ?_ _) | (with_reducible refine bl_al ?_ _) | (with_reducible refine bl_more ?_ _ _)))⟩
end Go.Proofs.Ytgpcgndmdkgbdaa

/- A branch's log, gone through: the iterator. -/
namespace Go.Proofs.Ytgpcgndmdkgbdaa
open Go.RowKit Go.Shelf
attribute [local go_sem] Oper.semAt_some

/-- What comes next of a log. -/
def nextF (bs : List Int) (i n : Int) (k a : Nat) : Option (Ev × Nat) :=
  if (takeF bs a).2.2 = 0 then
    match readE (takeF bs a).1 with
    | none => none
    | some e => if (e.2.2.2.length : Int) = n ∧ (if 0 ≤ i then e.2.2.2.getD i.toNat 0 else 0) = (k : Int) then some (e, (takeF bs a).2.1) else none
  else none
/-- What is whole of a log: the events, and where each ends. -/
def logF (bs : List Int) (i n : Int) : Nat → Nat → Nat → List (Ev × Nat)
  | 0, _, _ => []
  | f + 1, k, a => match nextF bs i n k a with
    | none => []
    | some (e, to) => (e, to) :: logF bs i n f (k + 1) to
def logW (bs : List Int) (i n : Int) : List (Ev × Nat) := logF bs i n (bs.length + 1) 1 0
/-- What a round is handed. -/
structure Fo where
  k : Int
  i : Int
  t : Int
  A : Option Addr
  n : Nat
  c : Nat
  to : Int
def Fo.enc (x : Fo) : Array Value := #[.agg #[.int .i64 x.k, .int .i64 x.i, .int .i64 x.t, .slice x.A x.n x.c, .int .i64 x.to]]
/-- .. is the event that comes at s. -/
def FoAt (N : Nat) (L : List (Ev × Nat)) (s : Nat) (x : Fo) (W : World) : Prop :=
  ∃ st to g, L[s]? = some ((x.k, x.i, x.t, st), to) ∧ x.to = to ∧ intE.Spine 3 No g W (.slice x.A x.n x.c) st ∧ N ≤ g
theorem nextF_is {bs : List Int} {i n : Int} {k a to : Nat} {x : List Int} {e : Ev} (ht : takeF bs a = (x, to, 0)) (hr : readE x = some e) : nextF bs i n k a = if (e.2.2.2.length : Int) = n ∧ (if 0 ≤ i then e.2.2.2.getD i.toNat 0 else 0) = (k : Int) then some (e, to) else none := by
  unfold nextF
  rw [ht]
  simp only [if_true]
  rw [hr]
theorem nextF_no {bs : List Int} {i n : Int} {k a to : Nat} {x : List Int} (ht : takeF bs a = (x, to, 0)) (hr : readE x = none) : nextF bs i n k a = none := by
  unfold nextF
  rw [ht]
  simp only [if_true]
  rw [hr]
theorem nextF_end {bs : List Int} {i n : Int} {k a to : Nat} {x : List Int} {E : Int} (ht : takeF bs a = (x, to, E)) (hE : E ≠ 0) : nextF bs i n k a = none := by
  unfold nextF
  rw [ht]
  simp only [if_neg hE]
theorem logF_succ (bs : List Int) (i n : Int) (f k a : Nat) : logF bs i n (f + 1) k a = match nextF bs i n k a with | none => [] | some (e, to) => (e, to) :: logF bs i n f (k + 1) to := rfl
theorem log_end {bs : List Int} {i n : Int} {L : List (Ev × Nat)} {j k a : Nat} (hlog : L.drop j = logF bs i n (bs.length + 1 - j) k a) (hja : j ≤ a) (ha : a ≤ bs.length) (hj : j ≤ L.length) (hnx : nextF bs i n k a = none) : j = L.length := by
  rw [show bs.length + 1 - j = (bs.length - j) + 1 by omega, logF_succ, hnx] at hlog
  have := congrArg List.length hlog
  simp at this
  omega
theorem log_next {bs : List Int} {i n : Int} {L : List (Ev × Nat)} {j k a to : Nat} {e : Ev} (hlog : L.drop j = logF bs i n (bs.length + 1 - j) k a) (hja : j ≤ a) (ha : a ≤ bs.length) (hnx : nextF bs i n k a = some (e, to)) :
    L[j]? = some (e, to) ∧ L.drop (j + 1) = logF bs i n (bs.length + 1 - (j + 1)) (k + 1) to ∧ j + 1 ≤ L.length := by
  rw [show bs.length + 1 - j = (bs.length - j) + 1 by omega, logF_succ, hnx] at hlog
  simp only at hlog
  have h1 : L[j]? = some (e, to) := by rw [← List.head?_drop, hlog]; rfl
  refine ⟨h1, ?_, (List.getElem?_eq_some_iff.1 h1).1⟩
  rw [← List.tail_drop, hlog, show bs.length + 1 - (j + 1) = bs.length - j by omega]
  rfl
set_option maxRecDepth 8000 in
set_option maxHeartbeats 4000000 in
theorem events_at {m bB bN bI : Nat} {bs : List Int} {i n : Int} {v : Value} {K : Nat → Prop} {w : World} (hm : 1 ≤ m) (h : byteE.Row K w v bs) (hbs : ∀ b ∈ bs, 0 ≤ b ∧ b < 256) (hl : bs.length ≤ 4000000000) (hK : ∀ b, K b → b < w.heap.size)
    (hB : w.cell? ⟨bB, 0, none⟩ = some v) (hN : w.cell? ⟨bN, 0, none⟩ = some (.int .i64 n)) (hI : w.cell? ⟨bI, 0, none⟩ = some (.int .i64 i)) (hB0 : bB < w.heap.size) (hN0 : bN < w.heap.size) (hI0 : bI < w.heap.size) :
    SeqAt Fence.wide m Try.prog 60 #[.pointer (some ⟨bB, 0, none⟩), .pointer (some ⟨bN, 0, none⟩), .pointer (some ⟨bI, 0, none⟩)] (fun _ => False) Fo.enc (FoAt w.heap.size (logW bs i n)) (· + 1) (KeepT (fun b => b = bB ∨ b = bN ∨ b = bI ∨ K b))
      (fun s => s = (logW bs i n).length) (fun s => 0 < s ∧ s ≤ (logW bs i n).length) 0 w := by
  intro l J Jx W hW hJ hJx hY h0
  obtain ⟨A, c, rfl, hcl, _⟩ := h.form
  have c0 := (hW.cell (p := ⟨bB, 0, none⟩) hB0).trans hB
  have c1 := (hW.cell (p := ⟨bN, 0, none⟩) hN0).trans hN
  have c2 := (hW.cell (p := ⟨bI, 0, none⟩) hI0).trans hI
  have hR0 := h.below hW
  refine callsIn_of_wp Try.func60 rfl trivial ?_ rfl
  simp only [Try.ntmps60, List.size_toArray, List.length_cons, List.length_nil, Nat.reduceAdd, Nat.reduceSub, Array.replicate_succ, Array.replicate_zero, List.push_toArray, List.append_toArray, List.nil_append, List.cons_append]
  gi_wp2
  gi_loopw [5, 6] (fun va vk wr => ∃ a j k : Nat, va = .int .i64 a ∧ vk = .int .i64 (k : Int) ∧ k = j + 1 ∧ a ≤ bs.length ∧ j ≤ a ∧ j ≤ (logW bs i n).length ∧ (logW bs i n).drop j = logF bs i n (bs.length + 1 - j) k a ∧ J j wr ∧ KeepT (fun b => b = bB ∨ b = bN ∨ b = bI ∨ K b) W wr) (fun va _ _ => bs.length - (intOf va).toNat)
  case atStart => exact ⟨0, 0, 1, rfl, rfl, rfl, Nat.zero_le _, Nat.le_refl _, Nat.zero_le _, rfl, h0, KeepT.refl _ _⟩
  case round =>
    obtain ⟨a, j, k, rfl, rfl, hk, ha, hja, hjl, hlog, hJs, hkt⟩ := hrel
    have d0 := (hkt.cell (b := bB) (o := 0) (.inl rfl)).trans c0
    have d1 := (hkt.cell (b := bN) (o := 0) (.inr (.inl rfl))).trans c1
    have d2 := (hkt.cell (b := bI) (o := 0) (.inr (.inr (.inl rfl)))).trans c2
    have hWs := hW.size
    have e0 : bB < wr.heap.size := by have := hkt.1; omega
    have e1 : bN < wr.heap.size := by have := hkt.1; omega
    have e2 : bI < wr.heap.size := by have := hkt.1; omega
    have hcc : (bs.length : Int) ≤ (c : Int) := by omega
    have hR : byteE.Row K wr (.slice A bs.length bs.length) bs := by
      have h1 := hR0.step (w1 := wr) (fun b hb _ => hkt.2 b (.inr (.inr (.inr hb))))
      obtain ⟨A', c', he, a1, a2, a3⟩ := h1
      obtain ⟨rfl, _, rfl⟩ := Value.slice.inj he
      exact ⟨A, _, rfl, Nat.le_refl _, by omega, a3⟩
    have HR := hid hR
    have HBS := hid hbs
    have HL := hid hl
    have HA := hid ha
    have HK := hid hk
    have HJA := hid hja
    have HJL := hid hjl
    have HT0 : Hid (∀ b, (b = bB ∨ b = bN ∨ b = bI ∨ K b) → b < wr.heap.size) := hid (fun b hb => by rcases hb with h | h | h | h <;> (try subst h) <;> first | assumption | (have := hK b h; have := hkt.1; omega))
    have hk0 : (k : Int) ≤ 4000000001 := by omega
    have hk00 : (0 : Int) ≤ (k : Int) := by omega
    have HLOG := hid hlog
    have HJS := hid hJs
    have HKT := hid hkt
    have HC0 := hid (And.intro c0 (And.intro c1 c2))
    have HW := hid hW
    have HYY := hid hY
    have HJ := hid hJ
    obtain ⟨x, to, E, ht⟩ : ∃ x to E, takeF bs a = (x, to, E) := ⟨_, _, _, rfl⟩
    have HT := hid ht
    clear c0 c1 c2 hB hN hI hB0 hN0 hI0 hR hR0 h hW hWs h0 hJs hY hJ hJx hkt hK hjl
    by_cases hE : E = 0
    · subst hE
      obtain ⟨t1, t2, t3, t4⟩ := takeF_ok ha ht
      have HXB : Hid (∀ b ∈ x, 0 ≤ b ∧ b < 256) := hid (fun b hb => hbs b (t4 b hb))
      have HXL : Hid (x.length ≤ 4000000000) := hid (by omega)
      have HTO := hid (And.intro t1 t2)
      cases hr : readE x with
      | none =>
        have HRD := hid hr
        have HNX := hid (nextF_no (i := i) (n := n) (k := k) ht hr)
        clear hbs hl ha hk hja hlog ht hr t1 t2 t3 t4
        gi_wp2_with (first | (refine ⟨trivial, ?_⟩; gi_at_call 61; refine (callsIn_wide.2 ((ftake_any (HR.out.below (by repeat (first | (with_reducible exact Below.refl _ _) | (with_reducible exact bl_mm) | (with_reducible refine bl_dr ?_) | (with_reducible refine bl_drN ?_ _) | (with_reducible refine bl_al ?_ _) | (with_reducible refine bl_more ?_ _ _)))) HBS.out HA.out HL.out))).mono ?_; rintro e w2 ⟨v2, g2, rfl, hm2⟩; rw [HT.out] at hm2 ⊢; have hm2 : Made byteE 5 _ _ _ g2 v2 x := hm2; obtain ⟨A2, c2, rfl, _, _⟩ := hm2.sp.form; have HM2 := hid hm2; obtain ⟨ex2, dx2, rfl⟩ := more_of hm2.low; clear hm2) | (refine ⟨trivial, ?_⟩; gi_at_call 62; refine (callsIn_wide.2 (eread_any (K := fun _ => True) ((HM2.out.below (by repeat (first | (with_reducible exact Below.refl _ _) | (with_reducible exact bl_mm) | (with_reducible refine bl_dr ?_) | (with_reducible refine bl_drN ?_ _) | (with_reducible refine bl_al ?_ _) | (with_reducible refine bl_more ?_ _ _)))).sp.row (fun _ h _ => h.elim) trivial) HXB.out HXL.out)).mono ?_; intro e w3 hr3; rw [HRD.out] at hr3; obtain ⟨rfl, hb3⟩ := hr3; obtain ⟨ex3, dx3, rfl⟩ := more_of hb3; clear hb3))
        refine ⟨trivial, ?_⟩
        gi_wp2
        refine ⟨fun _ h => (by cases h), ?_⟩
        gi_wp2
        refine bodyPost_ret (results_none rfl _ _ _) rfl ?_
        exact ⟨⟨_, rfl⟩, .inl ⟨j, log_end HLOG.out HJA.out HA.out HJL.out HNX.out, HJ.out _ _ _ HJS.out (Ext.of_below (by repeat (first | (with_reducible exact Below.refl _ _) | (with_reducible exact bl_mm) | (with_reducible refine bl_dr ?_) | (with_reducible refine bl_drN ?_ _) | (with_reducible refine bl_al ?_ _) | (with_reducible refine bl_more ?_ _ _))))⟩⟩
      | some e =>
        obtain ⟨kd, it, t, st⟩ := e
        have HRD := hid hr
        have hnx := nextF_is (i := i) (n := n) (k := k) ht hr
        simp only at hnx
        by_cases hn : (st.length : Int) = n
        · subst hn
          obtain ⟨q, hq⟩ : ∃ q : Int, (if 0 ≤ i then st.getD i.toNat 0 else 0) = q := ⟨_, rfl⟩
          rw [hq] at hnx
          have HAT := hid hq
          by_cases hj : q = (k : Int)
          · subst hj
            rw [if_pos ⟨rfl, rfl⟩] at hnx
            have HNX := hid hnx
            clear hbs hl ha hk hja hlog ht hr t1 t2 t3 t4 hnx hq
            gi_wp2_with (first | (refine ⟨trivial, ?_⟩; gi_at_call 61; refine (callsIn_wide.2 ((ftake_any (HR.out.below (by repeat (first | (with_reducible exact Below.refl _ _) | (with_reducible exact bl_mm) | (with_reducible refine bl_dr ?_) | (with_reducible refine bl_drN ?_ _) | (with_reducible refine bl_al ?_ _) | (with_reducible refine bl_more ?_ _ _)))) HBS.out HA.out HL.out))).mono ?_; rintro e w2 ⟨v2, g2, rfl, hm2⟩; rw [HT.out] at hm2 ⊢; have hm2 : Made byteE 5 _ _ _ g2 v2 x := hm2; obtain ⟨A2, c2, rfl, _, _⟩ := hm2.sp.form; have HM2 := hid hm2; obtain ⟨ex2, dx2, rfl⟩ := more_of hm2.low; clear hm2) | (refine ⟨trivial, ?_⟩; gi_at_call 62; refine (callsIn_wide.2 (eread_any (K := fun _ => True) ((HM2.out.below (by repeat (first | (with_reducible exact Below.refl _ _) | (with_reducible exact bl_mm) | (with_reducible refine bl_dr ?_) | (with_reducible refine bl_drN ?_ _) | (with_reducible refine bl_al ?_ _) | (with_reducible refine bl_more ?_ _ _)))).sp.row (fun _ h _ => h.elim) trivial) HXB.out HXL.out)).mono ?_; intro e w3 hr3; rw [HRD.out] at hr3; obtain ⟨v3, g3, rfl, hm3⟩ := hr3; obtain ⟨A3, c3, rfl, _, _⟩ := hm3.sp.form; have HM3 := hid hm3; obtain ⟨ex3, dx3, rfl⟩ := more_of hm3.low; clear hm3) | (refine ⟨trivial, ?_⟩; gi_at_call 63; refine (callsIn_wide.2 (at_any (l := st) (K := fun _ => True) ((HM3.out.below (by repeat (first | (with_reducible exact Below.refl _ _) | (with_reducible exact bl_mm) | (with_reducible refine bl_dr ?_) | (with_reducible refine bl_drN ?_ _) | (with_reducible refine bl_al ?_ _) | (with_reducible refine bl_more ?_ _ _)))).sp.row (fun _ h _ => h.elim) trivial))).mono ?_; rintro e w4 ⟨rfl, hb4⟩; obtain ⟨ex4, dx4, rfl⟩ := more_of hb4; clear hb4; rw [HAT.out]))
            refine upon_yield (HYY.out j ⟨kd, it, t, A3, st.length, c3, to⟩ _ (HJ.out _ _ _ HJS.out (Ext.of_below (by repeat (first | (with_reducible exact Below.refl _ _) | (with_reducible exact bl_mm) | (with_reducible refine bl_dr ?_) | (with_reducible refine bl_drN ?_ _) | (with_reducible refine bl_al ?_ _) | (with_reducible refine bl_more ?_ _ _))))) ?hV) (fun h => by cases h) ?yes ?no
            case hV =>
              obtain ⟨h1, _, _⟩ := log_next HLOG.out HJA.out HA.out HNX.out
              refine ⟨st, to, g3, h1, rfl, (HM3.out.below (by repeat (first | (with_reducible exact Below.refl _ _) | (with_reducible exact bl_mm) | (with_reducible refine bl_dr ?_) | (with_reducible refine bl_drN ?_ _) | (with_reducible refine bl_al ?_ _) | (with_reducible refine bl_more ?_ _ _)))).sp, ?_⟩
              have h2 := HM3.out.gN
              have h3 := HW.out.size
              have h4 := HKT.out.1
              simp only [more_size] at h2
              omega
            case yes =>
              rintro W3 ⟨hJ3, hk3⟩
              gi_wp2
              go_roundw
              case rel =>
                obtain ⟨_, h2, h3⟩ := log_next HLOG.out HJA.out HA.out HNX.out
                refine ⟨to, j + 1, k + 1, rfl, ?_, by rw [HK.out], HTO.out.2, ?_, h3, h2, hJ3, HKT.out.trans (KeepT.trans (KeepT.below ?_ HT0.out) hk3)⟩
                · rfl
                · have := HTO.out.1
                  have := HJA.out
                  omega
                · exact (by repeat (first | (with_reducible exact Below.refl _ _) | (with_reducible exact bl_mm) | (with_reducible refine bl_dr ?_) | (with_reducible refine bl_drN ?_ _) | (with_reducible refine bl_al ?_ _) | (with_reducible refine bl_more ?_ _ _)))
              case measure =>
                have := HTO.out
                simp [intOf]
                omega
            case no =>
              intro W3 hJx3
              gi_wp2
              obtain ⟨_, h2, h3⟩ := log_next HLOG.out HJA.out HA.out HNX.out
              refine bodyPost_ret (results_none rfl _ _ _) rfl ?_
              exact ⟨⟨_, rfl⟩, .inr ⟨j + 1, ⟨by omega, h3⟩, hJx3⟩⟩
          · rw [if_neg (fun h => hj h.2)] at hnx
            have HNX := hid hnx
            have hjb : (q != (k : Int)) = true := by simpa using hj
            clear hbs hl ha hk hja hlog ht hr t1 t2 t3 t4 hnx hq hj
            gi_wp2_with (first | (refine ⟨trivial, ?_⟩; gi_at_call 61; refine (callsIn_wide.2 ((ftake_any (HR.out.below (by repeat (first | (with_reducible exact Below.refl _ _) | (with_reducible exact bl_mm) | (with_reducible refine bl_dr ?_) | (with_reducible refine bl_drN ?_ _) | (with_reducible refine bl_al ?_ _) | (with_reducible refine bl_more ?_ _ _)))) HBS.out HA.out HL.out))).mono ?_; rintro e w2 ⟨v2, g2, rfl, hm2⟩; rw [HT.out] at hm2 ⊢; have hm2 : Made byteE 5 _ _ _ g2 v2 x := hm2; obtain ⟨A2, c2, rfl, _, _⟩ := hm2.sp.form; have HM2 := hid hm2; obtain ⟨ex2, dx2, rfl⟩ := more_of hm2.low; clear hm2) | (refine ⟨trivial, ?_⟩; gi_at_call 62; refine (callsIn_wide.2 (eread_any (K := fun _ => True) ((HM2.out.below (by repeat (first | (with_reducible exact Below.refl _ _) | (with_reducible exact bl_mm) | (with_reducible refine bl_dr ?_) | (with_reducible refine bl_drN ?_ _) | (with_reducible refine bl_al ?_ _) | (with_reducible refine bl_more ?_ _ _)))).sp.row (fun _ h _ => h.elim) trivial) HXB.out HXL.out)).mono ?_; intro e w3 hr3; rw [HRD.out] at hr3; obtain ⟨v3, g3, rfl, hm3⟩ := hr3; obtain ⟨A3, c3, rfl, _, _⟩ := hm3.sp.form; have HM3 := hid hm3; obtain ⟨ex3, dx3, rfl⟩ := more_of hm3.low; clear hm3) | (refine ⟨trivial, ?_⟩; gi_at_call 63; refine (callsIn_wide.2 (at_any (l := st) (K := fun _ => True) ((HM3.out.below (by repeat (first | (with_reducible exact Below.refl _ _) | (with_reducible exact bl_mm) | (with_reducible refine bl_dr ?_) | (with_reducible refine bl_drN ?_ _) | (with_reducible refine bl_al ?_ _) | (with_reducible refine bl_more ?_ _ _)))).sp.row (fun _ h _ => h.elim) trivial))).mono ?_; rintro e w4 ⟨rfl, hb4⟩; obtain ⟨ex4, dx4, rfl⟩ := more_of hb4; clear hb4; rw [HAT.out]))
            refine ⟨fun _ h => (by cases h), ?_⟩
            gi_wp2
            refine bodyPost_ret (results_none rfl _ _ _) rfl ?_
            exact ⟨⟨_, rfl⟩, .inl ⟨j, log_end HLOG.out HJA.out HA.out HJL.out HNX.out, HJ.out _ _ _ HJS.out (Ext.of_below (by repeat (first | (with_reducible exact Below.refl _ _) | (with_reducible exact bl_mm) | (with_reducible refine bl_dr ?_) | (with_reducible refine bl_drN ?_ _) | (with_reducible refine bl_al ?_ _) | (with_reducible refine bl_more ?_ _ _))))⟩⟩
        · rw [if_neg (fun h => hn h.1)] at hnx
          have HNX := hid hnx
          have hnb : ((st.length : Int) != n) = true := by simpa using hn
          clear hbs hl ha hk hja hlog ht hr t1 t2 t3 t4 hnx hn
          gi_wp2_with (first | (refine ⟨trivial, ?_⟩; gi_at_call 61; refine (callsIn_wide.2 ((ftake_any (HR.out.below (by repeat (first | (with_reducible exact Below.refl _ _) | (with_reducible exact bl_mm) | (with_reducible refine bl_dr ?_) | (with_reducible refine bl_drN ?_ _) | (with_reducible refine bl_al ?_ _) | (with_reducible refine bl_more ?_ _ _)))) HBS.out HA.out HL.out))).mono ?_; rintro e w2 ⟨v2, g2, rfl, hm2⟩; rw [HT.out] at hm2 ⊢; have hm2 : Made byteE 5 _ _ _ g2 v2 x := hm2; obtain ⟨A2, c2, rfl, _, _⟩ := hm2.sp.form; have HM2 := hid hm2; obtain ⟨ex2, dx2, rfl⟩ := more_of hm2.low; clear hm2) | (refine ⟨trivial, ?_⟩; gi_at_call 62; refine (callsIn_wide.2 (eread_any (K := fun _ => True) ((HM2.out.below (by repeat (first | (with_reducible exact Below.refl _ _) | (with_reducible exact bl_mm) | (with_reducible refine bl_dr ?_) | (with_reducible refine bl_drN ?_ _) | (with_reducible refine bl_al ?_ _) | (with_reducible refine bl_more ?_ _ _)))).sp.row (fun _ h _ => h.elim) trivial) HXB.out HXL.out)).mono ?_; intro e w3 hr3; rw [HRD.out] at hr3; obtain ⟨v3, g3, rfl, hm3⟩ := hr3; obtain ⟨A3, c3, rfl, _, _⟩ := hm3.sp.form; have HM3 := hid hm3; obtain ⟨ex3, dx3, rfl⟩ := more_of hm3.low; clear hm3))
          refine ⟨trivial, ?_⟩
          gi_wp2
          refine ⟨fun _ h => (by cases h), ?_⟩
          gi_wp2
          refine bodyPost_ret (results_none rfl _ _ _) rfl ?_
          exact ⟨⟨_, rfl⟩, .inl ⟨j, log_end HLOG.out HJA.out HA.out HJL.out HNX.out, HJ.out _ _ _ HJS.out (Ext.of_below (by repeat (first | (with_reducible exact Below.refl _ _) | (with_reducible exact bl_mm) | (with_reducible refine bl_dr ?_) | (with_reducible refine bl_drN ?_ _) | (with_reducible refine bl_al ?_ _) | (with_reducible refine bl_more ?_ _ _))))⟩⟩
    · have HNX := hid (nextF_end (i := i) (n := n) (k := k) ht hE)
      have hEb : (E != 0) = true := by simpa using hE
      clear hbs hl ha hk hja hlog ht hE
      gi_wp2_with (first | (refine ⟨trivial, ?_⟩; gi_at_call 61; refine (callsIn_wide.2 ((ftake_any (HR.out.below (by repeat (first | (with_reducible exact Below.refl _ _) | (with_reducible exact bl_mm) | (with_reducible refine bl_dr ?_) | (with_reducible refine bl_drN ?_ _) | (with_reducible refine bl_al ?_ _) | (with_reducible refine bl_more ?_ _ _)))) HBS.out HA.out HL.out))).mono ?_; rintro e w2 ⟨v2, g2, rfl, hm2⟩; rw [HT.out] at hm2 ⊢; have hm2 : Made byteE 5 _ _ _ g2 v2 x := hm2; obtain ⟨A2, c2, rfl, _, _⟩ := hm2.sp.form; have HM2 := hid hm2; obtain ⟨ex2, dx2, rfl⟩ := more_of hm2.low; clear hm2))
      refine bodyPost_ret (results_none rfl _ _ _) rfl ?_
      exact ⟨⟨_, rfl⟩, .inl ⟨j, log_end HLOG.out HJA.out HA.out HJL.out HNX.out, HJ.out _ _ _ HJS.out (Ext.of_below (by repeat (first | (with_reducible exact Below.refl _ _) | (with_reducible exact bl_mm) | (with_reducible refine bl_dr ?_) | (with_reducible refine bl_drN ?_ _) | (with_reducible refine bl_al ?_ _) | (with_reducible refine bl_more ?_ _ _))))⟩⟩
end Go.Proofs.Ytgpcgndmdkgbdaa
