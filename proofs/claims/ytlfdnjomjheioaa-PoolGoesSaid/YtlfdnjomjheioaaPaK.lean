/- A pool: the circle's maker. -/
import Derived.Test.YtlfdnjomjheioaaPaJ
namespace Go.Proofs.Ytlfdnjomjheioaa
open Go.RowKit Go.Shelf
attribute [local go_sem] Oper.semAt_some

theorem circle_in (F : Fence) (m : Nat) (h47 : F.fn 47) (hro : F.round = none) (p : Nat) (pick : Int) (w : World) :
    CallsIn F m Try.prog 47 #[.pointer (some ⟨p, 0, none⟩), .int .i64 pick] w fun e w' =>
      e = .returned (.func (.func 63) #[] #[.pointer (some ⟨w.heap.size + 1, 0, none⟩), .pointer (some ⟨w.heap.size, 0, none⟩)]) ∧ w' = (w.alloc (.cells #[.pointer (some ⟨p, 0, none⟩)] 27)).alloc (.cells #[.int .i64 pick] 3) := by
  refine callsIn_of_wp Try.func47 rfl h47 ?_ hro
  simp only [Try.ntmps47, List.size_toArray, List.length_cons, List.length_nil, Nat.reduceAdd, Nat.reduceSub, Array.replicate_succ, Array.replicate_zero, List.push_toArray, List.append_toArray, List.nil_append, List.cons_append]
  gi_wp2
  refine bodyPost_ret (results_tmp rfl _ _ _) rfl ?_
  exact ⟨rfl, rfl⟩
end Go.Proofs.Ytlfdnjomjheioaa
