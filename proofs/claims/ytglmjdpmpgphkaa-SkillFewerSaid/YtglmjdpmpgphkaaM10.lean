/- Facts of the examples: what the calls of Works return. -/
import Derived.Test.YtglmjdpmpgphkaaM9

set_option linter.all false

namespace Go.Proofs.Ytglmjdpmpgphkaa.Sk
open Go Go.E

theorem w_rt : E.Fn Try.prog 45 [exN, .int .i64 0, .slice [.agg [.int .i64 2, .int .i64 0]]] [(.int .i64 0)] := by_facts (by kernel_rfl)
end Go.Proofs.Ytglmjdpmpgphkaa.Sk

/- The examples of the chapter. -/
namespace Go.Proofs.Ytglmjdpmpgphkaa.Sk
open Go Go.E

def facts2 : List Fact := [
  ⟨18, [exM], [(.slice [(.int .i64 3), (.int .i64 2), (.int .i64 4), (.int .i64 1), (.int .i64 1), (.int .i64 0)]), (.int .i64 0)]⟩,
  ⟨18, [exN], [(.slice [(.int .i64 (-1)), (.int .i64 (-1)), (.int .i64 (-1)), (.int .i64 1), (.int .i64 (-1)), (.int .i64 0)]), (.int .i64 0)]⟩,
  ⟨25, [exN], [(.slice [(.int .i64 0), (.int .i64 1), (.int .i64 2), (.int .i64 4)]), (.int .i64 0)]⟩,
  ⟨27, [exN, ints [4]], [(.int .i64 0)]⟩,
  ⟨27, [exN, ints [0]], [(.int .i64 14)]⟩,
  ⟨23, [exM, ints [5,4,-1,3,2,0]], [(.slice [(.int .i64 0), (.int .i64 1), (.int .i64 3), (.int .i64 4), (.int .i64 5)]), (.int .i64 0)]⟩,
  ⟨23, [exM, ints [2,2,4,1,1,0]], [(.slice []), (.int .i64 14)]⟩,
  ⟨29, [exM], [(.slice [(.int .i64 1), (.int .i64 (-1)), (.int .i64 (-1)), (.int .i64 5), (.int .i64 5), (.int .i64 (-1))]), (.int .i64 0)]⟩,
  ⟨31, [exM], [(.slice [(.int .i64 (-1)), (.int .i64 3), (.int .i64 0), (.int .i64 (-1)), (.int .i64 (-1)), (.int .i64 (-1))]), (.int .i64 0)]⟩,
  ⟨31, [exN], [(.slice [(.int .i64 (-1)), (.int .i64 4), (.int .i64 0), (.int .i64 (-1)), (.int .i64 (-1)), (.int .i64 (-1))]), (.int .i64 0)]⟩,
  ⟨35, [exM, ints [1,-1,-1,5,5,-1], ints [-1,3,0,-1,-1,-1], .int .i64 2], [(.slice [(.int .i64 2), (.int .i64 0), (.int .i64 1), (.int .i64 3), (.int .i64 5)]), (.bool true), (.int .i64 0)]⟩,
  ⟨35, [exN, ints [1,-1,-1,5,4,-1], ints [-1,4,0,-1,-1,-1], .int .i64 0], [(.slice [(.int .i64 0), (.int .i64 1), (.int .i64 4)]), (.bool false), (.int .i64 0)]⟩,
  ⟨37, [exM, ints [1,-1,-1,5,5,-1], .int .i64 2], [(.bool true), (.int .i64 0)]⟩,
  ⟨37, [exM, ints [2,-1,-1,5,5,-1], .int .i64 0], [(.bool false), (.int .i64 0)]⟩,
  ⟨39, [exM, .int .i64 2], [(.int .i64 4), (.int .i64 0)]⟩,
  ⟨39, [exN, .int .i64 0], [(.int .i64 0), (.int .i64 19)]⟩,
  ⟨44, [exN, .int .i64 0, .slice [.agg [.int .i64 1, .int .i64 4]]], [(.int .i64 0)]⟩,
  ⟨44, [exN, .int .i64 0, .slice [.agg [.int .i64 1, .int .i64 3]]], [(.int .i64 19)]⟩,
  ⟨44, [exN, .int .i64 0, .slice [.agg [.int .i64 2, .int .i64 0], .agg [.int .i64 2, .int .i64 5]]], [(.int .i64 16)]⟩,
  ⟨42, [exN, .int .i64 0], [(.slice [(.agg [(.int .i64 2), (.int .i64 0)])]), (.int .i64 0)]⟩,
  ⟨42, [exM, .int .i64 0], [(.slice []), (.int .i64 5)]⟩,
  ⟨45, [exN, .int .i64 0, .slice [.agg [.int .i64 2, .int .i64 0]]], [(.int .i64 0)]⟩,
  ⟨25, [exM], [(.slice []), (.int .i64 0)]⟩,
  ⟨23, [exM, ints [3,2,4,1,1,0]], [(.slice [(.int .i64 0), (.int .i64 1), (.int .i64 2), (.int .i64 3), (.int .i64 4), (.int .i64 5)]), (.int .i64 0)]⟩,
  ⟨23, [exM, ints [-1,-1,-1,-1,-1,-1]], [(.slice []), (.int .i64 14)]⟩,
  ⟨35, [exM, ints [1,-1,-1,5,5,-1], ints [-1,3,0,-1,-1,-1], .int .i64 1], [(.slice [(.int .i64 1), (.int .i64 3), (.int .i64 5)]), (.bool true), (.int .i64 0)]⟩]
theorem facts2_ok : ∀ e ∈ facts2, E.Fn Try.prog e.f e.args e.rs := by
  intro e he
  simp only [facts2, List.mem_cons, List.not_mem_nil, or_false] at he
  rcases he with rfl | rfl | rfl | rfl | rfl | rfl | rfl | rfl | rfl | rfl | rfl | rfl | rfl | rfl | rfl | rfl | rfl | rfl | rfl | rfl | rfl | rfl | rfl | rfl | rfl | rfl
  · exact w_dM
  · exact w_dN
  · exact w_kN
  · exact w_ck4
  · exact w_ck0
  · exact w_cr1
  · exact w_cr2
  · exact w_wM
  · exact w_aM
  · exact w_aN
  · exact w_p1
  · exact w_p2
  · exact w_b1
  · exact w_b2
  · exact w_s1
  · exact w_s2
  · exact w_t1
  · exact w_t2
  · exact w_t3
  · exact w_t4
  · exact w_t5
  · exact w_rt
  · exact w_kM
  · exact w_cr3
  · exact w_cr4
  · exact w_p3
theorem works_ok : E.Fn Try.prog 17 [] [.bool true] :=
  tab_fn (N := tabFind facts2) (Y := none2) (fun _ _ _ h => tabFind_ok facts2_ok h) (fun _ _ _ h => by cases h) (by kernel_rfl)
end Go.Proofs.Ytglmjdpmpgphkaa.Sk
