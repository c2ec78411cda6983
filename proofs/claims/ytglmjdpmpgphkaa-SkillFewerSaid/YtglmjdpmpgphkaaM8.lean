/- The examples of the chapter. -/
import Derived.Test.YtglmjdpmpgphkaaM7

set_option linter.all false

namespace Go.Proofs.Ytglmjdpmpgphkaa.Sk
open Go Go.E

def facts : List Fact := [
  ⟨20, [exM], ok0⟩, ⟨20, [exN], ok0⟩, ⟨20, [exB1], ok0⟩, ⟨20, [exB2], ok0⟩,
  ⟨80, [exM], [boardOf exM [3,2,4,1,1,0]]⟩,
  ⟨80, [exN], [boardOf exN [-1,-1,-1,1,-1,0]]⟩,
  ⟨80, [exB1], [boardOf exB1 [3,2,4,1,1,0]]⟩,
  ⟨80, [exB2], [boardOf exB2 [-1,2,-1,1,1,0]]⟩,
  ⟨80, [exT1], [boardOf exT1 [3,2,4,1,-1,0]]⟩,
  ⟨80, [exT2], [boardOf exT2 [-1,-1,-1,1,-1,0]]⟩,
  ⟨78, [boardOf exN [-1,-1,-1,1,-1,0], .int .i64 0], [.slice [.agg [.int .i64 2, .int .i64 0]], .bool true]⟩]
theorem facts_ok : ∀ e ∈ facts, E.Fn Try.prog e.f e.args e.rs := by
  intro e he
  simp only [facts, List.mem_cons, List.not_mem_nil, or_false] at he
  rcases he with rfl | rfl | rfl | rfl | rfl | rfl | rfl | rfl | rfl | rfl | rfl
  · exact c20M
  · exact c20N
  · exact c20B1
  · exact c20B2
  · exact c80M
  · exact c80N
  · exact c80B1
  · exact c80B2
  · exact c80T1
  · exact c80T2
  · exact c78
def mvN : List (List Int) := [[1, 2], [3, 4], [0, 5], [5], [4], []]
theorem by_facts {f : FuncId} {args rs : List SV} (h : (tabN (tabFind facts) (ansTab pl0 mvN wn0)).fn f args = some rs) : E.Fn Try.prog f args rs :=
  tab_fn (N := tabFind facts) (Y := ansTab pl0 mvN wn0) (fun _ _ _ h => tabFind_ok facts_ok h) (fun _ _ _ h => ansTab_ok h) h
end Go.Proofs.Ytglmjdpmpgphkaa.Sk

/- Facts of the examples: what the calls of Works return. -/
namespace Go.Proofs.Ytglmjdpmpgphkaa.Sk
open Go Go.E

theorem w_dM : E.Fn Try.prog 18 [exM] [(.slice [(.int .i64 3), (.int .i64 2), (.int .i64 4), (.int .i64 1), (.int .i64 1), (.int .i64 0)]), (.int .i64 0)] := by_facts (by kernel_rfl)
theorem w_dN : E.Fn Try.prog 18 [exN] [(.slice [(.int .i64 (-1)), (.int .i64 (-1)), (.int .i64 (-1)), (.int .i64 1), (.int .i64 (-1)), (.int .i64 0)]), (.int .i64 0)] := by_facts (by kernel_rfl)
theorem w_kN : E.Fn Try.prog 25 [exN] [(.slice [(.int .i64 0), (.int .i64 1), (.int .i64 2), (.int .i64 4)]), (.int .i64 0)] := by_facts (by kernel_rfl)
theorem w_ck4 : E.Fn Try.prog 27 [exN, ints [4]] [(.int .i64 0)] := by_facts (by kernel_rfl)
theorem w_ck0 : E.Fn Try.prog 27 [exN, ints [0]] [(.int .i64 14)] := by_facts (by kernel_rfl)
end Go.Proofs.Ytglmjdpmpgphkaa.Sk

/- Facts of the examples: what the calls of Works return. -/
namespace Go.Proofs.Ytglmjdpmpgphkaa.Sk
open Go Go.E

theorem w_cr1 : E.Fn Try.prog 23 [exM, ints [5,4,-1,3,2,0]] [(.slice [(.int .i64 0), (.int .i64 1), (.int .i64 3), (.int .i64 4), (.int .i64 5)]), (.int .i64 0)] := by_facts (by kernel_rfl)
theorem w_cr2 : E.Fn Try.prog 23 [exM, ints [2,2,4,1,1,0]] [(.slice []), (.int .i64 14)] := by_facts (by kernel_rfl)
theorem w_kM : E.Fn Try.prog 25 [exM] [(.slice []), (.int .i64 0)] := by_facts (by kernel_rfl)
theorem w_cr3 : E.Fn Try.prog 23 [exM, ints [3,2,4,1,1,0]] [(.slice [(.int .i64 0), (.int .i64 1), (.int .i64 2), (.int .i64 3), (.int .i64 4), (.int .i64 5)]), (.int .i64 0)] := by_facts (by kernel_rfl)
theorem w_cr4 : E.Fn Try.prog 23 [exM, ints [-1,-1,-1,-1,-1,-1]] [(.slice []), (.int .i64 14)] := by_facts (by kernel_rfl)
end Go.Proofs.Ytglmjdpmpgphkaa.Sk

/- Facts of the examples: what the calls of Works return. -/
namespace Go.Proofs.Ytglmjdpmpgphkaa.Sk
open Go Go.E

theorem w_wM : E.Fn Try.prog 29 [exM] [(.slice [(.int .i64 1), (.int .i64 (-1)), (.int .i64 (-1)), (.int .i64 5), (.int .i64 5), (.int .i64 (-1))]), (.int .i64 0)] := by_facts (by kernel_rfl)
theorem w_aM : E.Fn Try.prog 31 [exM] [(.slice [(.int .i64 (-1)), (.int .i64 3), (.int .i64 0), (.int .i64 (-1)), (.int .i64 (-1)), (.int .i64 (-1))]), (.int .i64 0)] := by_facts (by kernel_rfl)
theorem w_aN : E.Fn Try.prog 31 [exN] [(.slice [(.int .i64 (-1)), (.int .i64 4), (.int .i64 0), (.int .i64 (-1)), (.int .i64 (-1)), (.int .i64 (-1))]), (.int .i64 0)] := by_facts (by kernel_rfl)
end Go.Proofs.Ytglmjdpmpgphkaa.Sk
