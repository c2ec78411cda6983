/- Facts of the examples: what the calls of Works return. -/
import Derived.Test.YtglmjdpmpgphkaaM8

set_option linter.all false

namespace Go.Proofs.Ytglmjdpmpgphkaa.Sk
open Go Go.E

theorem w_p1 : E.Fn Try.prog 35 [exM, ints [1,-1,-1,5,5,-1], ints [-1,3,0,-1,-1,-1], .int .i64 2] [(.slice [(.int .i64 2), (.int .i64 0), (.int .i64 1), (.int .i64 3), (.int .i64 5)]), (.bool true), (.int .i64 0)] := by_facts (by kernel_rfl)
theorem w_p2 : E.Fn Try.prog 35 [exN, ints [1,-1,-1,5,4,-1], ints [-1,4,0,-1,-1,-1], .int .i64 0] [(.slice [(.int .i64 0), (.int .i64 1), (.int .i64 4)]), (.bool false), (.int .i64 0)] := by_facts (by kernel_rfl)
theorem w_p3 : E.Fn Try.prog 35 [exM, ints [1,-1,-1,5,5,-1], ints [-1,3,0,-1,-1,-1], .int .i64 1] [(.slice [(.int .i64 1), (.int .i64 3), (.int .i64 5)]), (.bool true), (.int .i64 0)] := by_facts (by kernel_rfl)
end Go.Proofs.Ytglmjdpmpgphkaa.Sk

/- Facts of the examples: what the calls of Works return. -/
namespace Go.Proofs.Ytglmjdpmpgphkaa.Sk
open Go Go.E

theorem w_b1 : E.Fn Try.prog 37 [exM, ints [1,-1,-1,5,5,-1], .int .i64 2] [(.bool true), (.int .i64 0)] := by_facts (by kernel_rfl)
theorem w_b2 : E.Fn Try.prog 37 [exM, ints [2,-1,-1,5,5,-1], .int .i64 0] [(.bool false), (.int .i64 0)] := by_facts (by kernel_rfl)
end Go.Proofs.Ytglmjdpmpgphkaa.Sk

/- Facts of the examples: what the calls of Works return. -/
namespace Go.Proofs.Ytglmjdpmpgphkaa.Sk
open Go Go.E

theorem w_s1 : E.Fn Try.prog 39 [exM, .int .i64 2] [(.int .i64 4), (.int .i64 0)] := by_facts (by kernel_rfl)
theorem w_s2 : E.Fn Try.prog 39 [exN, .int .i64 0] [(.int .i64 0), (.int .i64 19)] := by_facts (by kernel_rfl)
theorem w_t4 : E.Fn Try.prog 42 [exN, .int .i64 0] [(.slice [(.agg [(.int .i64 2), (.int .i64 0)])]), (.int .i64 0)] := by_facts (by kernel_rfl)
theorem w_t5 : E.Fn Try.prog 42 [exM, .int .i64 0] [(.slice []), (.int .i64 5)] := by_facts (by kernel_rfl)
end Go.Proofs.Ytglmjdpmpgphkaa.Sk

/- Facts of the examples: what the calls of Works return. -/
namespace Go.Proofs.Ytglmjdpmpgphkaa.Sk
open Go Go.E

theorem w_t1 : E.Fn Try.prog 44 [exN, .int .i64 0, .slice [.agg [.int .i64 1, .int .i64 4]]] [(.int .i64 0)] := by_facts (by kernel_rfl)
theorem w_t2 : E.Fn Try.prog 44 [exN, .int .i64 0, .slice [.agg [.int .i64 1, .int .i64 3]]] [(.int .i64 19)] := by_facts (by kernel_rfl)
theorem w_t3 : E.Fn Try.prog 44 [exN, .int .i64 0, .slice [.agg [.int .i64 2, .int .i64 0], .agg [.int .i64 2, .int .i64 5]]] [(.int .i64 16)] := by_facts (by kernel_rfl)
end Go.Proofs.Ytglmjdpmpgphkaa.Sk
