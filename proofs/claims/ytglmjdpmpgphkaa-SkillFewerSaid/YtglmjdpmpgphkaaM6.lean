/- Facts about the examples: a board. -/
import Derived.Test.YtglmjdpmpgphkaaM5

set_option linter.all false

namespace Go.Proofs.Ytglmjdpmpgphkaa.Sk
open Go Go.E
theorem c80M : E.Fn Try.prog 80 [exM] [boardOf exM [3,2,4,1,1,0]] := tab_none (by kernel_rfl)
end Go.Proofs.Ytglmjdpmpgphkaa.Sk

/- Facts about the examples: a board. -/
namespace Go.Proofs.Ytglmjdpmpgphkaa.Sk
open Go Go.E
theorem c80N : E.Fn Try.prog 80 [exN] [boardOf exN [-1,-1,-1,1,-1,0]] := tab_none (by kernel_rfl)
end Go.Proofs.Ytglmjdpmpgphkaa.Sk

/- Facts about the examples: a board. -/
namespace Go.Proofs.Ytglmjdpmpgphkaa.Sk
open Go Go.E
theorem c80B1 : E.Fn Try.prog 80 [exB1] [boardOf exB1 [3,2,4,1,1,0]] := tab_none (by kernel_rfl)
end Go.Proofs.Ytglmjdpmpgphkaa.Sk

/- Facts about the examples: a board. -/
namespace Go.Proofs.Ytglmjdpmpgphkaa.Sk
open Go Go.E
theorem c80B2 : E.Fn Try.prog 80 [exB2] [boardOf exB2 [-1,2,-1,1,1,0]] := tab_none (by kernel_rfl)
end Go.Proofs.Ytglmjdpmpgphkaa.Sk

/- Facts about the examples: a board. -/
namespace Go.Proofs.Ytglmjdpmpgphkaa.Sk
open Go Go.E
theorem c80T1 : E.Fn Try.prog 80 [exT1] [boardOf exT1 [3,2,4,1,-1,0]] := tab_none (by kernel_rfl)
end Go.Proofs.Ytglmjdpmpgphkaa.Sk

/- Facts about the examples: a board. -/
namespace Go.Proofs.Ytglmjdpmpgphkaa.Sk
open Go Go.E
theorem c80T2 : E.Fn Try.prog 80 [exT2] [boardOf exT2 [-1,-1,-1,1,-1,0]] := tab_none (by kernel_rfl)
end Go.Proofs.Ytglmjdpmpgphkaa.Sk
