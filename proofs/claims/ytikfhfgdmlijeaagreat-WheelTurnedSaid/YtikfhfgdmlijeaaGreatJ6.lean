/- What a law's row asks for: behind a call that turned nothing that was there, and answered true. -/
import Derived.Test.YtikfhfgdmlijeaaGreatJ5
import Derived.Test.YtikfhfgdmlijeaaGreatRows
import Derived.ProofKit
import Derived.OpenShut
import Derived.Test.YtikfhfgdmlijeaaGreatProg
import Derived.Shelf.SortM.Plain
import Derived.Shelf.SortM.SortNone
import Derived.Shelf.SlicesE.Delete

set_option linter.all false

namespace Go.Proofs.YtikfhfgdmlijeaaGreat.Sk
open Go Go.E Go.ChangeShapes Go.WideShapes Go.ChangeAt Go.RowKit
theorem qhE {w w' : World} (h : E.Touch [] w w') : Below w.heap.size w w' :=
 ⟨h.os, h.tape, h.output, h.size, fun k hk => h.block k hk (by simp [E.Env.has])⟩
theorem qc7 {H : Type} {enc : TypeId × Value -> H} {P : Program} (hl : laidOutB P = true) {W W' : World} (hb : Below W.heap.size W W') :
  ∀ {ts : List TypeId} {vs : List Value} {ds : List (DataW H)} {ps : List MemPlace}, (∀ t ∈ ts, P.readableRec t = true /\ t < P.types.size) ->
   DataW.TrodAll enc P W 0 (fun _ => true) true ts vs ds ps -> (∀ x ∈ ps, x.block < W.heap.size) -> DataW.TrodAll enc P W' 0 (fun b => decide (b < W.heap.size)) true ts vs ds ps
 | [], _, _, _, _, h, _ => by
  obtain ⟨rfl, rfl, rfl⟩ := trodAll_nil h;exact trodAll_mk0
 | t :: ts, _, _, _, ht, h, hp => by
  obtain ⟨v, vs, d, ds, p, q, rfl, rfl, rfl, h1, h2⟩ := trodAll_cons h;have ht1 := ht t (by simp)
  exact trodAll_cons_mk (Below.trod hl ht1.1 ht1.2 h1 hb fun x hx => hp x (by simp [hx])) (qc7 hl hb (fun u hu => ht u (by simp [hu])) h2 fun x hx => hp x (by simp [hx]))
theorem law_post {H : Type} {enc : TypeId × Value -> H} {P : Program} (hl : laidOutB P = true) {f : Func} {s : ChangeSpec} {W W' : World} {args : Array Value} {ds : List (DataW H)} {p : List MemPlace} {tb : TypeId}
  (hA : DataW.TrodAll enc P W 0 (fun _ => true) true f.params.toList args.toList ds p) (hz : W.noneFrozen p) (hv : s.vars = []) (hr : f.resultTypes = #[tb]) (htb : P.underlying tb = some .bool)
  (ht : ∀ t ∈ f.params.toList, P.readableRec t = true /\ t < P.types.size) (hs : s.fn H ds = { results := [.lit (.bool true)], args := ds }) (hlt : ∀ x ∈ p, x.block < W.heap.size) (h : E.Touch [] W W') :
  s.post enc P f false true false false W args (.bool true) W' := by
 have hb := qhE h;refine ⟨ds, [], p, [], p, [], ⟨p, [], hA, by rw [hv]; rfl, by simp, hz, fun h => by cases h⟩, ?_, ?_, ?_, ?_, fun h => by cases h⟩
 ·rw [hr, List.append_nil, hs]
  exact trodAll_mk1 (shut_bool htb true)
 ·rw [List.append_nil, hs]
  exact qc7 hl hb ht hA hlt
 ·rw [List.append_nil, hs, hv]
  rfl
 ·exact hb.frame _
theorem retOf_true {M : Mem} {xs : List Value} (h : VRelL M [.bool true] xs) : retOf xs = .bool true := by
 obtain ⟨y, ys, rfl, h1, h2⟩ := h;simp only [VRelL] at h2;subst h2;obtain ⟨us, h3, rfl⟩ := h1;simp only [CRel] at h3;subst h3;rfl
def noMem : Mem := ⟨fun _ _ => Option.none, fun _ => Option.none⟩
end Go.Proofs.YtikfhfgdmlijeaaGreat.Sk
namespace Go.Proofs.YtikfhfgdmlijeaaGreat.Sk
open Go Go.E
abbrev oP (d : Nat) (o : AOp) : AOper := ⟨some d, none, o⟩
abbrev oG (d g : Nat) (b : Bool) (o : AOp) : AOper := ⟨some d, some (g, b), o⟩
abbrev nI (n : Int) : AX := .c (.s (.int .i64 n))
abbrev aI (n : Int) : LV := .s (.int .i64 n)
abbrev aN : LV := .any
abbrev aZ0 : List LV := []
abbrev aZ8 : List LV := aN::aN::aN::aN::aN::aN::aN::aN::aZ0
abbrev aZ16 : List LV := aN::aN::aN::aN::aN::aN::aN::aN::aZ8
abbrev aZ24 : List LV := aN::aN::aN::aN::aN::aN::aN::aN::aZ16
abbrev aZ32 : List LV := aN::aN::aN::aN::aN::aN::aN::aN::aZ24
abbrev aZ40 : List LV := aN::aN::aN::aN::aN::aN::aN::aN::aZ32
abbrev aZ48 : List LV := aN::aN::aN::aN::aN::aN::aN::aN::aZ40
abbrev aZ56 : List LV := aN::aN::aN::aN::aN::aN::aN::aN::aZ48
abbrev aZ64 : List LV := aN::aN::aN::aN::aN::aN::aN::aN::aZ56
abbrev aZ72 : List LV := aN::aN::aN::aN::aN::aN::aN::aN::aZ64
abbrev aZ80 : List LV := aN::aN::aN::aN::aN::aN::aN::aN::aZ72
abbrev aZ88 : List LV := aN::aN::aN::aN::aN::aN::aN::aN::aZ80
abbrev aZ96 : List LV := aN::aN::aN::aN::aN::aN::aN::aN::aZ88
abbrev aZ104 : List LV := aN::aN::aN::aN::aN::aN::aN::aN::aZ96
abbrev aZ112 : List LV := aN::aN::aN::aN::aN::aN::aN::aN::aZ104
abbrev aZ120 : List LV := aN::aN::aN::aN::aN::aN::aN::aN::aZ112
abbrev aZ128 : List LV := aN::aN::aN::aN::aN::aN::aN::aN::aZ120
abbrev aZ136 : List LV := aN::aN::aN::aN::aN::aN::aN::aN::aZ128
abbrev aZ144 : List LV := aN::aN::aN::aN::aN::aN::aN::aN::aZ136
abbrev aZ152 : List LV := aN::aN::aN::aN::aN::aN::aN::aN::aZ144
abbrev aZ160 : List LV := aN::aN::aN::aN::aN::aN::aN::aN::aZ152
abbrev aZ168 : List LV := aN::aN::aN::aN::aN::aN::aN::aN::aZ160
abbrev aZ176 : List LV := aN::aN::aN::aN::aN::aN::aN::aN::aZ168
abbrev aZ184 : List LV := aN::aN::aN::aN::aN::aN::aN::aN::aZ176
abbrev aZ192 : List LV := aN::aN::aN::aN::aN::aN::aN::aN::aZ184
abbrev aZ200 : List LV := aN::aN::aN::aN::aN::aN::aN::aN::aZ192
abbrev aZ208 : List LV := aN::aN::aN::aN::aN::aN::aN::aN::aZ200
abbrev aZ216 : List LV := aN::aN::aN::aN::aN::aN::aN::aN::aZ208
abbrev aZ224 : List LV := aN::aN::aN::aN::aN::aN::aN::aN::aZ216
abbrev aZ232 : List LV := aN::aN::aN::aN::aN::aN::aN::aN::aZ224
abbrev aZ240 : List LV := aN::aN::aN::aN::aN::aN::aN::aN::aZ232
abbrev aZ248 : List LV := aN::aN::aN::aN::aN::aN::aN::aN::aZ240
abbrev aZ256 : List LV := aN::aN::aN::aN::aN::aN::aN::aN::aZ248
abbrev oM (d s : Nat) : AOper := ⟨some d, none, .mov (.t s)⟩
abbrev oL (d s : Nat) : AOper := ⟨some d, none, .load 1 false (.t s)⟩
abbrev oF (d k s : Nat) : AOper := ⟨some d, none, .fieldAddr k (.t s)⟩
abbrev oN (d s : Nat) : AOper := ⟨some d, none, .len false (.t s)⟩
abbrev oI (d a b : Nat) : AOper := ⟨some d, none, .idxA 1 (.t a) (.t b)⟩
abbrev oH (d g : Nat) (b : Bool) (s : Nat) : AOper := ⟨some d, some (g, b), .mov (.t s)⟩
abbrev bF : AX := .c (.s (.bool false))
abbrev bT : AX := .c (.s (.bool true))
abbrev LO := List AOper
abbrev zF (l : List Bool) : List Bool := false :: l
abbrev zT (l : List Bool) : List Bool := true :: l
abbrev z8 (l : List Bool) : List Bool := false :: false :: false :: false :: false :: false :: false :: false :: l
abbrev sR (c : LO) (k : ACode) : ACode := .seq (.reg 0 c) k
abbrev rG (c : LO) : ACode := .reg 0 c
def c11r0 : LO := [oP 1 (.boxS (.t 0)),oP 2 (.mov bF)]
def c11r1 : LO := [oF 5 1 1,oL 6 5,oN 7 6,oP 8 (.cmp .gtr (.t 7) (nI 8)),oM 9 8,oG 10 9 false (.fieldAddr 2 (.t 1)),oG 11 9 false (.load 1 false (.t 10)),oG 12 9 false (.len false (.t 11)),oG 13 9 false (.cmp .gtr (.t 12) (nI 8)),oP 14 (.pick (.t 9) bT (.t 13))]
def c11r2 : LO := [oP 2 (.mov bT)]
def c11r3 : LO := [oP 3 (.mov (nI 0))]
def c11r4 : LO := [oP 4 (.mov (nI 0))]
def c11r5 : LO := [oM 15 4,oF 16 1 1,oL 17 16,oN 18 17,oP 19 (.cmp .lss (.t 15) (.t 18))]
def c11r6 : LO := [oM 22 3,oF 23 1 1,oL 24 23,oM 25 4,oI 26 24 25,oL 27 26,oN 28 27,oP 29 (.max [(.t 22), (.t 28)]),oM 3 29]
def c11r7 : LO := [oM 20 4,oP 21 (.arith .add (.t 20) (nI 1)),oM 4 21]
def c11l8 : ACode := (.seq (sR c11r5 (.cond (.t 19) .skip (.exit 0))) (.seq (.block 1 (rG c11r6)) (rG c11r7)))
def c11l8m : List Bool := zF<|zT<|zF<|zT<|zT<|z8<|z8<|z8<|zF<|zF<|zF<|[]
def c11r9 : LO := [oM 30 3,oP 31 (.cmp .gtr (.t 30) (nI 8)),oM 2 31]
def f11 : FRow := ⟨(sR c11r0 (.seq (sR c11r1 (.cond (.t 14) (sR c11r2 .ret) .skip)) (sR c11r3 (.seq (sR c11r4 (.block 0 (.loop c11l8m [] c11l8))) (sR c11r9 .ret))))), [.tmp 2], 32⟩
theorem qql : f11.Ok Tryz.prog 11 := ⟨_, _, Tryz.func11, rfl, by kernel_rfl, by kernel_rfl, by kernel_rfl⟩
def c12r0 : LO := [oP 0 (.mov bF)]
def c12r1 : LO := [oP 40 (.call 38 []),oP 41 (.call 39 []),oP 42 (.call 40 []),oP 43 (.call 41 []),oP 1 (.alloc [(.s (.int .i64 0)), (.full []), (.full [])]),oP 2 (.alloc [(.s (.int .i64 0)), (.full []), (.full [])]),oP 3 (.alloc [(.s (.int .i64 0)), (.full []), (.full [])]),oP 4 (.alloc [(.s (.int .i64 0)), (.full []), (.full [])]),⟨none, none, .store 3 (.t 1) (.t 40)⟩,⟨none, none, .store 3 (.t 2) (.t 41)⟩,⟨none, none, .store 3 (.t 3) (.t 42)⟩,⟨none, none, .store 3 (.t 4) (.t 43)⟩]
def c12r2 : LO := [oP 44 (.load 3 true (.t 1)),oP 45 (.call 42 [(.t 44)]),oP 46 (.load 3 true (.t 2)),oP 47 (.call 42 [(.t 46)]),oM 5 45,oM 6 47]
def c12r3 : LO := [oP 49 (.load 3 true (.t 2)),oP 50 (.call 33 [(.t 49)]),oM 48 50,oP 51 (.ext (.t 48) 0),oP 52 (.ext (.t 48) 1),oM 7 51,oM 8 52]
def c12r4 : LO := [oP 54 (.load 3 true (.t 2)),oP 55 (.call 13 [(.t 54), (nI 0), (nI 0)]),oM 53 55,oP 56 (.ext (.t 53) 0),oP 57 (.ext (.t 53) 1),oP 9 (.alloc [(.s (.int .i64 0)), (.s (.int .i64 0))]),⟨none, none, .store 2 (.t 9) (.t 56)⟩,oM 10 57]
def c12r5 : LO := [oP 59 (.load 3 true (.t 2)),oP 60 (.call 13 [(.t 59), (nI 0), (nI 2)]),oM 58 60,oP 61 (.ext (.t 58) 0),oP 62 (.ext (.t 58) 1),oP 11 (.alloc [(.s (.int .i64 0)), (.s (.int .i64 0))]),⟨none, none, .store 2 (.t 11) (.t 61)⟩,oM 12 62]
def c12r6 : LO := [oP 64 (.load 3 true (.t 3)),oP 65 (.call 15 [(.t 64), (nI 0)]),oM 63 65,oP 66 (.ext (.t 63) 0),oP 67 (.ext (.t 63) 1),oM 13 66,oM 14 67]
def c12r7 : LO := [oP 69 (.load 3 true (.t 1)),oP 70 (.call 17 [(.t 69)]),oM 68 70,oP 71 (.ext (.t 68) 0),oP 72 (.ext (.t 68) 1),oM 15 71,oM 16 72]
def c12r8 : LO := [oP 74 (.load 3 true (.t 1)),oP 75 (.call 19 [(.t 74)]),oM 73 75,oP 76 (.ext (.t 73) 0),oP 77 (.ext (.t 73) 1),oP 17 (.alloc [(.s (.int .i64 0)), (.s (.int .i64 0))]),⟨none, none, .store 2 (.t 17) (.t 76)⟩,oM 18 77]
def c12r9 : LO := [oP 79 (.load 3 true (.t 2)),oP 80 (.call 19 [(.t 79)]),oM 78 80,oP 81 (.ext (.t 78) 0),oP 82 (.ext (.t 78) 1),oP 19 (.alloc [(.s (.int .i64 0)), (.s (.int .i64 0))]),⟨none, none, .store 2 (.t 19) (.t 81)⟩,oM 20 82]
def c12r10 : LO := [oP 84 (.load 3 true (.t 1)),oP 85 (.buildSl 1 2 (.int .i64 0) [(0, (nI 0)), (1, (nI 8))]),oP 86 (.call 43 [(nI 1), (nI 2), (.t 85)]),oP 87 (.call 29 [(.t 84), (.t 86)]),oM 83 87,oP 88 (.ext (.t 83) 0),oP 89 (.ext (.t 83) 1),oM 21 88,oM 22 89]
def c12r11 : LO := [oP 91 (.load 3 true (.t 1)),oP 92 (.buildSl 1 2 (.int .i64 0) [(0, (nI 0)), (1, (nI 8))]),oP 93 (.call 43 [(nI 1), (nI 3), (.t 92)]),oP 94 (.call 29 [(.t 91), (.t 93)]),oM 90 94,oP 95 (.ext (.t 90) 0),oP 96 (.ext (.t 90) 1),oM 23 95,oM 24 96]
def c12r12 : LO := [oP 98 (.load 3 true (.t 1)),oP 99 (.buildSl 1 2 (.int .i64 0) [(0, (nI 0)), (1, (nI 0))]),oP 100 (.call 43 [(nI 1), (nI 2), (.t 99)]),oP 101 (.call 29 [(.t 98), (.t 100)]),oM 97 101,oP 102 (.ext (.t 97) 0),oP 103 (.ext (.t 97) 1),oM 25 102,oM 26 103]
def c12r13 : LO := [oP 105 (.load 3 true (.t 1)),oP 106 (.call 28 [(.t 105)]),oM 104 106,oP 107 (.ext (.t 104) 0),oP 108 (.ext (.t 104) 1),oP 27 (.alloc [(.s (.int .i64 0)), (.s (.int .i64 0)), (.full [])]),⟨none, none, .store 3 (.t 27) (.t 107)⟩,oM 28 108]
def c12r14 : LO := [oP 110 (.load 3 true (.t 1)),oP 111 (.call 22 [(.t 110), (nI 0), (nI 3)]),oM 109 111,oP 112 (.ext (.t 109) 0),oP 113 (.ext (.t 109) 1),oP 29 (.alloc [(.s (.int .i64 0)), (.s (.int .i64 0))]),⟨none, none, .store 2 (.t 29) (.t 112)⟩,oM 30 113]
def c12r15 : LO := [oP 115 (.load 3 true (.t 1)),oP 116 (.call 22 [(.t 115), (nI 0), (nI 11)]),oM 114 116,oP 117 (.ext (.t 114) 0),oP 118 (.ext (.t 114) 1),oP 31 (.alloc [(.s (.int .i64 0)), (.s (.int .i64 0))]),⟨none, none, .store 2 (.t 31) (.t 117)⟩,oM 32 118]
def c12r16 : LO := [oP 119 (.load 3 true (.t 4)),oP 120 (.call 44 [(.t 119)]),oP 121 (.load 3 true (.t 4)),oP 122 (.call 45 [(.t 121)]),oM 33 120,oM 34 122]
def c12r17 : LO := [oP 124 (.load 3 true (.t 4)),oP 125 (.call 24 [(.t 124)]),oM 123 125,oP 126 (.ext (.t 123) 0),oP 127 (.ext (.t 123) 1),oP 128 (.ext (.t 123) 2),oP 35 (.alloc [(.s (.int .i64 0)), (.s (.int .i64 0))]),oP 36 (.alloc [(.s (.int .i64 0)), (.s (.int .i64 0))]),⟨none, none, .store 2 (.t 35) (.t 126)⟩,⟨none, none, .store 2 (.t 36) (.t 127)⟩,oM 37 128]
def c12r18 : LO := [oM 129 5,oP 130 (.cmp .neq (.t 129) (nI 0)),oM 131 130,oH 132 131 false 6,oG 133 131 false (.cmp .neq (.t 132) (nI 17)),oP 134 (.pick (.t 131) bT (.t 133)),oM 135 134,oH 136 135 false 8,oG 137 135 false (.cmp .neq (.t 136) (nI 0)),oP 138 (.pick (.t 135) bT (.t 137)),oM 139 138,oH 140 139 false 10,oG 141 139 false (.cmp .neq (.t 140) (nI 0)),oP 142 (.pick (.t 139) bT (.t 141)),oM 143 142,oH 144 143 false 12,oG 145 143 false (.cmp .neq (.t 144) (nI 2)),oP 146 (.pick (.t 143) bT (.t 145)),oM 147 146,oH 148 147 false 14,oG 149 147 false (.cmp .neq (.t 148) (nI 0)),oP 150 (.pick (.t 147) bT (.t 149)),oM 151 150,oH 152 151 false 16,oG 153 151 false (.cmp .neq (.t 152) (nI 0)),oP 154 (.pick (.t 151) bT (.t 153)),oM 155 154,oH 156 155 false 18,oG 157 155 false (.cmp .neq (.t 156) (nI 0)),oP 158 (.pick (.t 155) bT (.t 157)),oM 159 158,oH 160 159 false 20,oG 161 159 false (.cmp .neq (.t 160) (nI 17)),oP 162 (.pick (.t 159) bT (.t 161)),oM 163 162,oH 164 163 false 22,oG 165 163 false (.cmp .neq (.t 164) (nI 0)),oP 166 (.pick (.t 163) bT (.t 165)),oM 167 166,oH 168 167 false 24,oG 169 167 false (.cmp .neq (.t 168) (nI 0)),oP 170 (.pick (.t 167) bT (.t 169)),oM 171 170,oH 172 171 false 26,oG 173 171 false (.cmp .neq (.t 172) (nI 14)),oP 174 (.pick (.t 171) bT (.t 173)),oM 175 174,oH 176 175 false 28,oG 177 175 false (.cmp .neq (.t 176) (nI 0)),oP 178 (.pick (.t 175) bT (.t 177)),oM 179 178,oH 180 179 false 30,oG 181 179 false (.cmp .neq (.t 180) (nI 0)),oP 182 (.pick (.t 179) bT (.t 181)),oM 183 182,oH 184 183 false 32,oG 185 183 false (.cmp .neq (.t 184) (nI 2)),oP 186 (.pick (.t 183) bT (.t 185)),oM 187 186,oH 188 187 false 33,oG 189 187 false (.cmp .neq (.t 188) (nI 0)),oP 190 (.pick (.t 187) bT (.t 189)),oM 191 190,oH 192 191 false 34,oG 193 191 false (.cmp .neq (.t 192) (nI 14)),oP 194 (.pick (.t 191) bT (.t 193)),oM 195 194,oH 196 195 false 37,oG 197 195 false (.cmp .neq (.t 196) (nI 0)),oP 198 (.pick (.t 195) bT (.t 197))]
def c12r19 : LO := [oP 0 (.mov bF)]
def c12r20 : LO := [oP 200 (.load 3 true (.t 1)),oP 201 (.load 3 true (.t 27)),oP 202 (.call 30 [(.t 200), (.t 201)]),oM 199 202,oP 203 (.ext (.t 199) 0),oP 204 (.ext (.t 199) 1),oM 38 203,oM 39 204]
def c12r21 : LO := [oM 205 7,oP 206 (.buildSl 1 1 (.int .i64 0) [(0, (nI 1))]),oP 207 (.call 47 [(.t 206)]),oP 208 (.buildSl 1 1 (.int .i64 0) [(0, (nI 2))]),oP 209 (.call 47 [(.t 208)]),oP 210 (.buildSl 1 2 (.slice []) [(0, (.t 207)), (1, (.t 209))]),oP 211 (.call 46 [(.t 205), (.t 210)]),oM 212 211,oG 213 212 true (.load 2 true (.t 9)),oG 214 212 true (.call 48 [(nI 1), (nI 2)]),oG 215 212 true (.eql true [(.int .i64), (.int .i64)] false (.t 213) (.t 214)),oP 216 (.pick (.t 212) (.t 215) bF),oM 217 216,oH 218 217 true 13,oG 219 217 true (.cmp .eql (.t 218) (nI 2)),oP 220 (.pick (.t 217) (.t 219) bF),oM 221 220,oH 222 221 true 15,oG 223 221 true (.call 48 [(nI 2), (nI 3)]),oG 224 221 true (.call 48 [(nI 1), (nI 3)]),oG 225 221 true (.buildSl 2 2 (.agg [(.int .i64 0), (.int .i64 0)]) [(0, (.t 223)), (1, (.t 224))]),oG 226 221 true (.call 21 [(.t 222), (.t 225)]),oP 227 (.pick (.t 221) (.t 226) bF),oM 228 227,oG 229 228 true (.load 2 true (.t 17)),oG 230 228 true (.call 48 [(nI 2), (nI 1)]),oG 231 228 true (.eql true [(.int .i64), (.int .i64)] false (.t 229) (.t 230)),oP 232 (.pick (.t 228) (.t 231) bF),oM 233 232,oH 234 233 true 21,oG 235 233 true (.cmp .eql (.t 234) (nI 3)),oP 236 (.pick (.t 233) (.t 235) bF),oM 237 236,oH 238 237 true 23,oG 239 237 true (.cmp .eql (.t 238) (nI 1)),oP 240 (.pick (.t 237) (.t 239) bF),oM 241 240,oH 242 241 true 39,oG 243 241 true (.cmp .eql (.t 242) (nI 0)),oP 244 (.pick (.t 241) (.t 243) bF),oM 245 244,oH 246 245 true 38,oG 247 245 true (.cmp .eql (.t 246) (nI 3)),oP 248 (.pick (.t 245) (.t 247) bF),oM 249 248,oG 250 249 true (.load 2 true (.t 29)),oG 251 249 true (.call 48 [(nI 27), (nI 8)]),oG 252 249 true (.eql true [(.int .i64), (.int .i64)] false (.t 250) (.t 251)),oP 253 (.pick (.t 249) (.t 252) bF),oM 254 253,oG 255 254 true (.load 2 true (.t 35)),oG 256 254 true (.call 48 [(nI 3), (nI 2)]),oG 257 254 true (.eql true [(.int .i64), (.int .i64)] false (.t 255) (.t 256)),oP 258 (.pick (.t 254) (.t 257) bF),oM 259 258,oG 260 259 true (.load 2 true (.t 36)),oG 261 259 true (.call 48 [(nI 4), (nI 1)]),oG 262 259 true (.eql true [(.int .i64), (.int .i64)] false (.t 260) (.t 261)),oP 263 (.pick (.t 259) (.t 262) bF),oM 0 263]
def f12 : FRow := ⟨(sR c12r0 (.seq (.reg 4 c12r1) (sR c12r2 (sR c12r3 (.seq (.reg 1 c12r4) (.seq (.reg 1 c12r5) (sR c12r6 (sR c12r7 (.seq (.reg 1 c12r8) (.seq (.reg 1 c12r9) (sR c12r10 (sR c12r11 (sR c12r12 (.seq (.reg 1 c12r13) (.seq (.reg 1 c12r14) (.seq (.reg 1 c12r15) (sR c12r16 (.seq (.reg 2 c12r17) (.seq (sR c12r18 (.cond (.t 198) (sR c12r19 .ret) .skip)) (sR c12r20 (sR c12r21 .ret))))))))))))))))))))), [.tmp 0], 264⟩
theorem qqm : f12.Ok Tryz.prog 12 := ⟨_, _, Tryz.func12, rfl, by kernel_rfl, by kernel_rfl, by kernel_rfl⟩
def c13r0 : LO := [oP 3 (.boxS (.t 0)),oP 6 (.alloc [(.s (.int .i64 0)), (.s (.int .i64 0))]),oP 7 (.mov (nI 0))]
def c13r1 : LO := [oP 11 (.load 3 true (.t 3)),oP 12 (.call 49 [(.t 11)]),oM 10 12,oP 13 (.ext (.t 10) 0),oP 14 (.ext (.t 10) 1),oM 8 13,oM 9 14]
def c13r2 : LO := [oM 16 9,oP 17 (.cmp .neq (.t 16) (nI 0)),oM 15 17]
def c13r3 : LO := [oP 18 (.build [(.s (.int .i64 0)), (.s (.int .i64 0))] []),oM 19 9,⟨none, none, .store 2 (.t 6) (.t 18)⟩,oM 7 19]
def c13r4 : LO := [oF 21 1 3,oL 22 21,oN 23 22,oP 24 (.arith .sub (.t 23) (nI 1)),oM 25 1,oP 26 (.buildSl 1 1 (.int .i64 0) [(0, (.t 25))]),oP 27 (.call 50 [(nI 0), (.t 24), (.t 26)]),oP 28 (.not (.t 27)),oM 29 28,oH 30 29 false 8,oG 31 29 false (.nilck (.t 30)),oG 32 29 false (.fieldAddr 4 (.t 31)),oG 33 29 false (.load 1 false (.t 32)),oG 34 29 false (.len false (.t 33)),oG 35 29 false (.arith .sub (.t 34) (nI 1)),oH 36 29 false 2,oG 37 29 false (.buildSl 1 1 (.int .i64 0) [(0, (.t 36))]),oG 38 29 false (.call 50 [(nI 0), (.t 35), (.t 37)]),oG 39 29 false (.not (.t 38)),oP 40 (.pick (.t 29) bT (.t 39)),oM 20 40]
def c13r5 : LO := [oP 41 (.build [(.s (.int .i64 0)), (.s (.int .i64 0))] []),⟨none, none, .store 2 (.t 6) (.t 41)⟩,oP 7 (.mov (nI 2))]
def c13r6 : LO := [oM 42 8,oM 43 1,oM 44 2,oP 45 (.call 51 [(.t 42), (.t 43), (.t 44)]),⟨none, none, .store 2 (.t 6) (.t 45)⟩,oP 7 (.mov (nI 0))]
def f13 : FRow := ⟨(.seq (.reg 1 c13r0) (sR c13r1 (.seq (.block 0 (sR c13r2 (.cond (.t 15) (sR c13r3 .ret) (sR c13r4 (.cond (.t 20) (sR c13r5 .ret) .skip))))) (sR c13r6 .ret)))), [.cell 6 2 true, .tmp 7], 46⟩
theorem qqn : f13.Ok Tryz.prog 13 := ⟨_, _, Tryz.func13, rfl, by kernel_rfl, by kernel_rfl, by kernel_rfl⟩
def c14r0 : LO := [oP 3 (.boxS (.t 0)),oP 6 (.alloc [(.s (.int .i64 0)), (.s (.int .i64 0))]),oP 7 (.mov (nI 0))]
def c14r1 : LO := [oP 9 (.load 3 true (.t 3)),oP 10 (.call 52 [(.t 9)]),oP 11 (.cmp .neq (.t 10) (nI 0))]
def c14r2 : LO := [oP 12 (.build [(.s (.int .i64 0)), (.s (.int .i64 0))] []),oP 13 (.load 3 true (.t 3)),oP 14 (.call 52 [(.t 13)]),⟨none, none, .store 2 (.t 6) (.t 12)⟩,oM 7 14]
def c14r3 : LO := [oP 15 (.load 3 true (.t 3)),oP 16 (.call 53 [(.t 15)]),oM 8 16]
def c14r4 : LO := [oM 17 1,oP 18 (.cmp .lss (.t 17) (nI 0)),oM 19 18,oH 20 19 false 1,oG 21 19 false (.fieldAddr 1 (.t 3)),oG 22 19 false (.load 1 false (.t 21)),oG 23 19 false (.len false (.t 22)),oG 24 19 false (.cmp .geq (.t 20) (.t 23)),oP 25 (.pick (.t 19) bT (.t 24)),oM 26 25,oH 27 26 false 2,oG 28 26 false (.cmp .lss (.t 27) (nI 0)),oP 29 (.pick (.t 26) bT (.t 28)),oM 30 29,oH 31 30 false 2,oH 32 30 false 8,oG 33 30 false (.len false (.t 32)),oG 34 30 false (.cmp .geq (.t 31) (.t 33)),oP 35 (.pick (.t 30) bT (.t 34))]
def c14r5 : LO := [oP 36 (.build [(.s (.int .i64 0)), (.s (.int .i64 0))] []),⟨none, none, .store 2 (.t 6) (.t 36)⟩,oP 7 (.mov (nI 2))]
def c14r6 : LO := [oP 37 (.load 3 true (.t 3)),oM 38 1,oM 39 8,oM 40 2,oP 41 (.call 54 [(.t 37), (.t 38), (.t 39), (.t 40)]),⟨none, none, .store 2 (.t 6) (.t 41)⟩,oP 7 (.mov (nI 0))]
def f14 : FRow := ⟨(.seq (.reg 1 c14r0) (.seq (sR c14r1 (.cond (.t 11) (sR c14r2 .ret) .skip)) (sR c14r3 (.seq (sR c14r4 (.cond (.t 35) (sR c14r5 .ret) .skip)) (sR c14r6 .ret))))), [.cell 6 2 true, .tmp 7], 42⟩
def c15r0 : LO := [oP 2 (.boxS (.t 0)),oP 4 (.mov (nI 0)),oP 5 (.mov (nI 0))]
def c15r1 : LO := [oP 9 (.load 3 true (.t 2)),oP 10 (.call 49 [(.t 9)]),oM 8 10,oP 11 (.ext (.t 8) 0),oP 12 (.ext (.t 8) 1),oM 6 11,oM 7 12]
def c15r2 : LO := [oM 14 7,oP 15 (.cmp .neq (.t 14) (nI 0)),oM 13 15]
def c15r3 : LO := [oM 16 7,oP 4 (.mov (nI 0)),oM 5 16]
def c15r4 : LO := [oM 18 6,oP 19 (.nilck (.t 18)),oF 20 4 19,oL 21 20,oN 22 21,oP 23 (.arith .sub (.t 22) (nI 1)),oM 24 1,oP 25 (.buildSl 1 1 (.int .i64 0) [(0, (.t 24))]),oP 26 (.call 50 [(nI 0), (.t 23), (.t 25)]),oP 27 (.not (.t 26)),oM 17 27]
def c15r5 : LO := [oP 4 (.mov (nI 0)),oP 5 (.mov (nI 2))]
def c15r6 : LO := [oM 28 6,oM 29 6,oP 30 (.nilck (.t 29)),oF 31 4 30,oL 32 31,oM 33 1,oI 34 32 33,oL 35 34,oP 36 (.idxA 1 (.t 35) (nI 0)),oL 37 36,oP 38 (.call 55 [(.t 28), (.t 37)]),oM 4 38,oP 5 (.mov (nI 0))]
def f15 : FRow := ⟨(sR c15r0 (sR c15r1 (.seq (.block 0 (sR c15r2 (.cond (.t 13) (sR c15r3 .ret) (sR c15r4 (.cond (.t 17) (sR c15r5 .ret) .skip))))) (sR c15r6 .ret)))), [.tmp 4, .tmp 5], 39⟩
theorem qqo : f15.Ok Tryz.prog 15 := ⟨_, _, Tryz.func15, rfl, by kernel_rfl, by kernel_rfl, by kernel_rfl⟩
def c16r0 : LO := [oP 2 (.boxS (.t 0)),oP 4 (.mov (nI 0)),oP 5 (.mov (nI 0))]
def c16r1 : LO := [oP 7 (.load 3 true (.t 2)),oP 8 (.call 52 [(.t 7)]),oP 9 (.cmp .neq (.t 8) (nI 0))]
def c16r2 : LO := [oP 10 (.load 3 true (.t 2)),oP 11 (.call 52 [(.t 10)]),oP 4 (.mov (nI 0)),oM 5 11]
def c16r3 : LO := [oP 12 (.load 3 true (.t 2)),oP 13 (.call 53 [(.t 12)]),oM 6 13]
def c16r4 : LO := [oM 14 1,oP 15 (.cmp .lss (.t 14) (nI 0)),oM 16 15,oH 17 16 false 1,oH 18 16 false 6,oG 19 16 false (.len false (.t 18)),oG 20 16 false (.cmp .geq (.t 17) (.t 19)),oP 21 (.pick (.t 16) bT (.t 20))]
def c16r5 : LO := [oP 4 (.mov (nI 0)),oP 5 (.mov (nI 2))]
def c16r6 : LO := [oP 22 (.load 3 true (.t 2)),oM 23 6,oM 24 1,oI 25 23 24,oL 26 25,oP 27 (.idxA 1 (.t 26) (nI 0)),oL 28 27,oP 29 (.call 56 [(.t 22), (.t 28)]),oM 4 29,oP 5 (.mov (nI 0))]
def f16 : FRow := ⟨(sR c16r0 (.seq (sR c16r1 (.cond (.t 9) (sR c16r2 .ret) .skip)) (sR c16r3 (.seq (sR c16r4 (.cond (.t 21) (sR c16r5 .ret) .skip)) (sR c16r6 .ret))))), [.tmp 4, .tmp 5], 30⟩
def c17r0 : LO := [oP 1 (.boxS (.t 0)),oP 2 (.mov (.c (.full []))),oP 3 (.mov (nI 0))]
def c17r1 : LO := [oP 11 (.load 3 true (.t 1)),oP 12 (.call 57 [(.t 11)]),oM 10 12,oP 13 (.ext (.t 10) 0),oP 14 (.ext (.t 10) 1),oM 4 13,oM 5 14]
def c17r2 : LO := [oM 15 5,oP 16 (.cmp .neq (.t 15) (nI 0))]
def c17r3 : LO := [oM 17 5,oP 2 (.mov (.c (.full []))),oM 3 17]
def c17r4 : LO := [oM 18 4,oP 19 (.call 58 [(.t 18)]),oM 6 19]
def c17r5 : LO := [oP 7 (.mov (.c (.full [])))]
def c17r6 : LO := [oM 20 6,oN 21 20,oP 22 (.mov (nI 0))]
def c17r7 : LO := [oP 23 (.cmp .lss (.t 22) (.t 21))]
def c17r8 : LO := [oI 24 20 22,oL 25 24,oM 9 25]
def c17r9 : LO := [oM 26 7,oM 27 9,oM 28 6,oP 29 (.call 60 [(.t 28)]),oP 30 (.call 59 [(.t 27), (.t 29)]),oP 31 (.buildSl 2 1 (.agg [(.int .i64 0), (.int .i64 0)]) [(0, (.t 30))]),oP 32 (.append 2 16 (.t 26) (.t 31)),oM 7 32]
def c17r10 : LO := [oP 33 (.arith .add (.t 22) (nI 1)),oM 22 33]
def c17l11 : ACode := (sR c17r7 (.seq (.cond (.t 23) .skip (.exit 0)) (.seq (.block 1 (sR c17r8 (.reg 1 c17r9))) (rG c17r10))))
def c17l11m : List Bool := zF<|zF<|zF<|zF<|zF<|zF<|zT<|zT<|z8<|zF<|zF<|zF<|zF<|zT<|zT<|zT<|z8<|zF<|zF<|zF<|zF<|[]
def c17r12 : LO := [oM 34 7,oM 2 34,oP 3 (.mov (nI 0))]
def f17 : FRow := ⟨(sR c17r0 (sR c17r1 (.seq (sR c17r2 (.cond (.t 16) (sR c17r3 .ret) .skip)) (sR c17r4 (sR c17r5 (.seq (sR c17r6 (.block 0 (.loop c17l11m [(7, none, 1)] c17l11))) (sR c17r12 .ret))))))), [.tmp 2, .tmp 3], 35⟩
theorem qqp : f17.Ok Tryz.prog 17 := ⟨_, _, Tryz.func17, rfl, by kernel_rfl, by kernel_rfl, by kernel_rfl⟩
def c18r0 : LO := [oP 1 (.boxS (.t 0)),oP 2 (.mov (.c (.full []))),oP 3 (.mov (nI 0))]
def c18r1 : LO := [oP 7 (.load 3 true (.t 1)),oP 8 (.call 61 [(.t 7)]),oP 9 (.cmp .neq (.t 8) (nI 0))]
def c18r2 : LO := [oP 10 (.load 3 true (.t 1)),oP 11 (.call 61 [(.t 10)]),oP 2 (.mov (.c (.full []))),oM 3 11]
def c18r3 : LO := [oP 12 (.load 3 true (.t 1)),oP 13 (.call 62 [(.t 12)]),oM 4 13]
def c18r4 : LO := [oP 5 (.mov (.c (.full [])))]
def c18r5 : LO := [oP 6 (.mov (nI 0))]
def c18r6 : LO := [oM 14 6,oM 15 4,oN 16 15,oP 17 (.cmp .lss (.t 14) (.t 16))]
def c18r7 : LO := [oM 20 5,oM 21 4,oM 22 6,oI 23 21 22,oL 24 23,oM 25 4,oP 26 (.call 63 [(.t 25)]),oP 27 (.call 31 [(.t 24), (.t 26)]),oP 28 (.buildSl 2 1 (.agg [(.int .i64 0), (.int .i64 0)]) [(0, (.t 27))]),oP 29 (.append 2 16 (.t 20) (.t 28)),oM 5 29]
def c18r8 : LO := [oM 18 6,oP 19 (.arith .add (.t 18) (nI 1)),oM 6 19]
def c18l9 : ACode := (.seq (sR c18r6 (.cond (.t 17) .skip (.exit 0))) (.seq (.block 1 (.reg 1 c18r7)) (rG c18r8)))
def c18l9m : List Bool := zF<|zF<|zF<|zF<|zT<|zT<|zT<|z8<|z8<|z8<|[]
def c18r10 : LO := [oM 30 5,oM 2 30,oP 3 (.mov (nI 0))]
def f18 : FRow := ⟨(sR c18r0 (.seq (sR c18r1 (.cond (.t 9) (sR c18r2 .ret) .skip)) (sR c18r3 (sR c18r4 (.seq (sR c18r5 (.block 0 (.loop c18l9m [(5, none, 1)] c18l9))) (sR c18r10 .ret)))))), [.tmp 2, .tmp 3], 31⟩
def c19r0 : LO := [oP 1 (.boxS (.t 0)),oP 2 (.alloc [(.s (.int .i64 0)), (.s (.int .i64 0))]),oP 3 (.mov (nI 0))]
def c19r1 : LO := [oP 7 (.load 3 true (.t 1)),oP 8 (.call 57 [(.t 7)]),oM 6 8,oP 9 (.ext (.t 6) 0),oP 10 (.ext (.t 6) 1),oM 4 9,oM 5 10]
def c19r2 : LO := [oM 11 5,oP 12 (.cmp .neq (.t 11) (nI 0))]
def c19r3 : LO := [oP 13 (.build [(.s (.int .i64 0)), (.s (.int .i64 0))] []),oM 14 5,⟨none, none, .store 2 (.t 2) (.t 13)⟩,oM 3 14]
def c19r4 : LO := [oM 15 4,oP 16 (.call 64 [(.t 15)]),⟨none, none, .store 2 (.t 2) (.t 16)⟩,oP 3 (.mov (nI 0))]
def f19 : FRow := ⟨(.seq (.reg 1 c19r0) (sR c19r1 (.seq (sR c19r2 (.cond (.t 12) (sR c19r3 .ret) .skip)) (sR c19r4 .ret)))), [.cell 2 2 true, .tmp 3], 17⟩
theorem qqq : f19.Ok Tryz.prog 19 := ⟨_, _, Tryz.func19, rfl, by kernel_rfl, by kernel_rfl, by kernel_rfl⟩
def c20r0 : LO := [oP 1 (.boxS (.t 0)),oP 2 (.alloc [(.s (.int .i64 0)), (.s (.int .i64 0))]),oP 3 (.mov (nI 0))]
def c20r1 : LO := [oP 4 (.load 3 true (.t 1)),oP 5 (.call 61 [(.t 4)]),oP 6 (.cmp .neq (.t 5) (nI 0))]
def c20r2 : LO := [oP 7 (.build [(.s (.int .i64 0)), (.s (.int .i64 0))] []),oP 8 (.load 3 true (.t 1)),oP 9 (.call 61 [(.t 8)]),⟨none, none, .store 2 (.t 2) (.t 7)⟩,oM 3 9]
def c20r3 : LO := [oP 10 (.load 3 true (.t 1)),oP 11 (.call 65 [(.t 10)]),⟨none, none, .store 2 (.t 2) (.t 11)⟩,oP 3 (.mov (nI 0))]
def f20 : FRow := ⟨(.seq (.reg 1 c20r0) (.seq (sR c20r1 (.cond (.t 6) (sR c20r2 .ret) .skip)) (sR c20r3 .ret))), [.cell 2 2 true, .tmp 3], 12⟩
def c21r0 : LO := [oP 4 (.mov bF)]
def c21r1 : LO := [oM 6 0,oN 7 6,oM 8 1,oN 9 8,oP 10 (.cmp .neq (.t 7) (.t 9))]
def c21r2 : LO := [oP 4 (.mov bF)]
def c21r3 : LO := [oP 5 (.mov (nI 0))]
def c21r4 : LO := [oM 11 5,oM 12 0,oN 13 12,oP 14 (.cmp .lss (.t 11) (.t 13))]
def c21r5 : LO := [oM 17 0,oM 18 5,oP 19 (.idxA 2 (.t 17) (.t 18)),oP 20 (.load 2 true (.t 19)),oM 21 1,oM 22 5,oP 23 (.idxA 2 (.t 21) (.t 22)),oP 24 (.load 2 true (.t 23)),oP 25 (.eql true [(.int .i64), (.int .i64)] true (.t 20) (.t 24))]
def c21r6 : LO := [oP 4 (.mov bF)]
def c21r7 : LO := [oM 15 5,oP 16 (.arith .add (.t 15) (nI 1)),oM 5 16]
def c21l8 : ACode := (.seq (sR c21r4 (.cond (.t 14) .skip (.exit 0))) (.seq (.block 1 (sR c21r5 (.cond (.t 25) (sR c21r6 .ret) .skip))) (rG c21r7)))
def c21l8m : List Bool := zT<|zT<|zF<|zF<|zF<|zT<|z8<|z8<|zF<|zF<|zF<|zF<|[]
def c21r9 : LO := [oP 4 (.mov bT)]
def f21 : FRow := ⟨(sR c21r0 (.seq (sR c21r1 (.cond (.t 10) (sR c21r2 .ret) .skip)) (.seq (sR c21r3 (.block 0 (.loop c21l8m [] c21l8))) (sR c21r9 .ret)))), [.tmp 4], 26⟩
theorem qqr : f21.Ok Tryz.prog 21 := ⟨_, _, Tryz.func21, rfl, by kernel_rfl, by kernel_rfl, by kernel_rfl⟩
def c22r0 : LO := [oP 3 (.boxS (.t 0)),oP 6 (.alloc [(.s (.int .i64 0)), (.s (.int .i64 0))]),oP 7 (.mov (nI 0))]
def c22r1 : LO := [oP 13 (.load 3 true (.t 3)),oP 14 (.call 49 [(.t 13)]),oM 12 14,oP 15 (.ext (.t 12) 0),oP 16 (.ext (.t 12) 1),oM 8 15,oM 9 16]
def c22r2 : LO := [oM 18 9,oP 19 (.cmp .neq (.t 18) (nI 0)),oM 17 19]
def c22r3 : LO := [oP 20 (.build [(.s (.int .i64 0)), (.s (.int .i64 0))] []),oM 21 9,⟨none, none, .store 2 (.t 6) (.t 20)⟩,oM 7 21]
def c22r4 : LO := [oF 23 1 3,oL 24 23,oN 25 24,oP 26 (.arith .sub (.t 25) (nI 1)),oM 27 1,oP 28 (.buildSl 1 1 (.int .i64 0) [(0, (.t 27))]),oP 29 (.call 50 [(nI 0), (.t 26), (.t 28)]),oP 30 (.not (.t 29)),oM 31 30,oH 32 31 false 2,oG 33 31 false (.buildSl 1 1 (.int .i64 0) [(0, (.t 32))]),oG 34 31 false (.call 50 [(nI 0), (nI 10), (.t 33)]),oG 35 31 false (.not (.t 34)),oP 36 (.pick (.t 31) bT (.t 35)),oM 22 36]
def c22r5 : LO := [oP 37 (.build [(.s (.int .i64 0)), (.s (.int .i64 0))] []),⟨none, none, .store 2 (.t 6) (.t 37)⟩,oP 7 (.mov (nI 2))]
def c22r6 : LO := [oP 10 (.mov (nI 1))]
def c22r7 : LO := [oP 11 (.mov (nI 1))]
def c22r8 : LO := [oM 38 11,oM 39 2,oP 40 (.cmp .lss (.t 38) (.t 39))]
def c22r9 : LO := [oM 43 10,oF 44 0 3,oL 45 44,oP 46 (.arith .mul (.t 43) (.t 45)),oM 10 46]
def c22r10 : LO := [oM 41 11,oP 42 (.arith .add (.t 41) (nI 1)),oM 11 42]
def c22l11 : ACode := (.seq (sR c22r8 (.cond (.t 40) .skip (.exit 1))) (.seq (.block 2 (rG c22r9)) (rG c22r10)))
def c22l11m : List Bool := zF<|zT<|zT<|zT<|zF<|zF<|zT<|zF<|zT<|zF<|zT<|zT<|z8<|z8<|z8<|z8<|z8<|zF<|[]
def c22r12 : LO := [oM 47 8,oM 48 1,oM 49 2,oP 50 (.call 66 [(.t 47), (.t 48), (.t 49)]),oM 51 10,oP 52 (.call 59 [(.t 50), (.t 51)]),⟨none, none, .store 2 (.t 6) (.t 52)⟩,oP 7 (.mov (nI 0))]
def f22 : FRow := ⟨(.seq (.reg 1 c22r0) (sR c22r1 (.seq (.block 0 (sR c22r2 (.cond (.t 17) (sR c22r3 .ret) (sR c22r4 (.cond (.t 22) (sR c22r5 .ret) .skip))))) (sR c22r6 (.seq (sR c22r7 (.block 1 (.loop c22l11m [] c22l11))) (sR c22r12 .ret)))))), [.cell 6 2 true, .tmp 7], 53⟩
theorem qqs : f22.Ok Tryz.prog 22 := ⟨_, _, Tryz.func22, rfl, by kernel_rfl, by kernel_rfl, by kernel_rfl⟩
def c24r0 : LO := [oP 1 (.boxS (.t 0)),oP 2 (.alloc [(.s (.int .i64 0)), (.s (.int .i64 0))]),oP 3 (.alloc [(.s (.int .i64 0)), (.s (.int .i64 0))]),oP 4 (.mov (nI 0))]
def c24r1 : LO := [oP 11 (.load 3 true (.t 1)),oP 12 (.call 44 [(.t 11)]),oM 5 12]
def c24r2 : LO := [oM 13 5,oP 14 (.cmp .neq (.t 13) (nI 0))]
def c24r3 : LO := [oP 15 (.build [(.s (.int .i64 0)), (.s (.int .i64 0))] []),oP 16 (.build [(.s (.int .i64 0)), (.s (.int .i64 0))] []),oM 17 5,⟨none, none, .store 2 (.t 2) (.t 15)⟩,⟨none, none, .store 2 (.t 3) (.t 16)⟩,oM 4 17]
def c24r4 : LO := [oP 6 (.alloc [(.full [])])]
def c24r5 : LO := [oP 18 (.load 3 true (.t 1)),oP 19 (.call 67 [(.t 18)])]
def c24r6 : LO := [oP 7 (.alloc [(.s (.int .i64 0)), (.full []), (.full [])]),⟨none, none, .store 3 (.t 7) (.t 20)⟩]
def c24r7 : LO := [oP 21 (.load 3 true (.t 7)),oP 22 (.call 68 [(.t 21)]),oP 23 (.mkfn 64 [(.t 22)] []),oM 8 23]
def c24r8 : LO := [oL 24 6,oM 25 8,oP 26 (.callv (.t 25) []),oP 27 (.buildSl 2 1 (.agg [(.int .i64 0), (.int .i64 0)]) [(0, (.t 26))]),oP 28 (.append 2 16 (.t 24) (.t 27)),⟨none, none, .store 1 (.t 6) (.t 28)⟩]
def c24b9 : ACode := (.block 1 (sR c24r7 (.reg 1 c24r8)))
def c24b9a : ACode := (.reg 1 c24r6)
def c24r10 : LO := [oP 9 (.alloc [.any]),⟨none, none, .store 1 (.t 9) (.c (.s (.fn 69 [] [])))⟩]
def c24r11 : LO := [oP 29 (.mkfn 70 [] [(.t 9)]),oM 10 29]
def c24r12 : LO := [oL 30 6,oL 31 9,oP 32 (.call 71 [(.t 30), (.t 31)]),oL 33 6,oM 34 10,oP 35 (.call 71 [(.t 33), (.t 34)]),⟨none, none, .store 2 (.t 2) (.t 32)⟩,⟨none, none, .store 2 (.t 3) (.t 35)⟩,oP 4 (.mov (nI 0))]
def t24 : BRow := ⟨(.seq (.code (.reg 2 c24r0)) (.seq (.code (sR c24r1 (sR c24r2 (.cond (.t 14) (sR c24r3 .ret) .skip)))) (.seq (.code (.reg 1 c24r4)) (.seq (.seq (.code (rG c24r5)) (.block 0 (.promo [(6, some 0, 1)] (.rangeF 1 (.t 19) 20 c24b9a c24b9)))) (.code (.seq (.reg 1 c24r10) (sR c24r11 (sR c24r12 .ret)))))))), [.cell 2 2 true, .cell 3 2 true, .tmp 4], 36⟩
theorem qqt : t24.Ok Tryz.prog 24 := ⟨_, _, Tryz.func24, rfl, by kernel_rfl, by kernel_rfl, by kernel_rfl⟩
def c26r0 : LO := [oP 1 (.boxS (.t 0)),oP 2 (.mov bF)]
def c26r1 : LO := [oP 3 (.load 3 true (.t 1)),oP 4 (.call 11 [(.t 3)]),oP 5 (.not (.t 4)),oM 6 5,oG 7 6 true (.load 3 true (.t 1)),oG 8 6 true (.call 61 [(.t 7)]),oG 9 6 true (.cmp .eql (.t 8) (nI 0)),oP 10 (.pick (.t 6) (.t 9) bF),oM 2 10]
def f26 : FRow := ⟨(sR c26r0 (sR c26r1 .ret)), [.tmp 2], 11⟩
theorem qqu : f26.Ok Tryz.prog 26 := ⟨_, _, Tryz.func26, rfl, by kernel_rfl, by kernel_rfl, by kernel_rfl⟩
def c27r0 : LO := [oP 1 (.boxS (.t 0)),oP 2 (.alloc [(.s (.int .i64 0)), (.s (.int .i64 0))]),oP 3 (.mov bF)]
def c27r1 : LO := [oP 7 (.load 3 true (.t 1)),oP 8 (.call 19 [(.t 7)]),oM 6 8,oP 9 (.ext (.t 6) 0),oP 10 (.ext (.t 6) 1),oP 4 (.alloc [(.s (.int .i64 0)), (.s (.int .i64 0))]),⟨none, none, .store 2 (.t 4) (.t 9)⟩,oM 5 10]
def c27r2 : LO := [oP 11 (.load 2 true (.t 4)),oM 12 5,oP 13 (.cmp .eql (.t 12) (nI 0)),oM 14 13,oG 15 14 true (.load 2 true (.t 4)),oG 16 14 true (.call 77 [(.t 15)]),oP 17 (.pick (.t 14) (.t 16) bF),⟨none, none, .store 2 (.t 2) (.t 11)⟩,oM 3 17]
def f27 : FRow := ⟨(.seq (.reg 1 c27r0) (.seq (.reg 1 c27r1) (sR c27r2 .ret))), [.cell 2 2 true, .tmp 3], 18⟩
theorem qqv : f27.Ok Tryz.prog 27 := ⟨_, _, Tryz.func27, rfl, by kernel_rfl, by kernel_rfl, by kernel_rfl⟩
def c28r0 : LO := [oP 1 (.boxS (.t 0)),oP 2 (.alloc [(.s (.int .i64 0)), (.s (.int .i64 0)), (.full [])]),oP 3 (.mov (nI 0))]
def c28r1 : LO := [oP 7 (.load 3 true (.t 1)),oP 8 (.call 57 [(.t 7)]),oM 6 8,oP 9 (.ext (.t 6) 0),oP 10 (.ext (.t 6) 1),oM 4 9,oM 5 10]
def c28r2 : LO := [oM 11 5,oP 12 (.cmp .neq (.t 11) (nI 0))]
def c28r3 : LO := [oP 13 (.build [(.s (.int .i64 0)), (.s (.int .i64 0)), (.full [])] []),oM 14 5,⟨none, none, .store 3 (.t 2) (.t 13)⟩,oM 3 14]
def c28r4 : LO := [oM 15 4,oP 16 (.call 78 [(.t 15)]),⟨none, none, .store 3 (.t 2) (.t 16)⟩,oP 3 (.mov (nI 0))]
def f28 : FRow := ⟨(.seq (.reg 1 c28r0) (sR c28r1 (.seq (sR c28r2 (.cond (.t 12) (sR c28r3 .ret) .skip)) (sR c28r4 .ret)))), [.cell 2 3 true, .tmp 3], 17⟩
theorem qqw : f28.Ok Tryz.prog 28 := ⟨_, _, Tryz.func28, rfl, by kernel_rfl, by kernel_rfl, by kernel_rfl⟩
def c29r0 : LO := [oP 2 (.boxS (.t 0)),oP 3 (.boxS (.t 1)),oP 4 (.mov (nI 0)),oP 5 (.mov (nI 0))]
def c29r1 : LO := [oP 13 (.load 3 true (.t 2)),oP 14 (.call 49 [(.t 13)]),oM 12 14,oP 15 (.ext (.t 12) 0),oP 16 (.ext (.t 12) 1),oM 6 15,oM 7 16]
def c29r2 : LO := [oM 18 7,oP 19 (.cmp .neq (.t 18) (nI 0)),oM 17 19]
def c29r3 : LO := [oM 20 7,oP 4 (.mov (nI 0)),oM 5 20]
def c29r4 : LO := [oF 22 2 3,oL 23 22,oN 24 23,oF 25 1 2,oL 26 25,oN 27 26,oP 28 (.cmp .neq (.t 24) (.t 27)),oM 21 28]
def c29r5 : LO := [oP 4 (.mov (nI 0)),oP 5 (.mov (nI 15))]
def c29r6 : LO := [oF 30 0 3,oL 31 30,oP 32 (.buildSl 1 1 (.int .i64 0) [(0, (.t 31))]),oP 33 (.call 50 [(nI 1), (nI 1099511627776), (.t 32)]),oP 34 (.not (.t 33)),oM 35 34,oG 36 35 false (.fieldAddr 1 (.t 3)),oG 37 35 false (.load 1 false (.t 36)),oG 38 35 false (.buildSl 1 1 (.int .i64 0) [(0, (.t 37))]),oG 39 35 false (.call 50 [(nI (-1125899906842624)), (nI 1125899906842624), (.t 38)]),oG 40 35 false (.not (.t 39)),oP 41 (.pick (.t 35) bT (.t 40)),oM 42 41,oG 43 42 false (.fieldAddr 2 (.t 3)),oG 44 42 false (.load 1 false (.t 43)),oG 45 42 false (.call 50 [(nI (-1125899906842624)), (nI 1125899906842624), (.t 44)]),oG 46 42 false (.not (.t 45)),oP 47 (.pick (.t 42) bT (.t 46)),oM 29 47]
def c29r7 : LO := [oP 4 (.mov (nI 0)),oP 5 (.mov (nI 3))]
def c29r8 : LO := [oP 8 (.mov (nI 3))]
def c29r9 : LO := [oM 48 6,oP 49 (.load 3 true (.t 3)),oP 50 (.call 79 [(.t 48), (.t 49)]),oM 9 50]
def c29r10 : LO := [oF 51 1 2,oL 52 51,oN 53 52,oP 54 (.mov (nI 0))]
def c29r11 : LO := [oP 55 (.cmp .lss (.t 54) (.t 53))]
def c29r12 : LO := [oM 56 54,oM 10 56]
def c29r13 : LO := [oM 57 9,oM 58 10,oP 59 (.callv (.t 57) [(.t 58)]),oM 11 59]
def c29r14 : LO := [oM 61 11,oP 62 (.cmp .gtr (.t 61) (nI 0)),oM 60 62]
def c29r15 : LO := [oM 63 8,oP 64 (.bits .andNot (.t 63) (nI 1)),oM 8 64]
def c29r16 : LO := [oM 66 11,oP 67 (.cmp .lss (.t 66) (nI 0)),oM 65 67]
def c29r17 : LO := [oM 68 8,oP 69 (.bits .andNot (.t 68) (nI 2)),oM 8 69]
def c29r18 : LO := [oP 70 (.arith .add (.t 54) (nI 1)),oM 54 70]
def c29l19 : ACode := (sR c29r11 (.seq (.cond (.t 55) .skip (.exit 1)) (.seq (.block 2 (sR c29r12 (sR c29r13 (.block 3 (sR c29r14 (.cond (.t 60) (rG c29r15) (sR c29r16 (.cond (.t 65) (rG c29r17) .skip)))))))) (rG c29r18))))
def c29l19m : List Bool := z8<|zT<|zT<|z8<|z8<|z8<|z8<|z8<|zF<|zF<|zF<|zT<|zT<|z8<|z8<|zF<|zF<|zF<|[]
def c29r20 : LO := [oM 71 8,oP 72 (.cmp .eql (.t 71) (nI 0))]
def c29r21 : LO := [oP 4 (.mov (nI 0)),oP 5 (.mov (nI 14))]
def c29r22 : LO := [oM 73 8,oM 4 73,oP 5 (.mov (nI 0))]
def f29 : FRow := ⟨(sR c29r0 (sR c29r1 (.seq (.block 0 (sR c29r2 (.cond (.t 17) (sR c29r3 .ret) (sR c29r4 (.cond (.t 21) (sR c29r5 .ret) (sR c29r6 (.cond (.t 29) (sR c29r7 .ret) .skip))))))) (sR c29r8 (sR c29r9 (.seq (sR c29r10 (.block 1 (.loop c29l19m [] c29l19))) (.seq (sR c29r20 (.cond (.t 72) (sR c29r21 .ret) .skip)) (sR c29r22 .ret)))))))), [.tmp 4, .tmp 5], 74⟩
theorem qqx : f29.Ok Tryz.prog 29 := ⟨_, _, Tryz.func29, rfl, by kernel_rfl, by kernel_rfl, by kernel_rfl⟩
def c30r0 : LO := [oP 2 (.boxS (.t 0)),oP 3 (.boxS (.t 1)),oP 4 (.mov (nI 0)),oP 5 (.mov (nI 0))]
def c30r1 : LO := [oP 13 (.load 3 true (.t 2)),oP 14 (.call 52 [(.t 13)]),oP 15 (.cmp .neq (.t 14) (nI 0))]
def c30r2 : LO := [oP 16 (.load 3 true (.t 2)),oP 17 (.call 52 [(.t 16)]),oP 4 (.mov (nI 0)),oM 5 17]
def c30r3 : LO := [oF 18 2 3,oL 19 18,oN 20 19,oF 21 1 2,oL 22 21,oN 23 22,oP 24 (.cmp .neq (.t 20) (.t 23))]
def c30r4 : LO := [oP 4 (.mov (nI 0)),oP 5 (.mov (nI 15))]
def c30r5 : LO := [oF 25 0 3,oL 26 25,oP 27 (.cmp .lss (.t 26) (nI 1)),oM 28 27,oG 29 28 false (.fieldAddr 0 (.t 3)),oG 30 28 false (.load 1 false (.t 29)),oG 31 28 false (.cmp .gtr (.t 30) (nI 1099511627776)),oP 32 (.pick (.t 28) bT (.t 31)),oM 33 32,oG 34 33 false (.fieldAddr 1 (.t 3)),oG 35 33 false (.load 1 false (.t 34)),oG 36 33 false (.cmp .lss (.t 35) (nI (-1125899906842624))),oP 37 (.pick (.t 33) bT (.t 36)),oM 38 37,oG 39 38 false (.fieldAddr 1 (.t 3)),oG 40 38 false (.load 1 false (.t 39)),oG 41 38 false (.cmp .gtr (.t 40) (nI 1125899906842624)),oP 42 (.pick (.t 38) bT (.t 41))]
def c30r6 : LO := [oP 4 (.mov (nI 0)),oP 5 (.mov (nI 3))]
def c30r7 : LO := [oP 6 (.mov (nI 0))]
def c30r8 : LO := [oM 43 6,oF 44 2 3,oL 45 44,oN 46 45,oP 47 (.cmp .lss (.t 43) (.t 46))]
def c30r9 : LO := [oF 50 2 3,oL 51 50,oM 52 6,oI 53 51 52,oL 54 53,oP 55 (.cmp .lss (.t 54) (nI (-1125899906842624))),oM 56 55,oG 57 56 false (.fieldAddr 2 (.t 3)),oG 58 56 false (.load 1 false (.t 57)),oH 59 56 false 6,oG 60 56 false (.idxA 1 (.t 58) (.t 59)),oG 61 56 false (.load 1 false (.t 60)),oG 62 56 false (.cmp .gtr (.t 61) (nI 1125899906842624)),oP 63 (.pick (.t 56) bT (.t 62))]
def c30r10 : LO := [oP 4 (.mov (nI 0)),oP 5 (.mov (nI 3))]
def c30r11 : LO := [oM 48 6,oP 49 (.arith .add (.t 48) (nI 1)),oM 6 49]
def c30l12 : ACode := (.seq (sR c30r8 (.cond (.t 47) .skip (.exit 0))) (.seq (.block 1 (sR c30r9 (.cond (.t 63) (sR c30r10 .ret) .skip))) (rG c30r11)))
def c30l12m : List Bool := zF<|zF<|zT<|zT<|zF<|zF<|zT<|z8<|z8<|z8<|z8<|z8<|z8<|z8<|z8<|z8<|z8<|z8<|z8<|z8<|z8<|z8<|zF<|zF<|zF<|zF<|zF<|zF<|zF<|[]
def c30r13 : LO := [oP 7 (.mov bT),oP 8 (.mov bT)]
def c30r14 : LO := [oP 9 (.mov (nI 0))]
def c30r15 : LO := [oM 64 9,oF 65 1 2,oL 66 65,oN 67 66,oP 68 (.cmp .lss (.t 64) (.t 67))]
def c30r16 : LO := [oF 71 0 2,oL 72 71,oF 73 2 2,oL 74 73,oM 75 9,oI 76 74 75,oL 77 76,oP 78 (.arith .mul (.t 72) (.t 77)),oF 79 0 3,oL 80 79,oP 81 (.arith .mul (.t 78) (.t 80)),oF 82 0 2,oL 83 82,oF 84 1 3,oL 85 84,oF 86 2 3,oL 87 86,oM 88 9,oI 89 87 88,oL 90 89,oP 91 (.arith .add (.t 85) (.t 90)),oP 92 (.arith .mul (.t 83) (.t 91)),oM 10 81,oM 11 92]
def c30r17 : LO := [oP 12 (.mov (nI 0))]
def c30r18 : LO := [oM 93 12,oF 94 1 2,oL 95 94,oN 96 95,oP 97 (.cmp .lss (.t 93) (.t 96))]
def c30r19 : LO := [oM 100 10,oF 101 1 2,oL 102 101,oM 103 9,oI 104 102 103,oL 105 104,oM 106 12,oI 107 105 106,oL 108 107,oF 109 2 3,oL 110 109,oM 111 12,oI 112 110 111,oL 113 112,oP 114 (.arith .mul (.t 108) (.t 113)),oP 115 (.arith .add (.t 100) (.t 114)),oM 10 115]
def c30r20 : LO := [oM 98 12,oP 99 (.arith .add (.t 98) (nI 1)),oM 12 99]
def c30l21 : ACode := (.seq (sR c30r18 (.cond (.t 97) .skip (.exit 4))) (.seq (.block 5 (rG c30r19)) (rG c30r20)))
def c30l21m : List Bool := zF<|zF<|zT<|zT<|zF<|zF<|zF<|zT<|zT<|zT<|zT<|zT<|zT<|z8<|z8<|z8<|z8<|z8<|z8<|z8<|z8<|z8<|z8<|z8<|z8<|z8<|z8<|z8<|zF<|[]
def c30r22 : LO := [oM 116 7,oM 117 116,oH 118 117 true 10,oH 119 117 true 11,oG 120 117 true (.cmp .leq (.t 118) (.t 119)),oP 121 (.pick (.t 117) (.t 120) bF),oM 122 8,oM 123 122,oH 124 123 true 10,oH 125 123 true 11,oG 126 123 true (.cmp .geq (.t 124) (.t 125)),oP 127 (.pick (.t 123) (.t 126) bF),oM 7 121,oM 8 127]
def c30r23 : LO := [oM 69 9,oP 70 (.arith .add (.t 69) (nI 1)),oM 9 70]
def c30l24 : ACode := (.seq (sR c30r15 (.cond (.t 68) .skip (.exit 2))) (.seq (.block 3 (sR c30r16 (.seq (sR c30r17 (.block 4 (.loop c30l21m [] c30l21))) (rG c30r22)))) (rG c30r23)))
def c30l24m : List Bool := zF<|zF<|zT<|zT<|zF<|zF<|zF<|zT<|zT<|zT<|z8<|z8<|z8<|z8<|z8<|z8<|z8<|z8<|z8<|z8<|z8<|z8<|z8<|z8<|z8<|zF<|zF<|zF<|zF<|[]
def c30r25 : LO := [oM 128 7,oM 129 128,oH 130 129 true 8,oP 131 (.pick (.t 129) (.t 130) bF)]
def c30r26 : LO := [oP 4 (.mov (nI 3)),oP 5 (.mov (nI 0))]
def c30r27 : LO := [oM 132 7]
def c30r28 : LO := [oP 4 (.mov (nI 1)),oP 5 (.mov (nI 0))]
def c30r29 : LO := [oM 133 8]
def c30r30 : LO := [oP 4 (.mov (nI 2)),oP 5 (.mov (nI 0))]
def c30r31 : LO := [oP 4 (.mov (nI 0)),oP 5 (.mov (nI 14))]
def f30 : FRow := ⟨(sR c30r0 (.seq (sR c30r1 (.cond (.t 15) (sR c30r2 .ret) .skip)) (.seq (sR c30r3 (.cond (.t 24) (sR c30r4 .ret) .skip)) (.seq (sR c30r5 (.cond (.t 42) (sR c30r6 .ret) .skip)) (.seq (sR c30r7 (.block 0 (.loop c30l12m [] c30l12))) (sR c30r13 (.seq (sR c30r14 (.block 2 (.loop c30l24m [] c30l24))) (.seq (sR c30r25 (.cond (.t 131) (sR c30r26 .ret) .skip)) (.seq (sR c30r27 (.cond (.t 132) (sR c30r28 .ret) .skip)) (.seq (sR c30r29 (.cond (.t 133) (sR c30r30 .ret) .skip)) (sR c30r31 .ret))))))))))), [.tmp 4, .tmp 5], 134⟩
theorem qqy : f30.Ok Tryz.prog 30 := ⟨_, _, Tryz.func30, rfl, by kernel_rfl, by kernel_rfl, by kernel_rfl⟩
def c31r0 : LO := [oP 4 (.alloc [(.s (.int .i64 0)), (.s (.int .i64 0))])]
def c31r1 : LO := [oM 6 0,oM 7 0,oP 8 (.neg (.t 7)),oP 9 (.max [(.t 6), (.t 8)]),oM 10 1,oP 11 (.call 34 [(.t 9), (.t 10)]),oM 5 11]
def c31r2 : LO := [oM 12 0,oM 13 5,oP 14 (.div .quo (.t 12) (.t 13)),oM 15 1,oM 16 5,oP 17 (.div .quo (.t 15) (.t 16)),oP 18 (.build [(.s (.int .i64 0)), (.s (.int .i64 0))] [(0, 1, (.t 14)), (1, 1, (.t 17))]),⟨none, none, .store 2 (.t 4) (.t 18)⟩]
def f31 : FRow := ⟨(.seq (.reg 1 c31r0) (sR c31r1 (sR c31r2 .ret))), [.cell 4 2 true], 19⟩
theorem qqz : f31.Ok Tryz.prog 31 := ⟨_, _, Tryz.func31, rfl, by kernel_rfl, by kernel_rfl, by kernel_rfl⟩
def c32r0 : LO := [oP 1 (.boxS (.t 0)),oP 2 (.mov (.c (.full []))),oP 3 (.mov bF)]
def c32r1 : LO := [oP 9 (.load 3 true (.t 1)),oP 10 (.call 17 [(.t 9)]),oM 8 10,oP 11 (.ext (.t 8) 0),oP 12 (.ext (.t 8) 1),oM 4 11,oM 5 12]
def c32r2 : LO := [oM 13 5,oP 14 (.cmp .neq (.t 13) (nI 0)),oM 15 14,oH 16 15 false 4,oG 17 15 false (.len false (.t 16)),oG 18 15 false (.fieldAddr 1 (.t 1)),oG 19 15 false (.load 1 false (.t 18)),oG 20 15 false (.len false (.t 19)),oG 21 15 false (.cmp .neq (.t 17) (.t 20)),oP 22 (.pick (.t 15) bT (.t 21))]
def c32r3 : LO := [oP 2 (.mov (.c (.full []))),oP 3 (.mov bF)]
def c32r4 : LO := [oP 23 (.call 48 [(nI 0), (nI 1)]),oP 6 (.alloc [(.s (.int .i64 0)), (.s (.int .i64 0))]),⟨none, none, .store 2 (.t 6) (.t 23)⟩]
def c32r5 : LO := [oP 7 (.mov (nI 0))]
def c32r6 : LO := [oM 24 7,oM 25 4,oN 26 25,oP 27 (.cmp .lss (.t 24) (.t 26))]
def c32r7 : LO := [oM 30 4,oM 31 7,oP 32 (.idxA 2 (.t 30) (.t 31)),oP 33 (.load 2 true (.t 32)),oP 34 (.call 77 [(.t 33)]),oP 35 (.not (.t 34)),oM 36 35,oH 37 36 false 4,oH 38 36 false 7,oG 39 36 false (.idxA 2 (.t 37) (.t 38)),oG 40 36 false (.fieldAddr 0 (.t 39)),oG 41 36 false (.load 1 false (.t 40)),oH 42 36 false 4,oH 43 36 false 7,oG 44 36 false (.idxA 2 (.t 42) (.t 43)),oG 45 36 false (.fieldAddr 1 (.t 44)),oG 46 36 false (.load 1 false (.t 45)),oG 47 36 false (.cmp .gtr (.t 41) (.t 46)),oP 48 (.pick (.t 36) bT (.t 47))]
def c32r8 : LO := [oP 2 (.mov (.c (.full []))),oP 3 (.mov bF)]
def c32r9 : LO := [oF 49 0 6,oL 50 49,oM 51 4,oM 52 7,oP 53 (.idxA 2 (.t 51) (.t 52)),oF 54 1 53,oL 55 54,oP 56 (.arith .mul (.t 50) (.t 55)),oM 57 4,oM 58 7,oP 59 (.idxA 2 (.t 57) (.t 58)),oF 60 0 59,oL 61 60,oF 62 1 6,oL 63 62,oP 64 (.arith .mul (.t 61) (.t 63)),oP 65 (.arith .add (.t 56) (.t 64)),oF 66 1 6,oL 67 66,oM 68 4,oM 69 7,oP 70 (.idxA 2 (.t 68) (.t 69)),oF 71 1 70,oL 72 71,oP 73 (.arith .mul (.t 67) (.t 72)),oP 74 (.call 31 [(.t 65), (.t 73)]),⟨none, none, .store 2 (.t 6) (.t 74)⟩]
def c32r10 : LO := [oF 75 1 6,oL 76 75,oP 77 (.cmp .gtr (.t 76) (nI 1024000000))]
def c32r11 : LO := [oP 2 (.mov (.c (.full []))),oP 3 (.mov bF)]
def c32r12 : LO := [oM 28 7,oP 29 (.arith .add (.t 28) (nI 1)),oM 7 29]
def c32l13 : ACode := (.seq (sR c32r6 (.cond (.t 27) .skip (.exit 0))) (.seq (.block 1 (.seq (sR c32r7 (.cond (.t 48) (sR c32r8 .ret) .skip)) (sR c32r9 (sR c32r10 (.cond (.t 77) (sR c32r11 .ret) .skip))))) (rG c32r12)))
def c32l13m : List Bool := zF<|zF<|zF<|zF<|zT<|zF<|zT<|zT<|z8<|z8<|z8<|z8<|z8<|z8<|z8<|z8<|z8<|zF<|zF<|[]
def c32r14 : LO := [oM 78 4,oP 79 (.load 2 true (.t 6)),oP 80 (.call 48 [(nI 1), (nI 1)]),oP 81 (.eql true [(.int .i64), (.int .i64)] false (.t 79) (.t 80)),oM 2 78,oM 3 81]
def f32 : FRow := ⟨(sR c32r0 (sR c32r1 (.seq (sR c32r2 (.cond (.t 22) (sR c32r3 .ret) .skip)) (.seq (.reg 1 c32r4) (.seq (sR c32r5 (.block 0 (.loop c32l13m [] c32l13))) (sR c32r14 .ret)))))), [.tmp 2, .tmp 3], 82⟩
theorem qqA : f32.Ok Tryz.prog 32 := ⟨_, _, Tryz.func32, rfl, by kernel_rfl, by kernel_rfl, by kernel_rfl⟩
def c33r0 : LO := [oP 1 (.boxS (.t 0)),oP 2 (.mov (.c (.full []))),oP 3 (.mov (nI 0))]
def c33r1 : LO := [oP 8 (.load 3 true (.t 1)),oP 9 (.call 49 [(.t 8)]),oM 7 9,oP 10 (.ext (.t 7) 0),oP 11 (.ext (.t 7) 1),oM 4 10,oM 5 11]
def c33r2 : LO := [oM 12 5,oP 13 (.cmp .neq (.t 12) (nI 0))]
def c33r3 : LO := [oM 14 5,oP 2 (.mov (.c (.full []))),oM 3 14]
def c33r4 : LO := [oM 15 4,oP 16 (.nilck (.t 15)),oF 17 4 16,oL 18 17,oN 19 18,oP 20 (.mkslice 1 24 [(.slice [])] (.t 19) (.t 19)),oM 6 20]
def c33r5 : LO := [oM 21 6,oM 22 4,oP 23 (.nilck (.t 22)),oF 24 4 23,oL 25 24,oP 26 (.copy 1 (.t 21) (.t 25))]
def c33r6 : LO := [oM 27 6,oM 2 27,oP 3 (.mov (nI 0))]
def f33 : FRow := ⟨(sR c33r0 (sR c33r1 (.seq (sR c33r2 (.cond (.t 13) (sR c33r3 .ret) .skip)) (.seq (.reg 1 c33r4) (sR c33r5 (sR c33r6 .ret)))))), [.tmp 2, .tmp 3], 28⟩
theorem qqB : f33.Ok Tryz.prog 33 := ⟨_, _, Tryz.func33, rfl, by kernel_rfl, by kernel_rfl, by kernel_rfl⟩
def c34r0 : LO := [oP 4 (.mov (nI 0))]
def c34r1 : LO := [oM 5 1,oP 6 (.cmp .neq (.t 5) (nI 0))]
def c34r2 : LO := [oM 7 1,oM 8 0,oM 9 1,oP 10 (.div .rem (.t 8) (.t 9)),oM 0 7,oM 1 10]
def c34l3 : ACode := (.seq (sR c34r1 (.cond (.t 6) .skip (.exit 0))) (.block 1 (rG c34r2)))
def c34l3m : List Bool := zT<|zT<|z8<|zF<|zF<|[]
def c34r4 : LO := [oM 11 0,oM 4 11]
def f34 : FRow := ⟨(sR c34r0 (.seq (.block 0 (.loop c34l3m [] c34l3)) (sR c34r4 .ret))), [.tmp 4], 12⟩
theorem qqC : f34.Ok Tryz.prog 34 := ⟨_, _, Tryz.func34, rfl, by kernel_rfl, by kernel_rfl, by kernel_rfl⟩
def c35r0 : LO := [oP 8 (.mov bF)]
def c35r1 : LO := [oM 11 0,oM 12 1,oP 13 (.div .quo (.t 11) (.t 12)),oM 14 2,oM 15 3,oP 16 (.div .quo (.t 14) (.t 15)),oM 9 13,oM 10 16]
def c35r2 : LO := [oM 17 0,oM 18 1,oP 19 (.div .rem (.t 17) (.t 18)),oP 20 (.cmp .lss (.t 19) (nI 0))]
def c35r3 : LO := [oM 21 9,oP 22 (.arith .sub (.t 21) (nI 1)),oM 9 22]
def c35r4 : LO := [oM 23 2,oM 24 3,oP 25 (.div .rem (.t 23) (.t 24)),oP 26 (.cmp .gtr (.t 25) (nI 0))]
def c35r5 : LO := [oM 27 10,oP 28 (.arith .add (.t 27) (nI 1)),oM 10 28]
def c35r6 : LO := [oM 29 9,oM 30 10,oP 31 (.cmp .leq (.t 29) (.t 30)),oM 8 31]
def f35 : FRow := ⟨(sR c35r0 (sR c35r1 (.seq (sR c35r2 (.cond (.t 20) (rG c35r3) .skip)) (.seq (sR c35r4 (.cond (.t 26) (rG c35r5) .skip)) (sR c35r6 .ret))))), [.tmp 8], 32⟩
def c36r0 : LO := [oP 2 (.mov (.c (.full [])))]
def c36r1 : LO := [oM 3 0,oM 2 3]
def f36 : FRow := ⟨(sR c36r0 (sR c36r1 .ret)), [.tmp 2], 4⟩
theorem qmg : f36.Ok Tryz.prog 36 := ⟨_, _, Tryz.func36, rfl, by kernel_rfl, by kernel_rfl, by kernel_rfl⟩
def c37r0 : LO := [oP 1 (.boxS (.t 0)),oP 2 (.mov bF)]
def c37r1 : LO := [oP 3 (.load 3 true (.t 1)),oP 4 (.call 11 [(.t 3)]),oP 5 (.not (.t 4)),oM 6 5,oG 7 6 true (.load 3 true (.t 1)),oG 8 6 true (.call 52 [(.t 7)]),oG 9 6 true (.cmp .eql (.t 8) (nI 0)),oP 10 (.pick (.t 6) (.t 9) bF),oM 2 10]
def f37 : FRow := ⟨(sR c37r0 (sR c37r1 .ret)), [.tmp 2], 11⟩
theorem qqD : f37.Ok Tryz.prog 37 := ⟨_, _, Tryz.func37, rfl, by kernel_rfl, by kernel_rfl, by kernel_rfl⟩
def c38r0 : LO := [oP 0 (.alloc [(.s (.int .i64 0)), (.full []), (.full [])])]
def c38r1 : LO := [oP 1 (.buildSl 1 2 (.int .i64 0) [(0, (nI 0)), (1, (nI 6))]),oP 2 (.call 36 [(.t 1)]),oP 3 (.buildSl 1 4 (.int .i64 0) [(0, (nI 3)), (1, (nI 1)), (2, (nI 2)), (3, (nI 2))]),oP 4 (.call 80 [(nI 4), (.t 2), (.t 3)]),⟨none, none, .store 3 (.t 0) (.t 4)⟩]
def f38 : FRow := ⟨(.seq (.reg 1 c38r0) (sR c38r1 .ret)), [.cell 0 3 true], 5⟩
theorem qqE : f38.Ok Tryz.prog 38 := ⟨_, _, Tryz.func38, rfl, by kernel_rfl, by kernel_rfl, by kernel_rfl⟩
def c39r0 : LO := [oP 0 (.alloc [(.s (.int .i64 0)), (.full []), (.full [])])]
def c39r1 : LO := [oP 1 (.buildSl 1 3 (.int .i64 0) [(0, (nI 1)), (1, (nI 0)), (2, (nI 4))]),oP 2 (.call 36 [(.t 1)]),oP 3 (.buildSl 1 9 (.int .i64 0) [(0, (nI 0)), (1, (nI 1)), (2, (nI 1)), (3, (nI 0)), (4, (nI 2)), (5, (nI 0)), (6, (nI 0)), (7, (nI 0)), (8, (nI 2))]),oP 4 (.call 80 [(nI 2), (.t 2), (.t 3)]),⟨none, none, .store 3 (.t 0) (.t 4)⟩]
def f39 : FRow := ⟨(.seq (.reg 1 c39r0) (sR c39r1 .ret)), [.cell 0 3 true], 5⟩
theorem qqF : f39.Ok Tryz.prog 39 := ⟨_, _, Tryz.func39, rfl, by kernel_rfl, by kernel_rfl, by kernel_rfl⟩
def c40r0 : LO := [oP 0 (.alloc [(.s (.int .i64 0)), (.full []), (.full [])])]
def c40r1 : LO := [oP 1 (.buildSl 1 2 (.int .i64 0) [(0, (nI 1)), (1, (nI 3))]),oP 2 (.call 36 [(.t 1)]),oP 3 (.buildSl 1 4 (.int .i64 0) [(0, (nI 0)), (1, (nI 1)), (2, (nI 1)), (3, (nI 0))]),oP 4 (.call 80 [(nI 1), (.t 2), (.t 3)]),⟨none, none, .store 3 (.t 0) (.t 4)⟩]
def f40 : FRow := ⟨(.seq (.reg 1 c40r0) (sR c40r1 .ret)), [.cell 0 3 true], 5⟩
theorem qqG : f40.Ok Tryz.prog 40 := ⟨_, _, Tryz.func40, rfl, by kernel_rfl, by kernel_rfl, by kernel_rfl⟩
def c41r0 : LO := [oP 0 (.alloc [(.s (.int .i64 0)), (.full []), (.full [])])]
def c41r1 : LO := [oP 1 (.buildSl 1 2 (.int .i64 0) [(0, (nI 0)), (1, (nI 6))]),oP 2 (.call 36 [(.t 1)]),oP 3 (.buildSl 1 4 (.int .i64 0) [(0, (nI 2)), (1, (nI 1)), (2, (nI 1)), (3, (nI 1))]),oP 4 (.call 80 [(nI 4), (.t 2), (.t 3)]),⟨none, none, .store 3 (.t 0) (.t 4)⟩]
def f41 : FRow := ⟨(.seq (.reg 1 c41r0) (sR c41r1 .ret)), [.cell 0 3 true], 5⟩
theorem qqH : f41.Ok Tryz.prog 41 := ⟨_, _, Tryz.func41, rfl, by kernel_rfl, by kernel_rfl, by kernel_rfl⟩
def c42r0 : LO := [oP 1 (.boxS (.t 0)),oP 2 (.mov (nI 0))]
def c42r1 : LO := [oP 6 (.load 3 true (.t 1)),oP 7 (.call 57 [(.t 6)]),oM 5 7,oP 8 (.ext (.t 5) 0),oP 9 (.ext (.t 5) 1),oM 3 8,oM 4 9]
def c42r2 : LO := [oM 10 4,oM 2 10]
def f42 : FRow := ⟨(sR c42r0 (sR c42r1 (sR c42r2 .ret))), [.tmp 2], 11⟩
theorem qqI : f42.Ok Tryz.prog 42 := ⟨_, _, Tryz.func42, rfl, by kernel_rfl, by kernel_rfl, by kernel_rfl⟩
def c43r0 : LO := [oP 6 (.alloc [(.s (.int .i64 0)), (.s (.int .i64 0)), (.full [])])]
def c43r1 : LO := [oM 7 0,oM 8 1,oM 9 2,oP 10 (.build [(.s (.int .i64 0)), (.s (.int .i64 0)), (.full [])] [(0, 1, (.t 7)), (1, 1, (.t 8)), (2, 1, (.t 9))]),⟨none, none, .store 3 (.t 6) (.t 10)⟩]
def f43 : FRow := ⟨(.seq (.reg 1 c43r0) (sR c43r1 .ret)), [.cell 6 3 true], 11⟩
theorem qqJ : f43.Ok Tryz.prog 43 := ⟨_, _, Tryz.func43, rfl, by kernel_rfl, by kernel_rfl, by kernel_rfl⟩
def c44r0 : LO := [oP 1 (.boxS (.t 0)),oP 2 (.mov (nI 0))]
def c44r1 : LO := [oP 4 (.load 3 true (.t 1)),oP 5 (.call 81 [(.t 4)]),oM 3 5]
def c44r2 : LO := [oM 7 3,oP 8 (.cmp .neq (.t 7) (nI 0)),oM 6 8]
def c44r3 : LO := [oM 9 3,oM 2 9]
def c44r4 : LO := [oF 11 1 1,oL 12 11,oP 13 (.mkfn 83 [] [(.t 1)]),oP 14 (.call 82 [(.t 12), (.t 13)]),oM 10 14]
def c44r5 : LO := [oP 2 (.mov (nI 14))]
def c44r6 : LO := [oP 2 (.mov (nI 0))]
def f44 : FRow := ⟨(sR c44r0 (sR c44r1 (.seq (.block 0 (sR c44r2 (.cond (.t 6) (sR c44r3 .ret) (sR c44r4 (.cond (.t 10) (sR c44r5 .ret) .skip))))) (sR c44r6 .ret)))), [.tmp 2], 15⟩
theorem qqK : f44.Ok Tryz.prog 44 := ⟨_, _, Tryz.func44, rfl, by kernel_rfl, by kernel_rfl, by kernel_rfl⟩
def c45r0 : LO := [oP 1 (.boxS (.t 0)),oP 2 (.mov (nI 0))]
def c45r1 : LO := [oP 4 (.load 3 true (.t 1)),oP 5 (.call 81 [(.t 4)]),oM 3 5]
def c45r2 : LO := [oM 7 3,oP 8 (.cmp .neq (.t 7) (nI 0)),oM 6 8]
def c45r3 : LO := [oM 9 3,oM 2 9]
def c45r4 : LO := [oF 11 1 1,oL 12 11,oP 13 (.mkfn 84 [] [(.t 1)]),oP 14 (.call 82 [(.t 12), (.t 13)]),oM 10 14]
def c45r5 : LO := [oP 2 (.mov (nI 14))]
def c45r6 : LO := [oP 2 (.mov (nI 0))]
def f45 : FRow := ⟨(sR c45r0 (sR c45r1 (.seq (.block 0 (sR c45r2 (.cond (.t 6) (sR c45r3 .ret) (sR c45r4 (.cond (.t 10) (sR c45r5 .ret) .skip))))) (sR c45r6 .ret)))), [.tmp 2], 15⟩
theorem qqL : f45.Ok Tryz.prog 45 := ⟨_, _, Tryz.func45, rfl, by kernel_rfl, by kernel_rfl, by kernel_rfl⟩
def c46r0 : LO := [oP 4 (.mov bF)]
def c46r1 : LO := [oM 6 0,oN 7 6,oM 8 1,oN 9 8,oP 10 (.cmp .neq (.t 7) (.t 9))]
def c46r2 : LO := [oP 4 (.mov bF)]
def c46r3 : LO := [oP 5 (.mov (nI 0))]
def c46r4 : LO := [oM 11 5,oM 12 0,oN 13 12,oP 14 (.cmp .lss (.t 11) (.t 13))]
def c46r5 : LO := [oM 17 0,oM 18 5,oI 19 17 18,oL 20 19,oM 21 1,oM 22 5,oI 23 21 22,oL 24 23,oP 25 (.call 85 [(.t 20), (.t 24)]),oP 26 (.not (.t 25))]
def c46r6 : LO := [oP 4 (.mov bF)]
def c46r7 : LO := [oM 15 5,oP 16 (.arith .add (.t 15) (nI 1)),oM 5 16]
def c46l8 : ACode := (.seq (sR c46r4 (.cond (.t 14) .skip (.exit 0))) (.seq (.block 1 (sR c46r5 (.cond (.t 26) (sR c46r6 .ret) .skip))) (rG c46r7)))
def c46l8m : List Bool := zT<|zT<|zF<|zF<|zF<|zT<|z8<|z8<|zF<|zF<|zF<|zF<|zF<|[]
def c46r9 : LO := [oP 4 (.mov bT)]
def f46 : FRow := ⟨(sR c46r0 (.seq (sR c46r1 (.cond (.t 10) (sR c46r2 .ret) .skip)) (.seq (sR c46r3 (.block 0 (.loop c46l8m [] c46l8))) (sR c46r9 .ret)))), [.tmp 4], 27⟩
theorem qqM : f46.Ok Tryz.prog 46 := ⟨_, _, Tryz.func46, rfl, by kernel_rfl, by kernel_rfl, by kernel_rfl⟩
def c47r0 : LO := [oP 2 (.mov (.c (.full [])))]
def c47r1 : LO := [oM 3 0,oM 2 3]
def f47 : FRow := ⟨(sR c47r0 (sR c47r1 .ret)), [.tmp 2], 4⟩
theorem qqN : f47.Ok Tryz.prog 47 := ⟨_, _, Tryz.func47, rfl, by kernel_rfl, by kernel_rfl, by kernel_rfl⟩
def c48r0 : LO := [oP 4 (.alloc [(.s (.int .i64 0)), (.s (.int .i64 0))])]
def c48r1 : LO := [oM 5 0,oM 6 1,oP 7 (.build [(.s (.int .i64 0)), (.s (.int .i64 0))] [(0, 1, (.t 5)), (1, 1, (.t 6))]),⟨none, none, .store 2 (.t 4) (.t 7)⟩]
def f48 : FRow := ⟨(.seq (.reg 1 c48r0) (sR c48r1 .ret)), [.cell 4 2 true], 8⟩
theorem qqO : f48.Ok Tryz.prog 48 := ⟨_, _, Tryz.func48, rfl, by kernel_rfl, by kernel_rfl, by kernel_rfl⟩
def c49r0 : LO := [oP 1 (.boxS (.t 0)),oP 2 (.mov (.c (.s .nilp))),oP 3 (.mov (nI 0))]
def c49r1 : LO := [oP 5 (.load 3 true (.t 1)),oP 6 (.call 45 [(.t 5)]),oM 4 6]
def c49r2 : LO := [oM 7 4,oP 8 (.cmp .neq (.t 7) (nI 0))]
def c49r3 : LO := [oM 9 4,oP 2 (.mov (.c (.s .nilp))),oM 3 9]
def c49r4 : LO := [oP 10 (.load 3 true (.t 1)),oP 11 (.call 68 [(.t 10)]),oM 2 11,oP 3 (.mov (nI 0))]
def f49 : FRow := ⟨(sR c49r0 (.seq (sR c49r1 (sR c49r2 (.cond (.t 8) (sR c49r3 .ret) .skip))) (sR c49r4 .ret))), [.tmp 2, .tmp 3], 12⟩
theorem qqP : f49.Ok Tryz.prog 49 := ⟨_, _, Tryz.func49, rfl, by kernel_rfl, by kernel_rfl, by kernel_rfl⟩
def c50r0 : LO := [oP 3 (.boxS (.t 0)),oP 4 (.boxS (.t 1)),oP 6 (.mov bF)]
def c50r1 : LO := [oM 7 2,oP 8 (.mkfn 87 [] [(.t 3), (.t 4)]),oP 9 (.call 86 [(.t 7), (.t 8)]),oP 10 (.not (.t 9)),oM 6 10]
def f50 : FRow := ⟨(sR c50r0 (sR c50r1 .ret)), [.tmp 6], 11⟩
theorem qqQ : f50.Ok Tryz.prog 50 := ⟨_, _, Tryz.func50, rfl, by kernel_rfl, by kernel_rfl, by kernel_rfl⟩
def c51r0 : LO := [oP 6 (.alloc [(.s (.int .i64 0)), (.s (.int .i64 0))])]
def c51r1 : LO := [oM 16 0,oM 17 0,oP 18 (.nilck (.t 17)),oF 19 4 18,oL 20 19,oP 21 (.call 89 [(.t 20)]),oP 22 (.call 88 [(.t 16), (.t 21)]),oM 7 22]
def c51r2 : LO := [oM 23 7,oM 24 1,oP 25 (.call 90 [(.t 23), (.t 24)]),oM 8 25]
def c51r3 : LO := [oM 26 8,oP 27 (.cmp .lss (.t 26) (nI 0))]
def c51r4 : LO := [oM 28 0,oP 29 (.nilck (.t 28)),oF 30 4 29,oL 31 30,oM 32 2,oI 33 31 32,oL 34 33,oM 35 1,oP 36 (.call 91 [(.t 34), (.t 35)])]
def c51r5 : LO := [oP 37 (.build [(.s (.int .i64 0)), (.s (.int .i64 0))] [(0, 1, (nI 1)), (1, 1, (nI 1))]),⟨none, none, .store 2 (.t 6) (.t 37)⟩]
def c51r6 : LO := [oP 38 (.build [(.s (.int .i64 0)), (.s (.int .i64 0))] [(0, 1, (nI 0)), (1, 1, (nI 1))]),⟨none, none, .store 2 (.t 6) (.t 38)⟩]
def c51r7 : LO := [oM 39 7,oN 40 39,oP 41 (.mkslice 1 8 [(.int .i64 0)] (.t 40) (.t 40)),oM 9 41]
def c51r8 : LO := [oM 42 7,oN 43 42,oP 44 (.mov (nI 0))]
def c51r9 : LO := [oP 45 (.cmp .lss (.t 44) (.t 43))]
def c51r10 : LO := [oM 46 44,oI 47 42 44,oL 48 47,oM 10 46,oM 11 48]
def c51r11 : LO := [oM 49 0,oP 50 (.nilck (.t 49)),oF 51 4 50,oL 52 51,oM 53 2,oI 54 52 53,oL 55 54,oN 56 55,oP 57 (.mov (nI 0))]
def c51r12 : LO := [oP 58 (.cmp .lss (.t 57) (.t 56))]
def c51r13 : LO := [oI 59 55 57,oL 60 59,oM 13 60]
def c51r14 : LO := [oM 61 9,oM 62 10,oI 63 61 62,oL 64 63,oM 65 0,oP 66 (.nilck (.t 65)),oF 67 3 66,oL 68 67,oM 69 11,oM 70 13,oP 71 (.build [(.s (.int .i64 0)), (.s (.int .i64 0))] [(0, 1, (.t 69)), (1, 1, (.t 70))]),oP 72 (.mgetS false [(.int .i64), (.int .i64)] (.int .i64 0) (.t 68) (.t 71)),oP 73 (.arith .add (.t 64) (.t 72)),oI 74 61 62,⟨none, none, .store 1 (.t 74) (.t 73)⟩]
def c51r15 : LO := [oP 75 (.arith .add (.t 57) (nI 1)),oM 57 75]
def c51l16 : ACode := (sR c51r12 (.seq (.cond (.t 58) .skip (.exit 2)) (.seq (.block 3 (sR c51r13 (rG c51r14))) (rG c51r15))))
def c51l16m : List Bool := zT<|zF<|zT<|zF<|zF<|zF<|zT<|zT<|zT<|zT<|zT<|zT<|z8<|z8<|z8<|zF<|zF<|zF<|zF<|zF<|zF<|zT<|zT<|zT<|z8<|zF<|zF<|zT<|zT<|zT<|z8<|z8<|z8<|z8<|[]
def c51r17 : LO := [oP 76 (.arith .add (.t 44) (nI 1)),oM 44 76]
def c51l18 : ACode := (sR c51r9 (.seq (.cond (.t 45) .skip (.exit 0)) (.seq (.block 1 (sR c51r10 (sR c51r11 (.block 2 (.loop c51l16m [] c51l16))))) (rG c51r17))))
def c51l18m : List Bool := zT<|zF<|zT<|zF<|zF<|zF<|zT<|zT<|zT<|zT<|z8<|z8<|z8<|z8<|zT<|zT<|zT<|z8<|z8<|z8<|z8<|z8<|zF<|zF<|zF<|zF<|zF<|[]
def c51r19 : LO := [oM 78 0,oM 79 7,oP 80 (.frzv (.t 9)),oP 81 (.call 92 [(.t 78), (.t 79), (.t 80)]),oM 77 81,oP 82 (.ext (.t 77) 0),oP 83 (.ext (.t 77) 1),oM 14 82,oM 15 83]
def c51r20 : LO := [oM 84 14,oM 85 8,oI 86 84 85,oL 87 86,oM 88 15,oP 89 (.call 59 [(.t 87), (.t 88)]),⟨none, none, .store 2 (.t 6) (.t 89)⟩]
def f51 : FRow := ⟨(.seq (.reg 1 c51r0) (sR c51r1 (sR c51r2 (.seq (sR c51r3 (.cond (.t 27) (.seq (sR c51r4 (.cond (.t 36) (sR c51r5 .ret) .skip)) (sR c51r6 .ret)) .skip)) (.seq (.reg 1 c51r7) (.seq (sR c51r8 (.block 0 (.loop c51l18m [] c51l18))) (sR c51r19 (sR c51r20 .ret)))))))), [.cell 6 2 true], 90⟩
theorem qqR : f51.Ok Tryz.prog 51 := ⟨_, _, Tryz.func51, rfl, by kernel_rfl, by kernel_rfl, by kernel_rfl⟩
def c52r0 : LO := [oP 1 (.boxS (.t 0)),oP 2 (.mov (nI 0))]
def c52r1 : LO := [oP 4 (.load 3 true (.t 1)),oP 5 (.call 93 [(.t 4)]),oP 6 (.cmp .neq (.t 5) (nI 0))]
def c52r2 : LO := [oP 7 (.load 3 true (.t 1)),oP 8 (.call 93 [(.t 7)]),oM 2 8]
def c52r3 : LO := [oP 3 (.mov (nI 0))]
def c52r4 : LO := [oM 9 3,oF 10 1 1,oL 11 10,oN 12 11,oP 13 (.cmp .lss (.t 9) (.t 12))]
def c52r5 : LO := [oF 16 1 1,oL 17 16,oM 18 3,oI 19 17 18,oL 20 19,oP 21 (.call 63 [(.t 20)]),oF 22 0 1,oL 23 22,oP 24 (.cmp .neq (.t 21) (.t 23))]
def c52r6 : LO := [oP 2 (.mov (nI 14))]
def c52r7 : LO := [oM 14 3,oP 15 (.arith .add (.t 14) (nI 1)),oM 3 15]
def c52l8 : ACode := (.seq (sR c52r4 (.cond (.t 13) .skip (.exit 0))) (.seq (.block 1 (sR c52r5 (.cond (.t 24) (sR c52r6 .ret) .skip))) (rG c52r7)))
def c52l8m : List Bool := zF<|zT<|zF<|zT<|z8<|z8<|zF<|zF<|zF<|zF<|zF<|[]
def c52r9 : LO := [oP 2 (.mov (nI 0))]
def f52 : FRow := ⟨(sR c52r0 (.seq (sR c52r1 (.cond (.t 6) (sR c52r2 .ret) .skip)) (.seq (sR c52r3 (.block 0 (.loop c52l8m [] c52l8))) (sR c52r9 .ret)))), [.tmp 2], 25⟩
theorem qqS : f52.Ok Tryz.prog 52 := ⟨_, _, Tryz.func52, rfl, by kernel_rfl, by kernel_rfl, by kernel_rfl⟩
def c53r0 : LO := [oP 1 (.boxS (.t 0)),oP 2 (.mov (.c (.full [])))]
def c53r1 : LO := [oP 10 (.load 3 true (.t 1)),oP 11 (.call 94 [(.t 10)]),oM 3 11]
def c53r2 : LO := [oM 12 3,oN 13 12,oM 4 13]
def c53r3 : LO := [oP 5 (.mov (.c (.full [])))]
def c53r4 : LO := [oP 6 (.mov (nI 0))]
def c53r5 : LO := [oP 7 (.mov (nI 0))]
def c53r6 : LO := [oM 14 7,oM 15 4,oP 16 (.cmp .lss (.t 14) (.t 15))]
def c53r7 : LO := [oP 8 (.mov bT)]
def c53r8 : LO := [oP 9 (.mov (nI 0))]
def c53r9 : LO := [oM 19 9,oM 20 4,oP 21 (.cmp .lss (.t 19) (.t 20))]
def c53r10 : LO := [oM 24 3,oM 25 7,oI 26 24 25,oL 27 26,oM 28 9,oP 29 (.shift .shr (.t 27) (.t 28)),oP 30 (.bits .and (.t 29) (nI 1)),oP 31 (.cmp .eql (.t 30) (nI 1)),oM 32 31,oH 33 32 true 3,oH 34 32 true 9,oG 35 32 true (.idxA 1 (.t 33) (.t 34)),oG 36 32 true (.load 1 false (.t 35)),oH 37 32 true 7,oG 38 32 true (.shift .shr (.t 36) (.t 37)),oG 39 32 true (.bits .and (.t 38) (nI 1)),oG 40 32 true (.cmp .eql (.t 39) (nI 0)),oP 41 (.pick (.t 32) (.t 40) bF)]
def c53r11 : LO := [oP 8 (.mov bF)]
def c53r12 : LO := [oM 22 9,oP 23 (.arith .add (.t 22) (nI 1)),oM 9 23]
def c53l13 : ACode := (.seq (sR c53r9 (.cond (.t 21) .skip (.exit 2))) (.seq (.block 3 (sR c53r10 (.cond (.t 41) (rG c53r11) .skip))) (rG c53r12)))
def c53l13m : List Bool := zF<|zF<|zF<|zT<|zT<|zT<|zT<|zT<|zT<|zT<|z8<|z8<|z8<|z8<|z8<|z8<|z8<|[]
def c53r14 : LO := [oM 42 8,oM 43 42,oH 44 43 true 6,oH 45 43 true 7,oG 46 43 true (.shift .shr (.t 44) (.t 45)),oG 47 43 true (.bits .and (.t 46) (nI 1)),oG 48 43 true (.cmp .eql (.t 47) (nI 0)),oP 49 (.pick (.t 43) (.t 48) bF)]
def c53r15 : LO := [oM 50 5,oM 51 3,oM 52 7,oI 53 51 52,oL 54 53,oM 55 4,oP 56 (.call 95 [(.t 54), (.t 55)]),oP 57 (.buildSl 1 1 (.slice []) [(0, (.t 56))]),oP 58 (.append 1 24 (.t 50) (.t 57)),oM 5 58]
def c53r16 : LO := [oM 59 6,oM 60 3,oM 61 7,oI 62 60 61,oL 63 62,oP 64 (.bits .or (.t 59) (.t 63)),oM 6 64]
def c53r17 : LO := [oM 17 7,oP 18 (.arith .add (.t 17) (nI 1)),oM 7 18]
def c53l18 : ACode := (.seq (sR c53r6 (.cond (.t 16) .skip (.exit 0))) (.seq (.block 1 (sR c53r7 (.seq (sR c53r8 (.block 2 (.loop c53l13m [] c53l13))) (sR c53r14 (.cond (.t 49) (.seq (.reg 1 c53r15) (rG c53r16)) .skip))))) (rG c53r17)))
def c53l18m : List Bool := zF<|zF<|zF<|zT<|zT<|zT<|zT<|zT<|z8<|z8<|z8<|z8<|z8<|z8<|z8<|zF<|zF<|[]
def c53r19 : LO := [oM 65 5,oM 2 65]
def f53 : FRow := ⟨(sR c53r0 (sR c53r1 (sR c53r2 (sR c53r3 (sR c53r4 (.seq (sR c53r5 (.block 0 (.loop c53l18m [(5, none, 0)] c53l18))) (sR c53r19 .ret))))))), [.tmp 2], 66⟩
theorem qqT : f53.Ok Tryz.prog 53 := ⟨_, _, Tryz.func53, rfl, by kernel_rfl, by kernel_rfl, by kernel_rfl⟩
def c55r0 : LO := [oP 4 (.mov (nI 0))]
def c55r1 : LO := [oM 11 0,oP 12 (.nilck (.t 11)),oF 13 0 12,oF 14 1 13,oL 15 14,oN 16 15,oP 17 (.mkslice 1 8 [(.int .i64 0)] (.t 16) (.t 16)),oM 5 17]
def c55r2 : LO := [oM 18 5,oN 19 18,oP 20 (.mov (nI 0))]
def c55r3 : LO := [oP 21 (.cmp .lss (.t 20) (.t 19))]
def c55r4 : LO := [oM 22 20,oM 6 22]
def c55r5 : LO := [oM 23 5,oM 24 6,oI 25 23 24,⟨none, none, .store 1 (.t 25) (nI (-1))⟩]
def c55r6 : LO := [oP 26 (.arith .add (.t 20) (nI 1)),oM 20 26]
def c55l7 : ACode := (sR c55r3 (.seq (.cond (.t 21) .skip (.exit 0)) (.seq (.block 1 (sR c55r4 (rG c55r5))) (rG c55r6))))
def c55l7m : List Bool := zT<|zT<|zF<|zF<|zF<|zT<|z8<|zF<|zF<|zF<|zF<|zF<|zT<|zT<|z8<|z8<|z8<|z8<|z8<|z8<|z8<|z8<|z8<|z8<|zF<|[]
def c55r8 : LO := [oM 27 5,oM 28 1,oI 29 27 28,⟨none, none, .store 1 (.t 29) (nI 0)⟩]
def c55r9 : LO := [oM 30 1,oP 31 (.buildR 1 1 (.int .i64 0) [(0, (.t 30))]),oM 7 31]
def c55r10 : LO := [oP 8 (.mov (nI 0))]
def c55r11 : LO := [oM 32 7,oN 33 32,oP 34 (.cmp .gtr (.t 33) (nI 0))]
def c55r12 : LO := [oM 35 7,oP 36 (.idxA 1 (.t 35) (nI 0)),oL 37 36,oM 9 37]
def c55r13 : LO := [oM 38 7,oP 39 (.slice 1 (.t 38) (some (nI 1)) none none),oM 7 39]
def c55r14 : LO := [oM 40 0,oP 41 (.nilck (.t 40)),oF 42 0 41,oF 43 1 42,oL 44 43,oN 45 44,oP 46 (.mov (nI 0))]
def c55r15 : LO := [oP 47 (.cmp .lss (.t 46) (.t 45))]
def c55r16 : LO := [oM 48 46,oM 10 48]
def c55r17 : LO := [oM 73 0,oP 74 (.nilck (.t 73)),oF 75 3 74,oL 76 75,oM 77 9,oM 78 10,oP 79 (.build [(.s (.int .i64 0)), (.s (.int .i64 0))] [(0, 1, (.t 77)), (1, 1, (.t 78))]),oP 80 (.mget false [(.int .i64), (.int .i64)] (.int .i64 0) (.t 76) (.t 79)),oP 81 (.cmp .eql (.t 80) (nI 0)),oM 72 81]
def c55r18 : LO := [oM 83 5,oM 84 10,oI 85 83 84,oL 86 85,oP 87 (.cmp .lss (.t 86) (nI 0)),oM 82 87]
def c55r19 : LO := [oM 88 5,oM 89 10,oM 90 5,oM 91 9,oI 92 90 91,oL 93 92,oP 94 (.arith .add (.t 93) (nI 1)),oI 95 88 89,⟨none, none, .store 1 (.t 95) (.t 94)⟩]
def c55r20 : LO := [oM 96 7,oM 97 10,oP 98 (.buildSl 1 1 (.int .i64 0) [(0, (.t 97))]),oP 99 (.append 1 8 (.t 96) (.t 98)),oM 7 99]
def c55r21 : LO := [oM 49 8,oM 50 5,oM 51 9,oI 52 50 51,oL 53 52,oP 54 (.arith .add (.t 53) (nI 1)),oM 55 5,oM 56 10,oI 57 55 56,oL 58 57,oP 59 (.arith .sub (.t 54) (.t 58)),oM 60 5,oM 61 10,oI 62 60 61,oL 63 62,oM 64 5,oM 65 9,oI 66 64 65,oL 67 66,oP 68 (.arith .sub (.t 63) (.t 67)),oP 69 (.arith .sub (.t 68) (nI 1)),oP 70 (.max [(.t 59), (.t 69)]),oP 71 (.call 97 [(.t 49), (.t 70)]),oM 8 71]
def c55r22 : LO := [oP 100 (.arith .add (.t 46) (nI 1)),oM 46 100]
def c55l23 : ACode := (sR c55r15 (.seq (.cond (.t 47) .skip (.exit 4)) (.seq (.block 5 (sR c55r16 (.block 6 (sR c55r17 (.cond (.t 72) .skip (sR c55r18 (.cond (.t 82) (sR c55r19 (.reg 1 c55r20)) (rG c55r21)))))))) (rG c55r22))))
def c55l23m : List Bool := zT<|zF<|zF<|zF<|zF<|zT<|zF<|zT<|zT<|zT<|z8<|z8<|z8<|z8<|zF<|zF<|zF<|zT<|zT<|z8<|z8<|z8<|z8<|z8<|z8<|zF<|zF<|zF<|zF<|zF<|zF<|zF<|[]
def c55l24 : ACode := (.seq (sR c55r11 (.cond (.t 34) .skip (.exit 2))) (.block 3 (sR c55r12 (sR c55r13 (sR c55r14 (.block 4 (.loop c55l23m [(7, none, 0)] c55l23)))))))
def c55l24m : List Bool := zT<|zF<|zF<|zF<|zF<|zT<|zF<|zT<|zT<|z8<|z8<|z8<|z8<|z8<|z8<|z8<|z8<|z8<|z8<|z8<|zF<|zF<|zF<|zF<|zF<|[]
def c55r25 : LO := [oM 101 8,oM 4 101]
def f55 : FRow := ⟨(sR c55r0 (.seq (.reg 1 c55r1) (.seq (sR c55r2 (.block 0 (.loop c55l7m [] c55l7))) (sR c55r8 (.seq (.reg 1 c55r9) (sR c55r10 (.seq (.block 2 (.loop c55l24m [(7, none, 0)] c55l24)) (sR c55r25 .ret)))))))), [.tmp 4], 102⟩
theorem qqU : f55.Ok Tryz.prog 55 := ⟨_, _, Tryz.func55, rfl, by kernel_rfl, by kernel_rfl, by kernel_rfl⟩
def c57r0 : LO := [oP 1 (.boxS (.t 0)),oP 2 (.mov (.c (.s .nilp))),oP 3 (.mov (nI 0))]
def c57r1 : LO := [oP 7 (.load 3 true (.t 1)),oP 8 (.call 49 [(.t 7)]),oM 6 8,oP 9 (.ext (.t 6) 0),oP 10 (.ext (.t 6) 1),oM 4 9,oM 5 10]
def c57r2 : LO := [oM 12 5,oP 13 (.cmp .neq (.t 12) (nI 0)),oM 11 13]
def c57r3 : LO := [oM 14 5,oP 2 (.mov (.c (.s .nilp))),oM 3 14]
def c57r4 : LO := [oM 16 4,oP 17 (.nilck (.t 16)),oF 18 4 17,oL 19 18,oN 20 19,oP 21 (.cmp .gtr (.t 20) (nI 1)),oM 15 21]
def c57r5 : LO := [oP 2 (.mov (.c (.s .nilp))),oP 3 (.mov (nI 17))]
def c57r6 : LO := [oM 22 4,oM 2 22,oP 3 (.mov (nI 0))]
def f57 : FRow := ⟨(sR c57r0 (sR c57r1 (.seq (.block 0 (sR c57r2 (.cond (.t 11) (sR c57r3 .ret) (sR c57r4 (.cond (.t 15) (sR c57r5 .ret) .skip))))) (sR c57r6 .ret)))), [.tmp 2, .tmp 3], 23⟩
theorem qqV : f57.Ok Tryz.prog 57 := ⟨_, _, Tryz.func57, rfl, by kernel_rfl, by kernel_rfl, by kernel_rfl⟩
def c58r0 : LO := [oP 2 (.mov (.c (.full [])))]
def c58r1 : LO := [oP 3 (.mov (.c (.full [])))]
def c58r2 : LO := [oM 5 0,oP 6 (.nilck (.t 5)),oF 7 0 6,oF 8 1 7,oL 9 8,oN 10 9,oP 11 (.mov (nI 0))]
def c58r3 : LO := [oP 12 (.cmp .lss (.t 11) (.t 10))]
def c58r4 : LO := [oM 13 11,oM 4 13]
def c58r5 : LO := [oM 14 3,oM 15 0,oM 16 0,oM 17 4,oP 18 (.buildSl 1 1 (.int .i64 0) [(0, (.t 17))]),oP 19 (.call 88 [(.t 16), (.t 18)]),oP 20 (.call 99 [(.t 15), (.t 19)]),oP 21 (.call 98 [(.t 20)]),oP 22 (.buildSl 1 1 (.int .i64 0) [(0, (.t 21))]),oP 23 (.append 1 8 (.t 14) (.t 22)),oM 3 23]
def c58r6 : LO := [oP 24 (.arith .add (.t 11) (nI 1)),oM 11 24]
def c58l7 : ACode := (sR c58r3 (.seq (.cond (.t 12) .skip (.exit 0)) (.seq (.block 1 (sR c58r4 (.reg 1 c58r5))) (rG c58r6))))
def c58l7m : List Bool := zT<|zF<|zF<|zT<|zF<|zF<|zF<|zF<|zF<|zF<|zT<|zT<|z8<|zF<|zF<|zF<|zF<|zF<|zF<|[]
def c58r8 : LO := [oM 25 3,oM 2 25]
def f58 : FRow := ⟨(sR c58r0 (sR c58r1 (.seq (sR c58r2 (.block 0 (.loop c58l7m [(3, none, 0)] c58l7))) (sR c58r8 .ret)))), [.tmp 2], 26⟩
theorem qqW : f58.Ok Tryz.prog 58 := ⟨_, _, Tryz.func58, rfl, by kernel_rfl, by kernel_rfl, by kernel_rfl⟩
def c59r0 : LO := [oP 4 (.alloc [(.s (.int .i64 0)), (.s (.int .i64 0))])]
def c59r1 : LO := [oM 6 0,oM 7 0,oP 8 (.neg (.t 7)),oP 9 (.max [(.t 6), (.t 8)]),oM 10 1,oP 11 (.call 97 [(.t 9), (.t 10)]),oM 5 11]
def c59r2 : LO := [oM 12 0,oM 13 5,oP 14 (.div .quo (.t 12) (.t 13)),oM 15 1,oM 16 5,oP 17 (.div .quo (.t 15) (.t 16)),oP 18 (.build [(.s (.int .i64 0)), (.s (.int .i64 0))] [(0, 1, (.t 14)), (1, 1, (.t 17))]),⟨none, none, .store 2 (.t 4) (.t 18)⟩]
def f59 : FRow := ⟨(.seq (.reg 1 c59r0) (sR c59r1 (sR c59r2 .ret))), [.cell 4 2 true], 19⟩
theorem qqX : f59.Ok Tryz.prog 59 := ⟨_, _, Tryz.func59, rfl, by kernel_rfl, by kernel_rfl, by kernel_rfl⟩
def c60r0 : LO := [oP 2 (.mov (nI 0))]
def c60r1 : LO := [oP 3 (.mov (nI 0))]
def c60r2 : LO := [oM 6 0,oN 7 6,oP 8 (.mov (nI 0))]
def c60r3 : LO := [oP 9 (.cmp .lss (.t 8) (.t 7))]
def c60r4 : LO := [oI 10 6 8,oL 11 10,oM 5 11]
def c60r5 : LO := [oM 12 3,oM 13 5,oP 14 (.arith .add (.t 12) (.t 13)),oM 3 14]
def c60r6 : LO := [oP 15 (.arith .add (.t 8) (nI 1)),oM 8 15]
def c60l7 : ACode := (sR c60r3 (.seq (.cond (.t 9) .skip (.exit 0)) (.seq (.block 1 (sR c60r4 (rG c60r5))) (rG c60r6))))
def c60l7m : List Bool := zF<|zF<|zF<|zT<|zF<|zF<|zT<|zT<|zT<|z8<|[]
def c60r8 : LO := [oM 16 3,oM 2 16]
def f60 : FRow := ⟨(sR c60r0 (sR c60r1 (.seq (sR c60r2 (.block 0 (.loop c60l7m [] c60l7))) (sR c60r8 .ret)))), [.tmp 2], 17⟩
theorem qqY : f60.Ok Tryz.prog 60 := ⟨_, _, Tryz.func60, rfl, by kernel_rfl, by kernel_rfl, by kernel_rfl⟩
def c61r0 : LO := [oP 1 (.boxS (.t 0)),oP 2 (.mov (nI 0))]
def c61r1 : LO := [oP 3 (.load 3 true (.t 1)),oP 4 (.call 52 [(.t 3)]),oP 5 (.cmp .neq (.t 4) (nI 0))]
def c61r2 : LO := [oP 6 (.load 3 true (.t 1)),oP 7 (.call 52 [(.t 6)]),oM 2 7]
def c61r3 : LO := [oP 8 (.load 3 true (.t 1)),oP 9 (.call 53 [(.t 8)]),oN 10 9,oP 11 (.cmp .gtr (.t 10) (nI 1))]
def c61r4 : LO := [oP 2 (.mov (nI 17))]
def c61r5 : LO := [oP 2 (.mov (nI 0))]
def f61 : FRow := ⟨(sR c61r0 (.seq (sR c61r1 (.cond (.t 5) (sR c61r2 .ret) .skip)) (.seq (sR c61r3 (.cond (.t 11) (sR c61r4 .ret) .skip)) (sR c61r5 .ret)))), [.tmp 2], 12⟩
theorem qqZ : f61.Ok Tryz.prog 61 := ⟨_, _, Tryz.func61, rfl, by kernel_rfl, by kernel_rfl, by kernel_rfl⟩
def c63r0 : LO := [oP 2 (.mov (nI 0))]
def c63r1 : LO := [oP 3 (.mov (nI 0))]
def c63r2 : LO := [oP 4 (.mov (nI 0))]
def c63r3 : LO := [oM 5 4,oM 6 0,oN 7 6,oP 8 (.cmp .lss (.t 5) (.t 7))]
def c63r4 : LO := [oM 11 3,oM 12 0,oM 13 4,oI 14 12 13,oL 15 14,oP 16 (.arith .add (.t 11) (.t 15)),oM 3 16]
def c63r5 : LO := [oM 9 4,oP 10 (.arith .add (.t 9) (nI 1)),oM 4 10]
def c63l6 : ACode := (.seq (sR c63r3 (.cond (.t 8) .skip (.exit 0))) (.seq (.block 1 (rG c63r4)) (rG c63r5)))
def c63l6m : List Bool := zT<|zF<|zF<|zT<|zT<|z8<|zF<|zF<|zF<|zF<|zF<|[]
def c63r7 : LO := [oM 17 3,oM 2 17]
def f63 : FRow := ⟨(sR c63r0 (sR c63r1 (.seq (sR c63r2 (.block 0 (.loop c63l6m [] c63l6))) (sR c63r7 .ret)))), [.tmp 2], 18⟩
theorem qq0 : f63.Ok Tryz.prog 63 := ⟨_, _, Tryz.func63, rfl, by kernel_rfl, by kernel_rfl, by kernel_rfl⟩
def c64r0 : LO := [oP 2 (.alloc [(.s (.int .i64 0)), (.s (.int .i64 0))])]
def c64r1 : LO := [oP 3 (.alloc [(.s (.int .i64 0)), (.s (.int .i64 0)), (.s (.int .i64 0)), (.s (.int .i64 0))])]
def c64r2 : LO := [oP 8 (.sliceArr 4 1 (.t 3) none none),oM 9 0,oP 10 (.nilck (.t 9)),oF 11 0 10,oF 12 2 11,oL 13 12,oP 14 (.copy 1 (.t 8) (.t 13))]
def c64r3 : LO := [oP 15 (.load 4 true (.t 3)),oP 16 (.build [(.s (.int .i64 0)), (.s (.int .i64 0)), (.s (.int .i64 0)), (.s (.int .i64 0))] []),oP 17 (.eql true [(.int .i64), (.int .i64), (.int .i64), (.int .i64)] false (.t 15) (.t 16))]
def c64r4 : LO := [oP 18 (.build [(.s (.int .i64 0)), (.s (.int .i64 0))] [(0, 1, (nI 0)), (1, 1, (nI 1))]),⟨none, none, .store 2 (.t 2) (.t 18)⟩]
def c64r5 : LO := [oM 19 0,oP 20 (.call 58 [(.t 19)]),oM 4 20]
def c64r6 : LO := [oP 5 (.mov (nI 0))]
def c64r7 : LO := [oM 21 4,oN 22 21,oP 23 (.mov (nI 0))]
def c64r8 : LO := [oP 24 (.cmp .lss (.t 23) (.t 22))]
def c64r9 : LO := [oM 25 23,oI 26 21 23,oL 27 26,oM 6 25,oM 7 27]
def c64r10 : LO := [oM 28 5,oM 29 7,oM 30 6,oP 31 (.idxArrA 4 1 (.t 3) (.t 30)),oL 32 31,oP 33 (.arith .mul (.t 29) (.t 32)),oP 34 (.arith .add (.t 28) (.t 33)),oM 5 34]
def c64r11 : LO := [oP 35 (.arith .add (.t 23) (nI 1)),oM 23 35]
def c64l12 : ACode := (sR c64r8 (.seq (.cond (.t 24) .skip (.exit 0)) (.seq (.block 1 (sR c64r9 (rG c64r10))) (rG c64r11))))
def c64l12m : List Bool := zF<|zF<|zT<|zT<|zT<|zT<|z8<|zF<|zF<|zF<|zF<|zF<|zF<|zF<|zT<|zT<|zT<|z8<|z8<|[]
def c64r13 : LO := [oM 36 5,oM 37 4,oP 38 (.call 60 [(.t 37)]),oP 39 (.call 59 [(.t 36), (.t 38)]),⟨none, none, .store 2 (.t 2) (.t 39)⟩]
def f64 : FRow := ⟨(.seq (.reg 1 c64r0) (.seq (.reg 1 c64r1) (sR c64r2 (.seq (sR c64r3 (.cond (.t 17) (sR c64r4 .ret) .skip)) (sR c64r5 (sR c64r6 (.seq (sR c64r7 (.block 0 (.loop c64l12m [] c64l12))) (sR c64r13 .ret)))))))), [.cell 2 2 true], 40⟩
theorem qq1 : f64.Ok Tryz.prog 64 := ⟨_, _, Tryz.func64, rfl, by kernel_rfl, by kernel_rfl, by kernel_rfl⟩
def c66r0 : LO := [oP 6 (.mov (nI 0))]
def c66r1 : LO := [oM 15 0,oP 16 (.nilck (.t 15)),oF 17 0 16,oF 18 1 17,oL 19 18,oN 20 19,oP 21 (.mkslice 1 8 [(.int .i64 0)] (.t 20) (.t 20)),oM 7 21]
def c66r2 : LO := [oM 22 7,oM 23 1,oI 24 22 23,⟨none, none, .store 1 (.t 24) (nI 1)⟩]
def c66r3 : LO := [oP 8 (.mov (nI 0))]
def c66r4 : LO := [oM 25 2,oP 26 (.mov (nI 0))]
def c66r5 : LO := [oP 27 (.cmp .lss (.t 26) (.t 25))]
def c66r6 : LO := [oM 28 26,oM 9 28]
def c66r7 : LO := [oM 29 9,oP 30 (.cmp .gtr (.t 29) (nI 0))]
def c66r8 : LO := [oM 31 7,oN 32 31,oP 33 (.mkslice 1 8 [(.int .i64 0)] (.t 32) (.t 32)),oM 10 33]
def c66r9 : LO := [oM 34 0,oP 35 (.nilck (.t 34)),oF 36 3 35,oL 37 36,oP 38 (.rangeM (.t 37))]
def c66r10 : LO := [oP 39 (.nextM (.t 38)),oP 40 (.ext (.t 39) 0)]
def c66r11 : LO := [oP 41 (.entryM (.t 38)),oP 42 (.ext (.t 41) 0),oP 43 (.ext (.t 41) 1),oP 11 (.alloc [(.s (.int .i64 0)), (.s (.int .i64 0))]),⟨none, none, .store 2 (.t 11) (.t 42)⟩,oM 12 43]
def c66r12 : LO := [oM 44 10,oF 45 1 11,oL 46 45,oI 47 44 46,oL 48 47,oM 49 7,oF 50 0 11,oL 51 50,oI 52 49 51,oL 53 52,oM 54 12,oP 55 (.arith .mul (.t 53) (.t 54)),oP 56 (.arith .add (.t 48) (.t 55)),oI 57 44 46,⟨none, none, .store 1 (.t 57) (.t 56)⟩]
def c66l13 : ACode := (sR c66r10 (.seq (.cond (.t 40) .skip (.exit 2)) (.block 3 (.seq (.reg 1 c66r11) (rG c66r12)))))
def c66l13m : List Bool := zT<|zF<|zF<|zF<|zF<|zF<|zF<|zT<|zT<|zF<|zT<|z8<|zF<|zF<|zF<|zF<|zF<|zF<|zT<|zT<|z8<|zF<|zF<|zF<|zT<|z8<|z8<|z8<|z8<|z8<|z8<|zF<|[]
def c66r14 : LO := [oP 58 (.frzv (.t 10)),oM 7 58]
def c66r15 : LO := [oM 59 8,oM 60 0,oP 61 (.nilck (.t 60)),oF 62 0 61,oF 63 0 62,oL 64 63,oP 65 (.arith .mul (.t 59) (.t 64)),oM 8 65]
def c66r16 : LO := [oM 66 7,oN 67 66,oP 68 (.mov (nI 0))]
def c66r17 : LO := [oP 69 (.cmp .lss (.t 68) (.t 67))]
def c66r18 : LO := [oM 70 68,oI 71 66 68,oL 72 71,oM 13 70,oM 14 72]
def c66r19 : LO := [oM 73 8,oM 74 14,oM 75 0,oP 76 (.nilck (.t 75)),oF 77 0 76,oF 78 2 77,oL 79 78,oM 80 13,oI 81 79 80,oL 82 81,oP 83 (.arith .mul (.t 74) (.t 82)),oP 84 (.arith .add (.t 73) (.t 83)),oM 8 84]
def c66r20 : LO := [oP 85 (.arith .add (.t 68) (nI 1)),oM 68 85]
def c66l21 : ACode := (sR c66r17 (.seq (.cond (.t 69) .skip (.exit 4)) (.seq (.block 5 (sR c66r18 (rG c66r19))) (rG c66r20))))
def c66l21m : List Bool := zT<|zF<|zF<|zF<|zF<|zF<|zF<|zT<|zT<|z8<|z8<|zT<|zT<|z8<|z8<|z8<|z8<|zF<|zF<|zF<|zF<|zF<|zF<|zF<|zT<|zT<|zT<|z8<|z8<|zF<|zF<|zF<|[]
def c66r22 : LO := [oP 86 (.arith .add (.t 26) (nI 1)),oM 26 86]
def c66l23 : ACode := (sR c66r5 (.seq (.cond (.t 27) .skip (.exit 0)) (.seq (.block 1 (sR c66r6 (.seq (sR c66r7 (.cond (.t 30) (.seq (.reg 1 c66r8) (.seq (.seq (.reg 1 c66r9) (.block 2 (.loop c66l13m [] c66l13))) (sR c66r14 (rG c66r15)))) .skip)) (sR c66r16 (.block 4 (.loop c66l21m [] c66l21)))))) (rG c66r22))))
def c66l23m : List Bool := zT<|zF<|zF<|zF<|zF<|zF<|zF<|zT<|zT<|z8<|z8<|zT<|zT<|z8<|z8<|z8<|z8<|z8<|z8<|z8<|zF<|zF<|zF<|zF<|zF<|[]
def c66r24 : LO := [oM 87 8,oM 6 87]
def f66 : FRow := ⟨(sR c66r0 (.seq (.reg 1 c66r1) (sR c66r2 (sR c66r3 (.seq (sR c66r4 (.block 0 (.loop c66l23m [] c66l23))) (sR c66r24 .ret)))))), [.tmp 6], 88⟩
theorem qq2 : f66.Ok Tryz.prog 66 := ⟨_, _, Tryz.func66, rfl, by kernel_rfl, by kernel_rfl, by kernel_rfl⟩
def c67r0 : LO := [oP 1 (.boxS (.t 0)),oP 2 (.mov (.c .any))]
def c67r1 : LO := [oF 4 1 1,oL 5 4,oN 6 5,oP 3 (.alloc [(.s (.int .i64 0))]),⟨none, none, .store 1 (.t 3) (.t 6)⟩]
def c67r2 : LO := [oP 7 (.mkfn 100 [] [(.t 3), (.t 1)]),oM 2 7]
def f67 : FRow := ⟨(sR c67r0 (.seq (.reg 1 c67r1) (sR c67r2 .ret))), [.tmp 2], 8⟩
theorem qq3 : f67.Ok Tryz.prog 67 := ⟨_, _, Tryz.func67, rfl, by kernel_rfl, by kernel_rfl, by kernel_rfl⟩
def c68r0 : LO := [oP 1 (.boxS (.t 0)),oP 2 (.mov (.c (.s .nilp)))]
def c68r1 : LO := [oP 14 (.loadO 3 true (.t 1)),oP 15 (.mkmap),oP 16 (.build [(.s (.int .i64 0)), (.full []), (.full []), (.s (.map [] [])), (.full [])] [(0, 3, (.t 14)), (3, 1, (.t 15))]),oP 17 (.boxM (.t 16)),oM 3 17]
def c68r2 : LO := [oM 18 3,oP 19 (.nilck (.t 18)),oF 20 0 19,oF 21 1 20,oP 22 (.loadO 1 false (.t 21)),oN 23 22,oP 24 (.mov (nI 0))]
def c68r3 : LO := [oP 25 (.cmp .lss (.t 24) (.t 23))]
def c68r4 : LO := [oM 26 24,oI 27 22 24,oL 28 27,oM 4 26,oM 5 28]
def c68r5 : LO := [oM 29 5,oN 30 29,oP 31 (.mov (nI 0))]
def c68r6 : LO := [oP 32 (.cmp .lss (.t 31) (.t 30))]
def c68r7 : LO := [oM 33 31,oI 34 29 31,oL 35 34,oM 6 33,oM 7 35]
def c68r8 : LO := [oM 36 3,oP 37 (.nilck (.t 36)),oF 38 3 37,oP 39 (.loadO 1 false (.t 38)),oM 40 4,oM 41 6,oP 42 (.build [(.s (.int .i64 0)), (.s (.int .i64 0))] [(0, 1, (.t 40)), (1, 1, (.t 41))]),oM 43 7,⟨none, none, .mset [(.int .i64), (.int .i64)] (.t 39) (.t 42) (.t 43)⟩]
def c68r9 : LO := [oP 44 (.arith .add (.t 31) (nI 1)),oM 31 44]
def c68l10 : ACode := (sR c68r6 (.seq (.cond (.t 32) .skip (.exit 2)) (.seq (.block 3 (sR c68r7 (rG c68r8))) (rG c68r9))))
def c68l10m : List Bool := zF<|zF<|zF<|zT<|zT<|z8<|z8<|zF<|zT<|zT<|zT<|zF<|zF<|zF<|zF<|zT<|zT<|zT<|z8<|z8<|z8<|z8<|z8<|z8<|z8<|z8<|z8<|z8<|zF<|zF<|zF<|zF<|zF<|zF<|zF<|[]
def c68r11 : LO := [oP 45 (.arith .add (.t 24) (nI 1)),oM 24 45]
def c68l12 : ACode := (sR c68r3 (.seq (.cond (.t 25) .skip (.exit 0)) (.seq (.block 1 (sR c68r4 (sR c68r5 (.block 2 (.loop c68l10m [] c68l10))))) (rG c68r11))))
def c68l12m : List Bool := zF<|zF<|zF<|zT<|z8<|z8<|zF<|zF<|zT<|zT<|zT<|z8<|z8<|z8<|z8<|z8<|z8<|z8<|z8<|z8<|z8<|z8<|zF<|zF<|zF<|zF<|zF<|zF<|[]
def c68r13 : LO := [oM 46 3,oP 47 (.nilck (.t 46)),oF 48 3 47,oP 49 (.loadO 1 false (.t 48)),oP 50 (.rangeM (.t 49))]
def c68r14 : LO := [oP 51 (.nextM (.t 50)),oP 52 (.ext (.t 51) 0)]
def c68r15 : LO := [oP 53 (.entryM (.t 50)),oP 54 (.ext (.t 53) 0),oP 55 (.ext (.t 53) 1),oP 8 (.alloc [(.s (.int .i64 0)), (.s (.int .i64 0))]),⟨none, none, .store 2 (.t 8) (.t 54)⟩,oM 9 55]
def c68r16 : LO := [oM 56 9,oP 57 (.cmp .eql (.t 56) (nI 0))]
def c68r17 : LO := [oM 58 3,oP 59 (.nilck (.t 58)),oF 60 3 59,oP 61 (.loadO 1 false (.t 60)),oP 62 (.loadO 2 true (.t 8)),⟨none, none, .mdel [(.int .i64), (.int .i64)] (.t 61) (.t 62)⟩]
def c68l18 : ACode := (sR c68r14 (.seq (.cond (.t 52) .skip (.exit 4)) (.block 5 (.seq (.reg 1 c68r15) (sR c68r16 (.cond (.t 57) (rG c68r17) .skip))))))
def c68l18m : List Bool := zF<|zF<|zF<|zT<|z8<|z8<|z8<|z8<|z8<|zF<|zF<|zF<|zF<|zF<|zF<|zT<|z8<|z8<|z8<|z8<|z8<|z8<|z8<|z8<|zF<|zF<|zF<|zF<|[]
def c68r19 : LO := [oM 63 3,oP 64 (.nilck (.t 63)),oF 65 0 64,oF 66 1 65,oP 67 (.loadO 1 false (.t 66)),oN 68 67,oP 69 (.mov (nI 0))]
def c68r20 : LO := [oP 70 (.cmp .lss (.t 69) (.t 68))]
def c68r21 : LO := [oM 71 69,oM 10 71]
def c68r22 : LO := [oM 72 3,oM 73 10,oP 74 (.call 102 [(.t 72), (.t 73)]),oM 11 74]
def c68r23 : LO := [oM 75 11,oN 76 75,oP 77 (.mov (nI 0))]
def c68r24 : LO := [oP 78 (.cmp .lss (.t 77) (.t 76))]
def c68r25 : LO := [oI 79 75 77,oL 80 79,oM 13 80]
def c68r26 : LO := [oM 81 13,oM 82 10,oP 83 (.cmp .lss (.t 81) (.t 82)),oM 84 83,oH 85 84 false 3,oH 86 84 false 13,oG 87 84 false (.call 102 [(.t 85), (.t 86)]),oH 88 84 false 11,oG 89 84 false (.call 103 [(.t 87), (.t 88)]),oG 90 84 false (.not (.t 89)),oP 91 (.pick (.t 84) bT (.t 90))]
def c68r27 : LO := [oP 92 (.arith .add (.t 77) (nI 1)),oM 77 92]
def c68l28 : ACode := (sR c68r24 (.seq (.cond (.t 78) .skip (.exit 8)) (.seq (.block 9 (sR c68r25 (sR c68r26 (.cond (.t 91) (.exit 7) .skip)))) (rG c68r27))))
def c68l28m : List Bool := zF<|zF<|zF<|zT<|zF<|zF<|zF<|zF<|zF<|zF<|zT<|zT<|z8<|z8<|z8<|z8<|z8<|z8<|z8<|zT<|zT<|zF<|zF<|zF<|zF<|zF<|zT<|zT<|zT<|z8<|z8<|z8<|z8<|z8<|zF<|[]
def c68r29 : LO := [oM 93 11,oM 94 10,oP 95 (.call 91 [(.t 93), (.t 94)])]
def c68r30 : LO := [oM 96 3,oM 97 3,oP 98 (.nilck (.t 97)),oF 99 4 98,oP 100 (.loadO 1 false (.t 99)),oM 101 3,oP 102 (.nilck (.t 101)),oF 103 4 102,oP 104 (.loadO 1 false (.t 103)),oN 105 104,oM 106 3,oP 107 (.nilck (.t 106)),oF 108 4 107,oP 109 (.loadO 1 false (.t 108)),oN 110 109,oP 111 (.slice 1 (.t 100) none (some (.t 105)) (some (.t 110))),oP 112 (.frzv (.t 11)),oP 113 (.buildSl 1 1 (.slice []) [(0, (.t 112))]),oP 114 (.appendZ 1 24 (.t 111) (.t 113)),oP 115 (.nilck (.t 96)),oF 116 4 115,⟨none, none, .store 1 (.t 116) (.t 114)⟩]
def c68r31 : LO := [oP 117 (.arith .add (.t 69) (nI 1)),oM 69 117]
def c68l32 : ACode := (sR c68r20 (.seq (.cond (.t 70) .skip (.exit 6)) (.seq (.block 7 (sR c68r21 (sR c68r22 (.seq (sR c68r23 (.block 8 (.loop c68l28m [] c68l28))) (sR c68r29 (.cond (.t 95) (rG c68r30) .skip)))))) (rG c68r31))))
def c68l32m : List Bool := zF<|zF<|zF<|zT<|z8<|z8<|z8<|z8<|z8<|z8<|z8<|z8<|zT<|zT<|z8<|z8<|z8<|z8<|z8<|z8<|zF<|[]
def c68r33 : LO := [oM 118 3,oM 2 118]
def f68 : FRow := ⟨(sR c68r0 (.scope (.seq (.reg 2 c68r1) (.seq (sR c68r2 (.block 0 (.loop c68l12m [] c68l12))) (.seq (.seq (.reg 1 c68r13) (.block 4 (.loop c68l18m [] c68l18))) (.seq (.label 0) (.seq (.seq (.zap 3 3 (rG c68r19)) (.block 6 (.loop c68l32m [] c68l32))) (sR c68r33 .ret)))))))), [.tmp 2], 119⟩
theorem qq4 : f68.Ok Tryz.prog 68 := ⟨_, _, Tryz.func68, rfl, by kernel_rfl, by kernel_rfl, by kernel_rfl⟩
def c69r0 : LO := [oP 2 (.boxS (.t 0)),oP 3 (.boxS (.t 1)),oP 4 (.mov bF)]
def c69r1 : LO := [oF 5 0 2,oL 6 5,oF 7 1 3,oL 8 7,oP 9 (.arith .mul (.t 6) (.t 8)),oF 10 0 3,oL 11 10,oF 12 1 2,oL 13 12,oP 14 (.arith .mul (.t 11) (.t 13)),oP 15 (.cmp .lss (.t 9) (.t 14)),oM 4 15]
def f69 : FRow := ⟨(sR c69r0 (sR c69r1 .ret)), [.tmp 4], 16⟩
theorem qq5 : f69.Ok Tryz.prog 69 := ⟨_, _, Tryz.func69, rfl, by kernel_rfl, by kernel_rfl, by kernel_rfl⟩
def c70r0 : LO := [oP 3 (.boxS (.t 0)),oP 4 (.boxS (.t 1)),oP 5 (.mov bF)]
def c70r1 : LO := [oL 6 2,oP 7 (.load 2 true (.t 4)),oP 8 (.load 2 true (.t 3)),oP 9 (.callv (.t 6) [(.t 7), (.t 8)]),oM 5 9]
def f70 : FRow := ⟨(sR c70r0 (sR c70r1 .ret)), [.tmp 5], 10⟩
theorem qq6 : f70.Ok Tryz.prog 70 := ⟨_, _, Tryz.func70, rfl, by kernel_rfl, by kernel_rfl, by kernel_rfl⟩
def c71r0 : LO := [oP 4 (.alloc [(.s (.int .i64 0)), (.s (.int .i64 0))])]
def c71r1 : LO := [oM 8 0,oP 9 (.idxA 2 (.t 8) (nI 0)),oP 10 (.load 2 true (.t 9)),oP 5 (.alloc [(.s (.int .i64 0)), (.s (.int .i64 0))]),⟨none, none, .store 2 (.t 5) (.t 10)⟩]
def c71r2 : LO := [oM 11 0,oP 12 (.slice 2 (.t 11) (some (nI 1)) none none),oN 13 12,oP 14 (.mov (nI 0))]
def c71r3 : LO := [oP 15 (.cmp .lss (.t 14) (.t 13))]
def c71r4 : LO := [oP 16 (.idxA 2 (.t 12) (.t 14)),oP 17 (.load 2 true (.t 16)),oP 7 (.alloc [(.s (.int .i64 0)), (.s (.int .i64 0))]),⟨none, none, .store 2 (.t 7) (.t 17)⟩]
def c71r5 : LO := [oM 18 1,oP 19 (.load 2 true (.t 7)),oP 20 (.load 2 true (.t 5)),oP 21 (.callv (.t 18) [(.t 19), (.t 20)])]
def c71r6 : LO := [oP 22 (.load 2 true (.t 7)),⟨none, none, .store 2 (.t 5) (.t 22)⟩]
def c71r7 : LO := [oP 23 (.arith .add (.t 14) (nI 1)),oM 14 23]
def c71l8 : ACode := (sR c71r3 (.seq (.cond (.t 15) .skip (.exit 0)) (.seq (.block 1 (.seq (.reg 1 c71r4) (sR c71r5 (.cond (.t 21) (rG c71r6) .skip)))) (rG c71r7))))
def c71l8m : List Bool := zF<|zT<|zF<|zF<|zT<|zT<|zF<|zF<|zF<|zF<|zF<|zF<|zT<|zT<|zT<|z8<|zF<|zF<|[]
def c71r9 : LO := [oP 24 (.load 2 true (.t 5)),⟨none, none, .store 2 (.t 4) (.t 24)⟩]
def f71 : FRow := ⟨(.seq (.reg 1 c71r0) (.seq (.reg 1 c71r1) (.seq (sR c71r2 (.block 0 (.loop c71l8m [] c71l8))) (sR c71r9 .ret)))), [.cell 4 2 true], 25⟩
theorem qq7 : f71.Ok Tryz.prog 71 := ⟨_, _, Tryz.func71, rfl, by kernel_rfl, by kernel_rfl, by kernel_rfl⟩
def c77r0 : LO := [oP 1 (.boxS (.t 0)),oP 2 (.mov bF)]
def c77r1 : LO := [oF 3 1 1,oL 4 3,oP 5 (.cmp .lss (.t 4) (nI 1)),oM 6 5,oG 7 6 false (.fieldAddr 1 (.t 1)),oG 8 6 false (.load 1 false (.t 7)),oG 9 6 false (.cmp .gtr (.t 8) (nI 32000)),oP 10 (.pick (.t 6) bT (.t 9)),oM 11 10,oG 12 11 false (.fieldAddr 0 (.t 1)),oG 13 11 false (.load 1 false (.t 12)),oG 14 11 false (.cmp .lss (.t 13) (nI 0)),oP 15 (.pick (.t 11) bT (.t 14)),oM 16 15,oG 17 16 false (.fieldAddr 0 (.t 1)),oG 18 16 false (.load 1 false (.t 17)),oG 19 16 false (.fieldAddr 1 (.t 1)),oG 20 16 false (.load 1 false (.t 19)),oG 21 16 false (.arith .mul (nI 1000) (.t 20)),oG 22 16 false (.cmp .gtr (.t 18) (.t 21)),oP 23 (.pick (.t 16) bT (.t 22))]
def c77r2 : LO := [oP 2 (.mov bF)]
def c77r3 : LO := [oF 24 0 1,oL 25 24,oF 26 1 1,oL 27 26,oP 28 (.call 34 [(.t 25), (.t 27)]),oP 29 (.cmp .eql (.t 28) (nI 1)),oM 2 29]
def f77 : FRow := ⟨(sR c77r0 (.seq (sR c77r1 (.cond (.t 23) (sR c77r2 .ret) .skip)) (sR c77r3 .ret))), [.tmp 2], 30⟩
theorem qq8 : f77.Ok Tryz.prog 77 := ⟨_, _, Tryz.func77, rfl, by kernel_rfl, by kernel_rfl, by kernel_rfl⟩
def c78r0 : LO := [oP 2 (.alloc [(.s (.int .i64 0)), (.s (.int .i64 0)), (.full [])])]
def c78r1 : LO := [oM 17 0,oP 18 (.call 58 [(.t 17)]),oM 3 18]
def c78r2 : LO := [oM 19 3,oP 20 (.call 60 [(.t 19)]),oM 4 20]
def c78r3 : LO := [oP 5 (.mov (nI 0))]
def c78r4 : LO := [oM 21 3,oN 22 21,oP 23 (.mov (nI 0))]
def c78r5 : LO := [oP 24 (.cmp .lss (.t 23) (.t 22))]
def c78r6 : LO := [oM 25 23,oI 26 21 23,oL 27 26,oM 6 25,oM 7 27]
def c78r7 : LO := [oM 28 5,oM 29 7,oM 30 0,oP 31 (.nilck (.t 30)),oF 32 0 31,oF 33 2 32,oL 34 33,oM 35 6,oI 36 34 35,oL 37 36,oP 38 (.arith .mul (.t 29) (.t 37)),oP 39 (.arith .add (.t 28) (.t 38)),oM 5 39]
def c78r8 : LO := [oP 40 (.arith .add (.t 23) (nI 1)),oM 23 40]
def c78l9 : ACode := (sR c78r5 (.seq (.cond (.t 24) .skip (.exit 0)) (.seq (.block 1 (sR c78r6 (rG c78r7))) (rG c78r8))))
def c78l9m : List Bool := zT<|zF<|zT<|zF<|zT<|zT<|z8<|zF<|zF<|zF<|zF<|zF<|zF<|zF<|zT<|zT<|zT<|z8<|z8<|z8<|z8<|z8<|z8<|z8<|z8<|z8<|z8<|z8<|zF<|zF<|zF<|zF<|[]
def c78r10 : LO := [oM 41 0,oM 42 0,oP 43 (.nilck (.t 42)),oF 44 4 43,oL 45 44,oP 46 (.idxA 1 (.t 45) (nI 0)),oL 47 46,oP 48 (.slice 1 (.t 47) none (some (nI 1)) none),oP 49 (.call 88 [(.t 41), (.t 48)]),oM 8 49]
def c78r11 : LO := [oP 9 (.mov (.c (.full [])))]
def c78r12 : LO := [oM 50 8,oN 51 50,oP 52 (.mov (nI 0))]
def c78r13 : LO := [oP 53 (.cmp .lss (.t 52) (.t 51))]
def c78r14 : LO := [oI 54 50 52,oL 55 54,oM 11 55]
def c78r15 : LO := [oM 56 9,oM 57 0,oP 58 (.nilck (.t 57)),oF 59 0 58,oF 60 0 59,oL 61 60,oM 62 0,oP 63 (.nilck (.t 62)),oF 64 0 63,oF 65 2 64,oL 66 65,oM 67 11,oI 68 66 67,oL 69 68,oM 70 4,oP 71 (.arith .mul (.t 69) (.t 70)),oM 72 5,oP 73 (.arith .sub (.t 71) (.t 72)),oP 74 (.arith .mul (.t 61) (.t 73)),oP 75 (.buildSl 1 1 (.int .i64 0) [(0, (.t 74))]),oP 76 (.append 1 8 (.t 56) (.t 75)),oM 9 76]
def c78r16 : LO := [oP 77 (.arith .add (.t 52) (nI 1)),oM 52 77]
def c78l17 : ACode := (sR c78r13 (.seq (.cond (.t 53) .skip (.exit 2)) (.seq (.block 3 (sR c78r14 (.reg 1 c78r15))) (rG c78r16))))
def c78l17m : List Bool := zT<|zF<|zT<|zF<|zT<|zT<|zF<|zF<|zT<|zT<|z8<|z8<|z8<|z8<|z8<|zT<|zT<|zT<|z8<|z8<|z8<|z8<|z8<|z8<|z8<|zF<|zF<|zF<|zF<|zF<|zF<|zF<|[]
def c78r18 : LO := [oM 79 0,oM 80 8,oP 81 (.frzv (.t 9)),oP 82 (.call 92 [(.t 79), (.t 80), (.t 81)]),oM 78 82,oP 83 (.ext (.t 78) 0),oP 84 (.ext (.t 78) 1),oM 12 83,oM 13 84]
def c78r19 : LO := [oM 85 13,oM 86 4,oP 87 (.arith .mul (.t 85) (.t 86)),oM 88 5,oM 89 13,oP 90 (.arith .mul (.t 88) (.t 89)),oM 91 0,oP 92 (.nilck (.t 91)),oF 93 0 92,oF 94 1 93,oL 95 94,oN 96 95,oP 97 (.mkslice 1 8 [(.int .i64 0)] (.t 96) (.t 96)),oP 98 (.build [(.s (.int .i64 0)), (.s (.int .i64 0)), (.full [])] [(0, 1, (.t 87)), (1, 1, (.t 90)), (2, 1, (.t 97))]),oP 14 (.alloc [(.s (.int .i64 0)), (.s (.int .i64 0)), (.full [])]),⟨none, none, .store 3 (.t 14) (.t 98)⟩]
def c78r20 : LO := [oM 99 8,oN 100 99,oP 101 (.mov (nI 0))]
def c78r21 : LO := [oP 102 (.cmp .lss (.t 101) (.t 100))]
def c78r22 : LO := [oM 103 101,oI 104 99 101,oL 105 104,oM 15 103,oM 16 105]
def c78r23 : LO := [oF 106 2 14,oL 107 106,oM 108 16,oM 109 12,oM 110 15,oI 111 109 110,oL 112 111,oI 113 107 108,⟨none, none, .store 1 (.t 113) (.t 112)⟩]
def c78r24 : LO := [oP 114 (.arith .add (.t 101) (nI 1)),oM 101 114]
def c78l25 : ACode := (sR c78r21 (.seq (.cond (.t 102) .skip (.exit 4)) (.seq (.block 5 (sR c78r22 (rG c78r23))) (rG c78r24))))
def c78l25m : List Bool := zF<|zF<|zT<|z8<|zF<|zT<|zF<|zT<|z8<|z8<|z8<|z8<|z8<|z8<|z8<|z8<|z8<|z8<|zF<|zF<|zF<|zF<|zT<|zT<|zT<|z8<|zF<|zF<|zF<|zF<|zF<|zF<|[]
def c78r26 : LO := [oP 115 (.load 3 true (.t 14)),⟨none, none, .store 3 (.t 2) (.t 115)⟩]
def f78 : FRow := ⟨(.seq (.reg 1 c78r0) (sR c78r1 (sR c78r2 (sR c78r3 (.seq (sR c78r4 (.block 0 (.loop c78l9m [] c78l9))) (sR c78r10 (sR c78r11 (.seq (sR c78r12 (.block 2 (.loop c78l17m [(9, none, 0)] c78l17))) (sR c78r18 (.seq (.reg 2 c78r19) (.seq (sR c78r20 (.block 4 (.loop c78l25m [] c78l25))) (sR c78r26 .ret)))))))))))), [.cell 2 3 true], 116⟩
theorem qq9 : f78.Ok Tryz.prog 78 := ⟨_, _, Tryz.func78, rfl, by kernel_rfl, by kernel_rfl, by kernel_rfl⟩
def c79r0 : LO := [oP 2 (.boxS (.t 0)),oP 3 (.boxS (.t 1)),oP 4 (.mov (.c .any))]
def c79r1 : LO := [oP 5 (.mkfn 104 [] [(.t 2), (.t 3)]),oM 4 5]
def f79 : FRow := ⟨(sR c79r0 (sR c79r1 .ret)), [.tmp 4], 6⟩
theorem qra : f79.Ok Tryz.prog 79 := ⟨_, _, Tryz.func79, rfl, by kernel_rfl, by kernel_rfl, by kernel_rfl⟩
def c80r0 : LO := [oP 6 (.alloc [(.s (.int .i64 0)), (.full []), (.full [])])]
def c80r1 : LO := [oM 9 0,oM 10 1,oP 11 (.build [(.s (.int .i64 0)), (.full []), (.full [])] [(0, 1, (.t 9)), (2, 1, (.t 10))]),oP 7 (.alloc [(.s (.int .i64 0)), (.full []), (.full [])]),⟨none, none, .store 3 (.t 7) (.t 11)⟩]
def c80r2 : LO := [oP 8 (.mov (nI 0))]
def c80r3 : LO := [oM 12 8,oM 13 1,oN 14 13,oP 15 (.arith .add (.t 12) (.t 14)),oM 16 2,oN 17 16,oP 18 (.cmp .leq (.t 15) (.t 17)),oM 19 18,oH 20 19 true 1,oG 21 19 true (.len false (.t 20)),oG 22 19 true (.cmp .gtr (.t 21) (nI 0)),oP 23 (.pick (.t 19) (.t 22) bF)]
def c80r4 : LO := [oF 28 1 7,oL 29 28,oM 30 2,oM 31 8,oM 32 8,oM 33 1,oN 34 33,oP 35 (.arith .add (.t 32) (.t 34)),oP 36 (.slice 1 (.t 30) (some (.t 31)) (some (.t 35)) none),oP 37 (.buildSl 1 1 (.slice []) [(0, (.t 36))]),oP 38 (.append 1 24 (.t 29) (.t 37)),oF 39 1 7,⟨none, none, .store 1 (.t 39) (.t 38)⟩]
def c80r5 : LO := [oM 24 8,oM 25 1,oN 26 25,oP 27 (.arith .add (.t 24) (.t 26)),oM 8 27]
def c80l6 : ACode := (.seq (sR c80r3 (.cond (.t 23) .skip (.exit 0))) (.seq (.block 1 (.reg 1 c80r4)) (rG c80r5)))
def c80l6m : List Bool := zF<|zT<|zT<|zF<|zF<|zF<|zT<|zT<|zT<|z8<|z8<|z8<|z8<|[]
def c80r7 : LO := [oP 40 (.load 3 true (.t 7)),⟨none, none, .store 3 (.t 6) (.t 40)⟩]
def f80 : FRow := ⟨(.seq (.reg 1 c80r0) (.seq (.reg 1 c80r1) (.seq (sR c80r2 (.block 0 (.loop c80l6m [(7, some 1, 0)] c80l6))) (sR c80r7 .ret)))), [.cell 6 3 true], 41⟩
theorem qrb : f80.Ok Tryz.prog 80 := ⟨_, _, Tryz.func80, rfl, by kernel_rfl, by kernel_rfl, by kernel_rfl⟩
def c81r0 : LO := [oP 1 (.boxS (.t 0)),oP 2 (.mov (nI 0))]
def c81r1 : LO := [oF 6 1 1,oL 7 6,oN 8 7,oP 3 (.alloc [(.s (.int .i64 0))]),⟨none, none, .store 1 (.t 3) (.t 8)⟩]
def c81r2 : LO := [oP 9 (.mkfn 105 [] [(.t 3)]),oM 4 9]
def c81r3 : LO := [oP 10 (.mkfn 106 [] [(.t 1)]),oM 5 10]
def c81r4 : LO := [oL 12 3,oP 13 (.buildSl 1 1 (.int .i64 0) [(0, (.t 12))]),oP 14 (.call 50 [(nI 1), (nI 4), (.t 13)]),oP 15 (.not (.t 14)),oM 11 15]
def c81r5 : LO := [oP 2 (.mov (nI 6))]
def c81r6 : LO := [oF 17 1 1,oL 18 17,oM 19 4,oP 20 (.call 82 [(.t 18), (.t 19)]),oM 21 20,oH 22 21 false 4,oG 23 21 false (.fieldAddr 2 (.t 1)),oG 24 21 false (.load 1 false (.t 23)),oG 25 21 false (.callv (.t 22) [(.t 24)]),oP 26 (.pick (.t 21) bT (.t 25)),oM 16 26]
def c81r7 : LO := [oP 2 (.mov (nI 15))]
def c81r8 : LO := [oF 28 0 1,oL 29 28,oP 30 (.buildSl 1 1 (.int .i64 0) [(0, (.t 29))]),oP 31 (.call 50 [(nI 1), (nI 20), (.t 30)]),oP 32 (.not (.t 31)),oM 33 32,oG 34 33 false (.fieldAddr 1 (.t 1)),oG 35 33 false (.load 1 false (.t 34)),oH 36 33 false 5,oG 37 33 false (.call 82 [(.t 35), (.t 36)]),oP 38 (.pick (.t 33) bT (.t 37)),oM 39 38,oG 40 39 false (.fieldAddr 2 (.t 1)),oG 41 39 false (.load 1 false (.t 40)),oG 42 39 false (.call 50 [(nI 0), (nI 1000), (.t 41)]),oG 43 39 false (.not (.t 42)),oP 44 (.pick (.t 39) bT (.t 43)),oM 27 44]
def c81r9 : LO := [oP 2 (.mov (nI 3))]
def c81r10 : LO := [oP 2 (.mov (nI 0))]
def f81 : FRow := ⟨(sR c81r0 (.seq (.reg 1 c81r1) (sR c81r2 (sR c81r3 (.seq (.block 0 (sR c81r4 (.cond (.t 11) (sR c81r5 .ret) (sR c81r6 (.cond (.t 16) (sR c81r7 .ret) (sR c81r8 (.cond (.t 27) (sR c81r9 .ret) .skip))))))) (sR c81r10 .ret)))))), [.tmp 2], 45⟩
theorem qrc : f81.Ok Tryz.prog 81 := ⟨_, _, Tryz.func81, rfl, by kernel_rfl, by kernel_rfl, by kernel_rfl⟩
def c82r0 : LO := [oP 4 (.mov bF)]
def c82r1 : LO := [oM 5 0,oM 6 1,oP 7 (.call 107 [(.t 5), (.t 6)]),oP 8 (.cmp .geq (.t 7) (nI 0)),oM 4 8]
def f82 : FRow := ⟨(sR c82r0 (sR c82r1 .ret)), [.tmp 4], 9⟩
theorem qrd : f82.Ok Tryz.prog 82 := ⟨_, _, Tryz.func82, rfl, by kernel_rfl, by kernel_rfl, by kernel_rfl⟩
def c83r0 : LO := [oP 3 (.mov bF)]
def c83r1 : LO := [oM 4 0,oP 5 (.call 60 [(.t 4)]),oF 6 0 1,oL 7 6,oP 8 (.cmp .gtr (.t 5) (.t 7)),oM 9 8,oH 10 9 false 0,oG 11 9 false (.idxA 1 (.t 10) (nI 0)),oG 12 9 false (.load 1 false (.t 11)),oG 13 9 false (.cmp .eql (.t 12) (nI 0)),oP 14 (.pick (.t 9) bT (.t 13)),oM 3 14]
def f83 : FRow := ⟨(sR c83r0 (sR c83r1 .ret)), [.tmp 3], 15⟩
theorem qre : f83.Ok Tryz.prog 83 := ⟨_, _, Tryz.func83, rfl, by kernel_rfl, by kernel_rfl, by kernel_rfl⟩
def c84r0 : LO := [oP 3 (.mov bF)]
def c84r1 : LO := [oM 4 0,oP 5 (.call 60 [(.t 4)]),oF 6 0 1,oL 7 6,oP 8 (.cmp .neq (.t 5) (.t 7)),oM 3 8]
def f84 : FRow := ⟨(sR c84r0 (sR c84r1 .ret)), [.tmp 3], 9⟩
theorem qrf : f84.Ok Tryz.prog 84 := ⟨_, _, Tryz.func84, rfl, by kernel_rfl, by kernel_rfl, by kernel_rfl⟩
def c85r0 : LO := [oP 4 (.mov bF)]
def c85r1 : LO := [oM 6 0,oN 7 6,oM 8 1,oN 9 8,oP 10 (.cmp .neq (.t 7) (.t 9))]
def c85r2 : LO := [oP 4 (.mov bF)]
def c85r3 : LO := [oP 5 (.mov (nI 0))]
def c85r4 : LO := [oM 11 5,oM 12 0,oN 13 12,oP 14 (.cmp .lss (.t 11) (.t 13))]
def c85r5 : LO := [oM 17 0,oM 18 5,oI 19 17 18,oL 20 19,oM 21 1,oM 22 5,oI 23 21 22,oL 24 23,oP 25 (.cmp .neq (.t 20) (.t 24))]
def c85r6 : LO := [oP 4 (.mov bF)]
def c85r7 : LO := [oM 15 5,oP 16 (.arith .add (.t 15) (nI 1)),oM 5 16]
def c85l8 : ACode := (.seq (sR c85r4 (.cond (.t 14) .skip (.exit 0))) (.seq (.block 1 (sR c85r5 (.cond (.t 25) (sR c85r6 .ret) .skip))) (rG c85r7)))
def c85l8m : List Bool := zT<|zT<|zF<|zF<|zF<|zT<|z8<|z8<|zF<|zF<|zF<|zF<|[]
def c85r9 : LO := [oP 4 (.mov bT)]
def f85 : FRow := ⟨(sR c85r0 (.seq (sR c85r1 (.cond (.t 10) (sR c85r2 .ret) .skip)) (.seq (sR c85r3 (.block 0 (.loop c85l8m [] c85l8))) (sR c85r9 .ret)))), [.tmp 4], 26⟩
theorem qrg : f85.Ok Tryz.prog 85 := ⟨_, _, Tryz.func85, rfl, by kernel_rfl, by kernel_rfl, by kernel_rfl⟩
def c86r0 : LO := [oP 4 (.mov bF)]
def c86r1 : LO := [oM 5 0,oM 6 1,oP 7 (.call 108 [(.t 5), (.t 6)]),oP 8 (.cmp .geq (.t 7) (nI 0)),oM 4 8]
def f86 : FRow := ⟨(sR c86r0 (sR c86r1 .ret)), [.tmp 4], 9⟩
theorem qrh : f86.Ok Tryz.prog 86 := ⟨_, _, Tryz.func86, rfl, by kernel_rfl, by kernel_rfl, by kernel_rfl⟩
def c87r0 : LO := [oP 4 (.mov bF)]
def c87r1 : LO := [oM 5 0,oL 6 1,oP 7 (.cmp .lss (.t 5) (.t 6)),oM 8 7,oH 9 8 false 0,oG 10 8 false (.load 1 false (.t 2)),oG 11 8 false (.cmp .gtr (.t 9) (.t 10)),oP 12 (.pick (.t 8) bT (.t 11)),oM 4 12]
def f87 : FRow := ⟨(sR c87r0 (sR c87r1 .ret)), [.tmp 4], 13⟩
theorem qri : f87.Ok Tryz.prog 87 := ⟨_, _, Tryz.func87, rfl, by kernel_rfl, by kernel_rfl, by kernel_rfl⟩
def c88r0 : LO := [oP 4 (.mov (.c (.full [])))]
def c88r1 : LO := [oP 5 (.mov (.c (.full [])))]
def c88r2 : LO := [oM 7 0,oP 8 (.nilck (.t 7)),oF 9 0 8,oF 10 1 9,oL 11 10,oN 12 11,oP 13 (.mov (nI 0))]
def c88r3 : LO := [oP 14 (.cmp .lss (.t 13) (.t 12))]
def c88r4 : LO := [oM 15 13,oM 6 15]
def c88r5 : LO := [oM 16 1,oM 17 6,oP 18 (.call 91 [(.t 16), (.t 17)]),oP 19 (.not (.t 18))]
def c88r6 : LO := [oM 20 5,oM 21 6,oP 22 (.buildSl 1 1 (.int .i64 0) [(0, (.t 21))]),oP 23 (.append 1 8 (.t 20) (.t 22)),oM 5 23]
def c88r7 : LO := [oP 24 (.arith .add (.t 13) (nI 1)),oM 13 24]
def c88l8 : ACode := (sR c88r3 (.seq (.cond (.t 14) .skip (.exit 0)) (.seq (.block 1 (sR c88r4 (sR c88r5 (.cond (.t 19) (.reg 1 c88r6) .skip)))) (rG c88r7))))
def c88l8m : List Bool := zF<|zT<|zF<|zF<|zF<|zT<|zF<|zF<|zF<|zF<|zF<|zF<|zT<|zT<|z8<|zF<|zF<|zF<|zF<|[]
def c88r9 : LO := [oM 25 5,oM 4 25]
def f88 : FRow := ⟨(sR c88r0 (sR c88r1 (.seq (sR c88r2 (.block 0 (.loop c88l8m [(5, none, 0)] c88l8))) (sR c88r9 .ret)))), [.tmp 4], 26⟩
theorem qrj : f88.Ok Tryz.prog 88 := ⟨_, _, Tryz.func88, rfl, by kernel_rfl, by kernel_rfl, by kernel_rfl⟩
def c89r0 : LO := [oP 2 (.mov (.c (.full [])))]
def c89r1 : LO := [oP 3 (.mov (nI 0))]
def c89r2 : LO := [oM 9 0,oN 10 9,oP 11 (.mov (nI 0))]
def c89r3 : LO := [oP 12 (.cmp .lss (.t 11) (.t 10))]
def c89r4 : LO := [oI 13 9 11,oL 14 13,oM 5 14]
def c89r5 : LO := [oM 15 3,oM 16 5,oN 17 16,oP 18 (.arith .add (.t 15) (.t 17)),oM 3 18]
def c89r6 : LO := [oM 19 3,oP 20 (.cmp .lss (.t 19) (nI 0))]
def c89r7 : LO := [oP 21 (.dead),⟨none, none, .dead⟩]
def c89r8 : LO := [oP 22 (.arith .add (.t 11) (nI 1)),oM 11 22]
def c89l9 : ACode := (sR c89r3 (.seq (.cond (.t 12) .skip (.exit 0)) (.seq (.block 1 (sR c89r4 (sR c89r5 (sR c89r6 (.cond (.t 20) (rG c89r7) .skip))))) (rG c89r8))))
def c89l9m : List Bool := zT<|zF<|zF<|zT<|zF<|zF<|zF<|zF<|zF<|zT<|zT<|zT<|z8<|z8<|z8<|[]
def c89r10 : LO := [oM 23 3,oP 24 (.callN 1 109 [(.c (.full [])), (.t 23)]),oM 6 24]
def c89r11 : LO := [oM 25 0,oN 26 25,oP 27 (.mov (nI 0))]
def c89r12 : LO := [oP 28 (.cmp .lss (.t 27) (.t 26))]
def c89r13 : LO := [oI 29 25 27,oL 30 29,oM 8 30]
def c89r14 : LO := [oM 31 6,oM 32 8,oP 33 (.append 1 8 (.t 31) (.t 32)),oM 6 33]
def c89r15 : LO := [oP 34 (.arith .add (.t 27) (nI 1)),oM 27 34]
def c89l16 : ACode := (sR c89r12 (.seq (.cond (.t 28) .skip (.exit 2)) (.seq (.block 3 (sR c89r13 (.reg 1 c89r14))) (rG c89r15))))
def c89l16m : List Bool := zF<|zF<|zF<|zF<|zF<|zF<|zT<|z8<|z8<|zF<|zF<|zT<|zT<|zT<|z8<|[]
def c89r17 : LO := [oM 35 6,oM 2 35]
def f89 : FRow := ⟨(sR c89r0 (sR c89r1 (.seq (sR c89r2 (.block 0 (.loop c89l9m [] c89l9))) (.seq (.reg 1 c89r10) (.seq (sR c89r11 (.block 2 (.loop c89l16m [(6, none, 0)] c89l16))) (sR c89r17 .ret)))))), [.tmp 2], 36⟩
theorem qrk : f89.Ok Tryz.prog 89 := ⟨_, _, Tryz.func89, rfl, by kernel_rfl, by kernel_rfl, by kernel_rfl⟩
def c90r0 : LO := [oP 4 (.mov (nI 0))]
def c90r1 : LO := [oM 6 0,oN 7 6,oP 8 (.mov (nI 0))]
def c90r2 : LO := [oP 9 (.cmp .lss (.t 8) (.t 7))]
def c90r3 : LO := [oM 10 8,oM 5 10]
def c90r4 : LO := [oM 11 1,oM 12 0,oM 13 5,oI 14 12 13,oL 15 14,oP 16 (.cmp .eql (.t 11) (.t 15))]
def c90r5 : LO := [oM 17 5,oM 4 17]
def c90r6 : LO := [oP 18 (.arith .add (.t 8) (nI 1)),oM 8 18]
def c90l7 : ACode := (sR c90r2 (.seq (.cond (.t 9) .skip (.exit 0)) (.seq (.block 1 (sR c90r3 (sR c90r4 (.cond (.t 16) (sR c90r5 .ret) .skip)))) (rG c90r6))))
def c90l7m : List Bool := zT<|zT<|zF<|zF<|zF<|zF<|zF<|zT<|zT<|z8<|zF<|zF<|[]
def c90r8 : LO := [oP 4 (.mov (nI (-1)))]
def f90 : FRow := ⟨(sR c90r0 (.seq (sR c90r1 (.block 0 (.loop c90l7m [] c90l7))) (sR c90r8 .ret))), [.tmp 4], 19⟩
theorem qrl : f90.Ok Tryz.prog 90 := ⟨_, _, Tryz.func90, rfl, by kernel_rfl, by kernel_rfl, by kernel_rfl⟩
def c91r0 : LO := [oP 4 (.mov bF)]
def c91r1 : LO := [oM 5 0,oM 6 1,oP 7 (.call 90 [(.t 5), (.t 6)]),oP 8 (.cmp .geq (.t 7) (nI 0)),oM 4 8]
def f91 : FRow := ⟨(sR c91r0 (sR c91r1 .ret)), [.tmp 4], 9⟩
theorem qrm : f91.Ok Tryz.prog 91 := ⟨_, _, Tryz.func91, rfl, by kernel_rfl, by kernel_rfl, by kernel_rfl⟩
def c92r0 : LO := [oP 6 (.mov (.c (.full []))),oP 7 (.mov (nI 0))]
def c92r1 : LO := [oM 15 0,oM 16 1,oP 17 (.call 99 [(.t 15), (.t 16)]),oM 8 17]
def c92r2 : LO := [oP 9 (.mov (.c (.full [])))]
def c92r3 : LO := [oM 18 1,oN 19 18,oP 20 (.mov (nI 0))]
def c92r4 : LO := [oP 21 (.cmp .lss (.t 20) (.t 19))]
def c92r5 : LO := [oM 22 20,oM 10 22]
def c92r6 : LO := [oP 11 (.mov (.c (.full [])))]
def c92r7 : LO := [oM 23 8,oN 24 23,oP 25 (.mov (nI 0))]
def c92r8 : LO := [oP 26 (.cmp .lss (.t 25) (.t 24))]
def c92r9 : LO := [oM 27 25,oI 28 23 25,oL 29 28,oM 12 27,oM 13 29]
def c92r10 : LO := [oM 30 13,oP 31 (.callN 1 101 [(.t 30)]),oM 14 31]
def c92r11 : LO := [oM 32 14,oM 33 10,oM 34 2,oM 35 12,oI 36 34 35,oL 37 36,oI 38 32 33,⟨none, none, .store 1 (.t 38) (.t 37)⟩]
def c92r12 : LO := [oM 39 11,oP 40 (.frzv (.t 14)),oP 41 (.buildSl 1 1 (.slice []) [(0, (.t 40))]),oP 42 (.append 1 24 (.t 39) (.t 41)),oM 11 42]
def c92r13 : LO := [oP 43 (.arith .add (.t 25) (nI 1)),oM 25 43]
def c92l14 : ACode := (sR c92r8 (.seq (.cond (.t 26) .skip (.exit 2)) (.seq (.block 3 (sR c92r9 (.seq (.reg 1 c92r10) (sR c92r11 (.reg 1 c92r12))))) (rG c92r13))))
def c92l14m : List Bool := zF<|zF<|zT<|zF<|zF<|zF<|zF<|zF<|zT<|zT<|zT<|zT<|zF<|zF<|zF<|zF<|zF<|zF<|zF<|zT<|zT<|zF<|zF<|zT<|zT<|zT<|z8<|z8<|z8<|zF<|zF<|zF<|[]
def c92r15 : LO := [oM 44 9,oM 45 11,oP 46 (.call 98 [(.t 45)]),oP 47 (.buildSl 1 1 (.int .i64 0) [(0, (.t 46))]),oP 48 (.append 1 8 (.t 44) (.t 47)),oM 9 48]
def c92r16 : LO := [oP 49 (.arith .add (.t 20) (nI 1)),oM 20 49]
def c92l17 : ACode := (sR c92r4 (.seq (.cond (.t 21) .skip (.exit 0)) (.seq (.block 1 (sR c92r5 (sR c92r6 (.seq (sR c92r7 (.block 2 (.loop c92l14m [(11, none, 0)] c92l14))) (.reg 1 c92r15))))) (rG c92r16))))
def c92l17m : List Bool := zF<|zF<|zT<|zF<|zF<|zF<|zF<|zF<|zT<|zT<|z8<|zF<|zT<|zT<|z8<|z8<|z8<|z8<|[]
def c92r18 : LO := [oM 50 9,oM 51 8,oP 52 (.call 98 [(.t 51)]),oM 6 50,oM 7 52]
def f92 : FRow := ⟨(sR c92r0 (sR c92r1 (sR c92r2 (.seq (sR c92r3 (.block 0 (.loop c92l17m [(9, none, 0)] c92l17))) (sR c92r18 .ret))))), [.tmp 6, .tmp 7], 53⟩
theorem qrn : f92.Ok Tryz.prog 92 := ⟨_, _, Tryz.func92, rfl, by kernel_rfl, by kernel_rfl, by kernel_rfl⟩
def c93r0 : LO := [oP 1 (.boxS (.t 0)),oP 2 (.mov (nI 0))]
def c93r1 : LO := [oF 7 1 1,oL 8 7,oN 9 8,oM 3 9]
def c93r2 : LO := [oM 10 3,oP 11 (.cmp .lss (.t 10) (nI 1)),oM 12 11,oH 13 12 false 3,oG 14 12 false (.cmp .gtr (.t 13) (nI 4)),oP 15 (.pick (.t 12) bT (.t 14))]
def c93r3 : LO := [oP 2 (.mov (nI 6))]
def c93r4 : LO := [oP 4 (.mov (nI 0))]
def c93r5 : LO := [oM 16 4,oM 17 3,oP 18 (.cmp .lss (.t 16) (.t 17))]
def c93r6 : LO := [oF 21 1 1,oL 22 21,oM 23 4,oI 24 22 23,oL 25 24,oN 26 25,oM 27 3,oP 28 (.cmp .neq (.t 26) (.t 27))]
def c93r7 : LO := [oP 2 (.mov (nI 15))]
def c93r8 : LO := [oM 19 4,oP 20 (.arith .add (.t 19) (nI 1)),oM 4 20]
def c93l9 : ACode := (.seq (sR c93r5 (.cond (.t 18) .skip (.exit 0))) (.seq (.block 1 (sR c93r6 (.cond (.t 28) (sR c93r7 .ret) .skip))) (rG c93r8)))
def c93l9m : List Bool := zF<|zT<|zF<|zT<|zT<|z8<|z8<|z8<|z8<|z8<|z8<|z8<|z8<|z8<|z8<|zF<|zF<|zF<|[]
def c93r10 : LO := [oF 29 2 1,oL 30 29,oN 31 30,oM 32 3,oP 33 (.cmp .neq (.t 31) (.t 32))]
def c93r11 : LO := [oP 2 (.mov (nI 15))]
def c93r12 : LO := [oF 34 0 1,oL 35 34,oP 36 (.cmp .lss (.t 35) (nI 1)),oM 37 36,oG 38 37 false (.fieldAddr 0 (.t 1)),oG 39 37 false (.load 1 false (.t 38)),oG 40 37 false (.cmp .gtr (.t 39) (nI 20)),oP 41 (.pick (.t 37) bT (.t 40))]
def c93r13 : LO := [oP 2 (.mov (nI 3))]
def c93r14 : LO := [oP 5 (.mov (nI 0))]
def c93r15 : LO := [oM 42 5,oM 43 3,oP 44 (.cmp .lss (.t 42) (.t 43))]
def c93r16 : LO := [oP 6 (.mov (nI 0))]
def c93r17 : LO := [oM 47 6,oM 48 3,oP 49 (.cmp .lss (.t 47) (.t 48))]
def c93r18 : LO := [oF 52 1 1,oL 53 52,oM 54 5,oI 55 53 54,oL 56 55,oM 57 6,oI 58 56 57,oL 59 58,oP 60 (.cmp .lss (.t 59) (nI 0)),oM 61 60,oG 62 61 false (.fieldAddr 1 (.t 1)),oG 63 61 false (.load 1 false (.t 62)),oH 64 61 false 5,oG 65 61 false (.idxA 1 (.t 63) (.t 64)),oG 66 61 false (.load 1 false (.t 65)),oH 67 61 false 6,oG 68 61 false (.idxA 1 (.t 66) (.t 67)),oG 69 61 false (.load 1 false (.t 68)),oG 70 61 false (.fieldAddr 0 (.t 1)),oG 71 61 false (.load 1 false (.t 70)),oG 72 61 false (.cmp .gtr (.t 69) (.t 71)),oP 73 (.pick (.t 61) bT (.t 72))]
def c93r19 : LO := [oP 2 (.mov (nI 3))]
def c93r20 : LO := [oM 50 6,oP 51 (.arith .add (.t 50) (nI 1)),oM 6 51]
def c93l21 : ACode := (.seq (sR c93r17 (.cond (.t 49) .skip (.exit 4))) (.seq (.block 5 (sR c93r18 (.cond (.t 73) (sR c93r19 .ret) .skip))) (rG c93r20)))
def c93l21m : List Bool := zF<|zT<|zF<|zT<|zF<|zT<|zT<|z8<|z8<|z8<|z8<|z8<|z8<|z8<|z8<|z8<|z8<|zF<|[]
def c93r22 : LO := [oF 74 2 1,oL 75 74,oM 76 5,oI 77 75 76,oL 78 77,oP 79 (.cmp .lss (.t 78) (nI 0)),oM 80 79,oG 81 80 false (.fieldAddr 2 (.t 1)),oG 82 80 false (.load 1 false (.t 81)),oH 83 80 false 5,oG 84 80 false (.idxA 1 (.t 82) (.t 83)),oG 85 80 false (.load 1 false (.t 84)),oG 86 80 false (.cmp .gtr (.t 85) (nI 1000)),oP 87 (.pick (.t 80) bT (.t 86))]
def c93r23 : LO := [oP 2 (.mov (nI 3))]
def c93r24 : LO := [oM 45 5,oP 46 (.arith .add (.t 45) (nI 1)),oM 5 46]
def c93l25 : ACode := (.seq (sR c93r15 (.cond (.t 44) .skip (.exit 2))) (.seq (.block 3 (.seq (sR c93r16 (.block 4 (.loop c93l21m [] c93l21))) (sR c93r22 (.cond (.t 87) (sR c93r23 .ret) .skip)))) (rG c93r24)))
def c93l25m : List Bool := zF<|zT<|zF<|zT<|zF<|zT<|z8<|z8<|z8<|z8<|z8<|z8<|z8<|z8<|z8<|z8<|zF<|zF<|[]
def c93r26 : LO := [oP 2 (.mov (nI 0))]
def f93 : FRow := ⟨(sR c93r0 (sR c93r1 (.seq (sR c93r2 (.cond (.t 15) (sR c93r3 .ret) .skip)) (.seq (sR c93r4 (.block 0 (.loop c93l9m [] c93l9))) (.seq (sR c93r10 (.cond (.t 33) (sR c93r11 .ret) .skip)) (.seq (sR c93r12 (.cond (.t 41) (sR c93r13 .ret) .skip)) (.seq (sR c93r14 (.block 2 (.loop c93l25m [] c93l25))) (sR c93r26 .ret)))))))), [.tmp 2], 88⟩
theorem qro : f93.Ok Tryz.prog 93 := ⟨_, _, Tryz.func93, rfl, by kernel_rfl, by kernel_rfl, by kernel_rfl⟩
def c94r0 : LO := [oP 1 (.boxS (.t 0)),oP 2 (.mov (.c (.full [])))]
def c94r1 : LO := [oF 8 1 1,oL 9 8,oN 10 9,oM 3 10]
def c94r2 : LO := [oM 11 3,oP 12 (.mkslice 1 8 [(.int .i64 0)] (.t 11) (.t 11)),oM 4 12]
def c94r3 : LO := [oP 5 (.mov (nI 0))]
def c94r4 : LO := [oM 13 5,oM 14 3,oP 15 (.cmp .leq (.t 13) (.t 14))]
def c94r5 : LO := [oP 6 (.mov (nI 0))]
def c94r6 : LO := [oM 18 6,oM 19 3,oP 20 (.cmp .lss (.t 18) (.t 19))]
def c94r7 : LO := [oP 7 (.mov (nI 0))]
def c94r8 : LO := [oM 23 7,oM 24 3,oP 25 (.cmp .lss (.t 23) (.t 24))]
def c94r9 : LO := [oF 28 1 1,oL 29 28,oM 30 6,oI 31 29 30,oL 32 31,oM 33 7,oI 34 32 33,oL 35 34,oP 36 (.cmp .gtr (.t 35) (nI 0))]
def c94r10 : LO := [oM 37 4,oM 38 6,oI 39 37 38,oL 40 39,oM 41 7,oP 42 (.shift .shl (nI 1) (.t 41)),oM 43 4,oM 44 7,oI 45 43 44,oL 46 45,oP 47 (.bits .or (.t 42) (.t 46)),oP 48 (.bits .or (.t 40) (.t 47)),oI 49 37 38,⟨none, none, .store 1 (.t 49) (.t 48)⟩]
def c94r11 : LO := [oM 26 7,oP 27 (.arith .add (.t 26) (nI 1)),oM 7 27]
def c94l12 : ACode := (.seq (sR c94r8 (.cond (.t 25) .skip (.exit 4))) (.seq (.block 5 (sR c94r9 (.cond (.t 36) (rG c94r10) .skip))) (rG c94r11)))
def c94l12m : List Bool := zF<|zT<|zF<|zT<|zT<|zT<|zT<|zT<|z8<|z8<|z8<|z8<|z8<|zF<|zF<|zF<|[]
def c94r13 : LO := [oM 21 6,oP 22 (.arith .add (.t 21) (nI 1)),oM 6 22]
def c94l14 : ACode := (.seq (sR c94r6 (.cond (.t 20) .skip (.exit 2))) (.seq (.block 3 (sR c94r7 (.block 4 (.loop c94l12m [] c94l12)))) (rG c94r13)))
def c94l14m : List Bool := zF<|zT<|zF<|zT<|zT<|zT<|zT<|z8<|z8<|z8<|z8<|z8<|zF<|zF<|zF<|zF<|[]
def c94r15 : LO := [oM 16 5,oP 17 (.arith .add (.t 16) (nI 1)),oM 5 17]
def c94l16 : ACode := (.seq (sR c94r4 (.cond (.t 15) .skip (.exit 0))) (.seq (.block 1 (sR c94r5 (.block 2 (.loop c94l14m [] c94l14)))) (rG c94r15)))
def c94l16m : List Bool := zF<|zT<|zF<|zT<|zT<|zT<|z8<|z8<|z8<|z8<|z8<|zF<|zF<|zF<|zF<|zF<|[]
def c94r17 : LO := [oM 50 4,oM 2 50]
def f94 : FRow := ⟨(sR c94r0 (sR c94r1 (.seq (.reg 1 c94r2) (.seq (sR c94r3 (.block 0 (.loop c94l16m [] c94l16))) (sR c94r17 .ret))))), [.tmp 2], 51⟩
theorem qrp : f94.Ok Tryz.prog 94 := ⟨_, _, Tryz.func94, rfl, by kernel_rfl, by kernel_rfl, by kernel_rfl⟩
def c95r0 : LO := [oP 4 (.mov (.c (.full [])))]
def c95r1 : LO := [oP 5 (.mov (.c (.full [])))]
def c95r2 : LO := [oP 6 (.mov (nI 0))]
def c95r3 : LO := [oM 7 6,oM 8 1,oP 9 (.cmp .lss (.t 7) (.t 8))]
def c95r4 : LO := [oM 12 0,oM 13 6,oP 14 (.shift .shr (.t 12) (.t 13)),oP 15 (.bits .and (.t 14) (nI 1)),oP 16 (.cmp .eql (.t 15) (nI 1))]
def c95r5 : LO := [oM 17 5,oM 18 6,oP 19 (.buildSl 1 1 (.int .i64 0) [(0, (.t 18))]),oP 20 (.append 1 8 (.t 17) (.t 19)),oM 5 20]
def c95r6 : LO := [oM 10 6,oP 11 (.arith .add (.t 10) (nI 1)),oM 6 11]
def c95l7 : ACode := (.seq (sR c95r3 (.cond (.t 9) .skip (.exit 0))) (.seq (.block 1 (sR c95r4 (.cond (.t 16) (.reg 1 c95r5) .skip))) (rG c95r6)))
def c95l7m : List Bool := zT<|zT<|zF<|zF<|zF<|zT<|zT<|z8<|zF<|zF<|zF<|zF<|zF<|zF<|zF<|[]
def c95r8 : LO := [oM 21 5,oM 4 21]
def f95 : FRow := ⟨(sR c95r0 (sR c95r1 (.seq (sR c95r2 (.block 0 (.loop c95l7m [(5, none, 0)] c95l7))) (sR c95r8 .ret)))), [.tmp 4], 22⟩
theorem qrq : f95.Ok Tryz.prog 95 := ⟨_, _, Tryz.func95, rfl, by kernel_rfl, by kernel_rfl, by kernel_rfl⟩
def c97r0 : LO := [oP 4 (.mov (nI 0))]
def c97r1 : LO := [oM 5 1,oP 6 (.cmp .eql (.t 5) (nI 0))]
def c97r2 : LO := [oM 7 0,oM 4 7]
def c97r3 : LO := [oM 8 1,oM 9 0,oM 10 1,oP 11 (.div .rem (.t 9) (.t 10)),oP 12 (.call 97 [(.t 8), (.t 11)]),oM 4 12]
def f97 : FRow := ⟨(sR c97r0 (.seq (sR c97r1 (.cond (.t 6) (sR c97r2 .ret) .skip)) (sR c97r3 .ret))), [.tmp 4], 13⟩
theorem qrr : f97.Ok Tryz.prog 97 := ⟨_, _, Tryz.func97, rfl, by kernel_rfl, by kernel_rfl, by kernel_rfl⟩
def c98r0 : LO := [oP 2 (.mov (nI 0))]
def c98r1 : LO := [oM 10 0,oN 11 10,oP 12 (.cmp .eql (.t 11) (nI 0))]
def c98r2 : LO := [oP 2 (.mov (nI 1))]
def c98r3 : LO := [oP 3 (.mov (nI 0)),oP 4 (.mov (nI 1))]
def c98r4 : LO := [oM 13 0,oP 14 (.idxA 1 (.t 13) (nI 0)),oL 15 14,oN 16 15,oP 17 (.mov (nI 0))]
def c98r5 : LO := [oP 18 (.cmp .lss (.t 17) (.t 16))]
def c98r6 : LO := [oM 19 17,oI 20 15 17,oL 21 20,oM 5 19,oM 6 21]
def c98r7 : LO := [oP 7 (.mov (.c (.full [])))]
def c98r8 : LO := [oM 22 0,oP 23 (.slice 1 (.t 22) (some (nI 1)) none none),oN 24 23,oP 25 (.mov (nI 0))]
def c98r9 : LO := [oP 26 (.cmp .lss (.t 25) (.t 24))]
def c98r10 : LO := [oI 27 23 25,oL 28 27,oM 9 28]
def c98r11 : LO := [oM 29 7,oM 30 9,oP 31 (.callN 1 101 [(.t 30)]),oM 32 5,oM 33 5,oP 34 (.arith .add (.t 33) (nI 1)),oP 35 (.callF 111 (.t 31) [(.t 32), (.t 34)]),oP 36 (.buildSl 1 1 (.slice []) [(0, (.t 35))]),oP 37 (.append 1 24 (.t 29) (.t 36)),oM 7 37]
def c98r12 : LO := [oP 38 (.arith .add (.t 25) (nI 1)),oM 25 38]
def c98l13 : ACode := (sR c98r9 (.seq (.cond (.t 26) .skip (.exit 2)) (.seq (.block 3 (sR c98r10 (.reg 2 c98r11))) (rG c98r12))))
def c98l13m : List Bool := zT<|zF<|zF<|zT<|zT<|zT<|zT<|zT<|zF<|zF<|zF<|zF<|zF<|zF<|zF<|zT<|zT<|zT<|zF<|zF<|zF<|zF<|zF<|zT<|zT<|zT<|z8<|z8<|z8<|zF<|[]
def c98r14 : LO := [oM 39 3,oM 40 4,oM 41 6,oP 42 (.arith .mul (.t 40) (.t 41)),oM 43 7,oP 44 (.call 98 [(.t 43)]),oP 45 (.arith .mul (.t 42) (.t 44)),oP 46 (.arith .add (.t 39) (.t 45)),oM 3 46]
def c98r15 : LO := [oM 47 4,oP 48 (.neg (.t 47)),oM 4 48]
def c98r16 : LO := [oP 49 (.arith .add (.t 17) (nI 1)),oM 17 49]
def c98l17 : ACode := (sR c98r5 (.seq (.cond (.t 18) .skip (.exit 0)) (.seq (.block 1 (sR c98r6 (sR c98r7 (.seq (sR c98r8 (.block 2 (.loop c98l13m [(7, none, 0)] c98l13))) (sR c98r14 (rG c98r15)))))) (rG c98r16))))
def c98l17m : List Bool := zT<|zF<|zF<|zT<|zT<|z8<|zF<|zF<|zT<|zT<|zT<|z8<|z8<|z8<|z8<|zF<|[]
def c98r18 : LO := [oM 50 3,oM 2 50]
def f98 : FRow := ⟨(sR c98r0 (.seq (sR c98r1 (.cond (.t 12) (sR c98r2 .ret) .skip)) (sR c98r3 (.seq (sR c98r4 (.block 0 (.loop c98l17m [] c98l17))) (sR c98r18 .ret))))), [.tmp 2], 51⟩
theorem qmh : f98.Ok Tryz.prog 98 := ⟨_, _, Tryz.func98, rfl, by kernel_rfl, by kernel_rfl, by kernel_rfl⟩
def c99r0 : LO := [oP 4 (.mov (.c (.full [])))]
def c99r1 : LO := [oP 5 (.mov (.c (.full [])))]
def c99r2 : LO := [oM 11 1,oN 12 11,oP 13 (.mov (nI 0))]
def c99r3 : LO := [oP 14 (.cmp .lss (.t 13) (.t 12))]
def c99r4 : LO := [oI 15 11 13,oL 16 15,oM 7 16]
def c99r5 : LO := [oM 17 1,oN 18 17,oP 19 (.mkslice 1 8 [(.int .i64 0)] (.t 18) (.t 18)),oM 8 19]
def c99r6 : LO := [oM 20 8,⟨none, none, .clear 1 [(.int .i64 0)] (.t 20)⟩]
def c99r7 : LO := [oM 21 1,oN 22 21,oP 23 (.mov (nI 0))]
def c99r8 : LO := [oP 24 (.cmp .lss (.t 23) (.t 22))]
def c99r9 : LO := [oM 25 23,oI 26 21 23,oL 27 26,oM 9 25,oM 10 27]
def c99r10 : LO := [oM 28 8,oM 29 9,oI 30 28 29,oL 31 30,oM 32 0,oP 33 (.nilck (.t 32)),oF 34 3 33,oL 35 34,oM 36 7,oM 37 10,oP 38 (.build [(.s (.int .i64 0)), (.s (.int .i64 0))] [(0, 1, (.t 36)), (1, 1, (.t 37))]),oP 39 (.mgetS false [(.int .i64), (.int .i64)] (.int .i64 0) (.t 35) (.t 38)),oP 40 (.arith .sub (.t 31) (.t 39)),oI 41 28 29,⟨none, none, .store 1 (.t 41) (.t 40)⟩]
def c99r11 : LO := [oM 42 7,oM 43 10,oP 44 (.cmp .eql (.t 42) (.t 43))]
def c99r12 : LO := [oM 45 8,oM 46 9,oI 47 45 46,oL 48 47,oM 49 0,oP 50 (.nilck (.t 49)),oF 51 0 50,oF 52 0 51,oL 53 52,oP 54 (.arith .add (.t 48) (.t 53)),oI 55 45 46,⟨none, none, .store 1 (.t 55) (.t 54)⟩]
def c99r13 : LO := [oP 56 (.arith .add (.t 23) (nI 1)),oM 23 56]
def c99l14 : ACode := (sR c99r8 (.seq (.cond (.t 24) .skip (.exit 2)) (.seq (.block 3 (sR c99r9 (sR c99r10 (sR c99r11 (.cond (.t 44) (rG c99r12) .skip))))) (rG c99r13))))
def c99l14m : List Bool := zT<|zT<|zF<|zF<|zF<|zT<|zF<|zT<|zT<|zF<|zF<|zT<|zT<|zT<|zF<|zF<|zF<|zF<|zF<|zF<|zF<|zT<|zT<|zT<|z8<|z8<|z8<|z8<|zF<|zF<|zF<|zF<|zF<|zF<|zF<|[]
def c99r15 : LO := [oM 57 5,oP 58 (.frzv (.t 8)),oP 59 (.buildSl 1 1 (.slice []) [(0, (.t 58))]),oP 60 (.append 1 24 (.t 57) (.t 59)),oM 5 60]
def c99r16 : LO := [oP 61 (.arith .add (.t 13) (nI 1)),oM 13 61]
def c99l17 : ACode := (sR c99r3 (.seq (.cond (.t 14) .skip (.exit 0)) (.seq (.block 1 (sR c99r4 (.seq (.reg 1 c99r5) (sR c99r6 (.seq (sR c99r7 (.block 2 (.loop c99l14m [] c99l14))) (.reg 1 c99r15)))))) (rG c99r16))))
def c99l17m : List Bool := zT<|zT<|zF<|zF<|zF<|zT<|zF<|zF<|zF<|zF<|zF<|zT<|zT<|zT<|z8<|z8<|z8<|z8<|z8<|z8<|zF<|[]
def c99r18 : LO := [oM 62 5,oM 4 62]
def f99 : FRow := ⟨(sR c99r0 (sR c99r1 (.seq (sR c99r2 (.block 0 (.loop c99l17m [(5, none, 0)] c99l17))) (sR c99r18 .ret)))), [.tmp 4], 63⟩
theorem qrs : f99.Ok Tryz.prog 99 := ⟨_, _, Tryz.func99, rfl, by kernel_rfl, by kernel_rfl, by kernel_rfl⟩
def c100r0 : LO := [oL 10 1,oP 11 (.mkslice 1 8 [(.int .i64 0)] (.t 10) (.t 10)),oM 4 11]
def c100r1 : LO := [oF 12 0 2,oL 13 12,oF 14 2 2,oL 15 14,oP 16 (.build [(.s (.int .i64 0)), (.full []), (.full [])] [(0, 1, (.t 13)), (2, 1, (.t 15))]),oP 5 (.alloc [(.s (.int .i64 0)), (.full []), (.full [])]),⟨none, none, .store 3 (.t 5) (.t 16)⟩]
def c100r2 : LO := [oF 17 1 2,oL 18 17,oN 19 18,oP 20 (.mov (nI 0))]
def c100r3 : LO := [oP 21 (.cmp .lss (.t 20) (.t 19))]
def c100r4 : LO := [oM 22 20,oI 23 18 20,oL 24 23,oM 6 22,oM 7 24]
def c100r5 : LO := [oM 25 7,oP 26 (.callN 1 101 [(.t 25)]),oM 8 26]
def c100r6 : LO := [oM 27 8,oM 28 4,oM 29 6,oI 30 28 29,oL 31 30,oI 32 27 31,oL 33 32,oF 34 0 2,oL 35 34,oM 36 7,oP 37 (.call 60 [(.t 36)]),oP 38 (.arith .sub (.t 35) (.t 37)),oP 39 (.arith .add (.t 33) (.t 38)),oI 40 27 31,⟨none, none, .store 1 (.t 40) (.t 39)⟩]
def c100r7 : LO := [oF 41 1 5,oL 42 41,oP 43 (.frzv (.t 8)),oP 44 (.buildSl 1 1 (.slice []) [(0, (.t 43))]),oP 45 (.append 1 24 (.t 42) (.t 44)),oF 46 1 5,⟨none, none, .store 1 (.t 46) (.t 45)⟩]
def c100r8 : LO := [oP 47 (.arith .add (.t 20) (nI 1)),oM 20 47]
def c100l9 : ACode := (sR c100r3 (.seq (.cond (.t 21) .skip (.exit 2)) (.seq (.block 3 (sR c100r4 (.seq (.reg 1 c100r5) (sR c100r6 (.reg 1 c100r7))))) (rG c100r8))))
def c100l9m : List Bool := zT<|zT<|zT<|zF<|zT<|zT<|z8<|zF<|zF<|zF<|zF<|zT<|zT<|zT<|z8<|z8<|z8<|z8<|z8<|z8<|z8<|zF<|[]
def c100r11 : LO := [oP 9 (.mov (nI 0))]
def c100r12 : LO := [oM 52 9,oL 53 1,oP 54 (.cmp .lss (.t 52) (.t 53)),oM 55 54,oH 56 55 true 4,oH 57 55 true 9,oG 58 55 true (.idxA 1 (.t 56) (.t 57)),oG 59 55 true (.load 1 false (.t 58)),oG 60 55 true (.load 1 false (.t 1)),oG 61 55 true (.arith .sub (.t 60) (nI 1)),oG 62 55 true (.cmp .eql (.t 59) (.t 61)),oP 63 (.pick (.t 55) (.t 62) bF)]
def c100r13 : LO := [oM 66 4,oM 67 9,oI 68 66 67,⟨none, none, .store 1 (.t 68) (nI 0)⟩]
def c100r14 : LO := [oM 64 9,oP 65 (.arith .add (.t 64) (nI 1)),oM 9 65]
def c100l15 : ACode := (.seq (sR c100r12 (.cond (.t 63) .skip (.exit 4))) (.seq (.block 5 (rG c100r13)) (rG c100r14)))
def c100l15m : List Bool := zT<|zT<|zT<|zF<|zT<|zF<|zF<|zF<|zF<|zT<|z8<|z8<|z8<|z8<|z8<|z8<|z8<|z8<|zF<|zF<|zF<|zF<|[]
def c100r16 : LO := [oM 69 9,oL 70 1,oP 71 (.cmp .eql (.t 69) (.t 70))]
def c100r17 : LO := [oM 72 4,oM 73 9,oI 74 72 73,oL 75 74,oP 76 (.arith .add (.t 75) (nI 1)),oI 77 72 73,⟨none, none, .store 1 (.t 77) (.t 76)⟩]
def c100l18m : List Bool := zT<|zT<|zT<|zF<|zT<|z8<|z8<|z8<|z8<|z8<|z8<|z8<|z8<|z8<|zF<|[]
def c101r0 : LO := [oP 2 (.mov (.c (.full [])))]
def c101r1 : LO := [oM 3 0,oP 4 (.eqNil false (.t 3))]
def c101r2 : LO := [oP 2 (.mov (.c (.full [])))]
def c101r3 : LO := [oP 5 (.buildSl 1 0 (.int .i64 0) []),oM 6 0,oP 7 (.appendN 1 8 (.t 5) (.t 6)),oM 2 7]
def f101 : FRow := ⟨(sR c101r0 (.seq (sR c101r1 (.cond (.t 4) (sR c101r2 .ret) .skip)) (.seq (.reg 1 c101r3) .ret))), [.tmp 2], 8⟩
theorem qou : f101.Ok Tryz.prog 101 := ⟨_, _, Tryz.func101, rfl, by kernel_rfl, by kernel_rfl, by kernel_rfl⟩
def c102r0 : LO := [oP 4 (.mov (.c (.full [])))]
def c102r1 : LO := [oP 9 (.buildSl 1 0 (.int .i64 0) []),oM 5 9]
def c102r2 : LO := [oM 10 1,oP 11 (.buildR 1 1 (.int .i64 0) [(0, (.t 10))]),oM 6 11]
def c102r3 : LO := [oM 12 6,oN 13 12,oP 14 (.cmp .gtr (.t 13) (nI 0))]
def c102r4 : LO := [oM 15 6,oP 16 (.idxA 1 (.t 15) (nI 0)),oL 17 16,oM 7 17]
def c102r5 : LO := [oM 18 6,oP 19 (.slice 1 (.t 18) (some (nI 1)) none none),oM 6 19]
def c102r6 : LO := [oM 20 0,oP 21 (.nilck (.t 20)),oF 22 0 21,oF 23 1 22,oL 24 23,oN 25 24,oP 26 (.mov (nI 0))]
def c102r7 : LO := [oP 27 (.cmp .lss (.t 26) (.t 25))]
def c102r8 : LO := [oM 28 26,oM 8 28]
def c102r9 : LO := [oM 29 0,oP 30 (.nilck (.t 29)),oF 31 3 30,oL 32 31,oM 33 7,oM 34 8,oP 35 (.build [(.s (.int .i64 0)), (.s (.int .i64 0))] [(0, 1, (.t 33)), (1, 1, (.t 34))]),oP 36 (.mget false [(.int .i64), (.int .i64)] (.int .i64 0) (.t 32) (.t 35)),oP 37 (.cmp .gtr (.t 36) (nI 0)),oM 38 37,oH 39 38 true 5,oH 40 38 true 8,oG 41 38 true (.call 91 [(.t 39), (.t 40)]),oG 42 38 true (.not (.t 41)),oP 43 (.pick (.t 38) (.t 42) bF)]
def c102r10 : LO := [oM 44 5,oM 45 8,oP 46 (.buildSl 1 1 (.int .i64 0) [(0, (.t 45))]),oP 47 (.append 1 8 (.t 44) (.t 46)),oM 5 47]
def c102r11 : LO := [oM 48 6,oM 49 8,oP 50 (.buildSl 1 1 (.int .i64 0) [(0, (.t 49))]),oP 51 (.append 1 8 (.t 48) (.t 50)),oM 6 51]
def c102r12 : LO := [oP 52 (.arith .add (.t 26) (nI 1)),oM 26 52]
def c102l13 : ACode := (sR c102r7 (.seq (.cond (.t 27) .skip (.exit 2)) (.seq (.block 3 (sR c102r8 (sR c102r9 (.cond (.t 43) (.seq (.reg 1 c102r10) (.reg 1 c102r11)) .skip)))) (rG c102r12))))
def c102l13m : List Bool := zT<|zF<|zF<|zF<|zF<|zT<|zT<|zT<|z8<|z8<|zF<|zT<|zT<|z8<|z8<|z8<|zF<|zF<|zF<|zF<|zF<|[]
def c102l14 : ACode := (.seq (sR c102r3 (.cond (.t 14) .skip (.exit 0))) (.block 1 (sR c102r4 (sR c102r5 (sR c102r6 (.block 2 (.loop c102l13m [(5, none, 0), (6, none, 0)] c102l13)))))))
def c102l14m : List Bool := zT<|zF<|zF<|zF<|zF<|zT<|zT<|z8<|z8<|z8<|z8<|z8<|z8<|zF<|[]
def c102r15 : LO := [oM 53 5,oP 54 (.callI 112 [(.t 53)])]
def c102r16 : LO := [oM 55 5,oM 4 55]
def f102 : FRow := ⟨(sR c102r0 (sR c102r1 (.seq (.reg 1 c102r2) (.seq (.block 0 (.loop c102l14m [(5, none, 0), (6, none, 0)] c102l14)) (sR c102r15 (sR c102r16 .ret)))))), [.tmp 4], 56⟩
theorem qov : f102.Ok Tryz.prog 102 := ⟨_, _, Tryz.func102, rfl, by kernel_rfl, by kernel_rfl, by kernel_rfl⟩
def c103r0 : LO := [oP 4 (.mov bF)]
def c103r1 : LO := [oM 6 0,oN 7 6,oM 8 1,oN 9 8,oP 10 (.cmp .neq (.t 7) (.t 9))]
def c103r2 : LO := [oP 4 (.mov bF)]
def c103r3 : LO := [oM 11 0,oN 12 11,oP 13 (.mov (nI 0))]
def c103r4 : LO := [oP 14 (.cmp .lss (.t 13) (.t 12))]
def c103r5 : LO := [oM 15 13,oM 5 15]
def c103r6 : LO := [oM 16 0,oM 17 5,oI 18 16 17,oL 19 18,oM 20 1,oM 21 5,oI 22 20 21,oL 23 22,oP 24 (.cmp .neq (.t 19) (.t 23))]
def c103r7 : LO := [oP 4 (.mov bF)]
def c103r8 : LO := [oP 25 (.arith .add (.t 13) (nI 1)),oM 13 25]
def c103l9 : ACode := (sR c103r4 (.seq (.cond (.t 14) .skip (.exit 0)) (.seq (.block 1 (sR c103r5 (sR c103r6 (.cond (.t 24) (sR c103r7 .ret) .skip)))) (rG c103r8))))
def c103l9m : List Bool := zT<|zT<|z8<|zF<|zF<|zT<|zT<|z8<|zF<|zF<|zF<|zF<|[]
def c103r10 : LO := [oP 4 (.mov bT)]
def f103 : FRow := ⟨(sR c103r0 (.seq (sR c103r1 (.cond (.t 10) (sR c103r2 .ret) .skip)) (.seq (sR c103r3 (.block 0 (.loop c103l9m [] c103l9))) (sR c103r10 .ret)))), [.tmp 4], 26⟩
theorem qow : f103.Ok Tryz.prog 103 := ⟨_, _, Tryz.func103, rfl, by kernel_rfl, by kernel_rfl, by kernel_rfl⟩
def c104r0 : LO := [oP 4 (.mov (nI 0))]
def c104r1 : LO := [oL 8 1,oP 9 (.nilck (.t 8)),oF 10 0 9,oF 11 0 10,oL 12 11,oL 13 1,oP 14 (.nilck (.t 13)),oF 15 0 14,oF 16 2 15,oL 17 16,oM 18 0,oI 19 17 18,oL 20 19,oF 21 0 2,oL 22 21,oP 23 (.arith .mul (.t 20) (.t 22)),oF 24 1 2,oL 25 24,oP 26 (.arith .sub (.t 23) (.t 25)),oF 27 2 2,oL 28 27,oM 29 0,oI 30 28 29,oL 31 30,oP 32 (.arith .sub (.t 26) (.t 31)),oP 33 (.arith .mul (.t 12) (.t 32)),oM 5 33]
def c104r2 : LO := [oF 34 2 2,oL 35 34,oN 36 35,oP 37 (.mov (nI 0))]
def c104r3 : LO := [oP 38 (.cmp .lss (.t 37) (.t 36))]
def c104r4 : LO := [oM 39 37,oI 40 35 37,oL 41 40,oM 6 39,oM 7 41]
def c104r5 : LO := [oM 42 5,oL 43 1,oP 44 (.nilck (.t 43)),oF 45 3 44,oL 46 45,oM 47 0,oM 48 6,oP 49 (.build [(.s (.int .i64 0)), (.s (.int .i64 0))] [(0, 1, (.t 47)), (1, 1, (.t 48))]),oP 50 (.mget false [(.int .i64), (.int .i64)] (.int .i64 0) (.t 46) (.t 49)),oM 51 7,oP 52 (.arith .mul (.t 50) (.t 51)),oP 53 (.arith .add (.t 42) (.t 52)),oM 5 53]
def c104r6 : LO := [oP 54 (.arith .add (.t 37) (nI 1)),oM 37 54]
def c104l7 : ACode := (sR c104r3 (.seq (.cond (.t 38) .skip (.exit 0)) (.seq (.block 1 (sR c104r4 (rG c104r5))) (rG c104r6))))
def c104l7m : List Bool := zT<|zT<|zF<|zF<|zF<|zT<|z8<|z8<|z8<|zF<|zF<|zF<|zF<|zF<|zT<|zT<|zT<|z8<|z8<|zF<|zF<|[]
def c104r8 : LO := [oM 55 5,oM 4 55]
def f104 : FRow := ⟨(sR c104r0 (sR c104r1 (.seq (sR c104r2 (.block 0 (.loop c104l7m [] c104l7))) (sR c104r8 .ret)))), [.tmp 4], 56⟩
theorem qox : f104.Ok Tryz.prog 104 := ⟨_, _, Tryz.func104, rfl, by kernel_rfl, by kernel_rfl, by kernel_rfl⟩
def c105r0 : LO := [oP 3 (.mov bF)]
def c105r1 : LO := [oM 4 0,oN 5 4,oL 6 1,oP 7 (.cmp .neq (.t 5) (.t 6)),oM 3 7]
def f105 : FRow := ⟨(sR c105r0 (sR c105r1 .ret)), [.tmp 3], 8⟩
theorem qoy : f105.Ok Tryz.prog 105 := ⟨_, _, Tryz.func105, rfl, by kernel_rfl, by kernel_rfl, by kernel_rfl⟩
def c106r0 : LO := [oP 3 (.mov bF)]
def c106r1 : LO := [oF 4 0 1,oL 5 4,oM 6 0,oP 7 (.call 50 [(nI 0), (.t 5), (.t 6)]),oP 8 (.not (.t 7)),oM 3 8]
def f106 : FRow := ⟨(sR c106r0 (sR c106r1 .ret)), [.tmp 3], 9⟩
theorem qoz : f106.Ok Tryz.prog 106 := ⟨_, _, Tryz.func106, rfl, by kernel_rfl, by kernel_rfl, by kernel_rfl⟩
def c107r0 : LO := [oP 4 (.mov (nI 0))]
def c107r1 : LO := [oM 6 0,oN 7 6,oP 8 (.mov (nI 0))]
def c107r2 : LO := [oP 9 (.cmp .lss (.t 8) (.t 7))]
def c107r3 : LO := [oM 10 8,oM 5 10]
def c107r4 : LO := [oM 11 1,oM 12 0,oM 13 5,oI 14 12 13,oL 15 14,oP 16 (.callv (.t 11) [(.t 15)])]
def c107r5 : LO := [oM 17 5,oM 4 17]
def c107r6 : LO := [oP 18 (.arith .add (.t 8) (nI 1)),oM 8 18]
def c107l7 : ACode := (sR c107r2 (.seq (.cond (.t 9) .skip (.exit 0)) (.seq (.block 1 (sR c107r3 (sR c107r4 (.cond (.t 16) (sR c107r5 .ret) .skip)))) (rG c107r6))))
def c107l7m : List Bool := zT<|zT<|zF<|zF<|zF<|zF<|zF<|zT<|zT<|z8<|zF<|zF<|[]
def c107r8 : LO := [oP 4 (.mov (nI (-1)))]
def f107 : FRow := ⟨(sR c107r0 (.seq (sR c107r1 (.block 0 (.loop c107l7m [] c107l7))) (sR c107r8 .ret))), [.tmp 4], 19⟩
theorem qoA : f107.Ok Tryz.prog 107 := ⟨_, _, Tryz.func107, rfl, by kernel_rfl, by kernel_rfl, by kernel_rfl⟩
def c108r0 : LO := [oP 4 (.mov (nI 0))]
def c108r1 : LO := [oM 6 0,oN 7 6,oP 8 (.mov (nI 0))]
def c108r2 : LO := [oP 9 (.cmp .lss (.t 8) (.t 7))]
def c108r3 : LO := [oM 10 8,oM 5 10]
def c108r4 : LO := [oM 11 1,oM 12 0,oM 13 5,oI 14 12 13,oL 15 14,oP 16 (.callv (.t 11) [(.t 15)])]
def c108r5 : LO := [oM 17 5,oM 4 17]
def c108r6 : LO := [oP 18 (.arith .add (.t 8) (nI 1)),oM 8 18]
def c108l7 : ACode := (sR c108r2 (.seq (.cond (.t 9) .skip (.exit 0)) (.seq (.block 1 (sR c108r3 (sR c108r4 (.cond (.t 16) (sR c108r5 .ret) .skip)))) (rG c108r6))))
def c108l7m : List Bool := zT<|zT<|zF<|zF<|zF<|zF<|zF<|zT<|zT<|z8<|zF<|zF<|[]
def c108r8 : LO := [oP 4 (.mov (nI (-1)))]
def f108 : FRow := ⟨(sR c108r0 (.seq (sR c108r1 (.block 0 (.loop c108l7m [] c108l7))) (sR c108r8 .ret))), [.tmp 4], 19⟩
theorem qoB : f108.Ok Tryz.prog 108 := ⟨_, _, Tryz.func108, rfl, by kernel_rfl, by kernel_rfl, by kernel_rfl⟩
def c109r0 : LO := [oP 4 (.mov (.c (.full [])))]
def c109r1 : LO := [oM 5 1,oP 6 (.cmp .lss (.t 5) (nI 0))]
def c109r2 : LO := [oP 7 (.dead),⟨none, none, .dead⟩]
def c109r3 : LO := [oM 8 1,oM 9 0,oP 10 (.cap (.t 9)),oM 11 0,oN 12 11,oP 13 (.arith .sub (.t 10) (.t 12)),oP 14 (.arith .sub (.t 8) (.t 13)),oM 1 14]
def c109r4 : LO := [oM 15 1,oP 16 (.cmp .gtr (.t 15) (nI 0))]
def c109r5 : LO := [oM 17 0,oM 18 0,oP 19 (.cap (.t 18)),oP 20 (.slice 1 (.t 17) none (some (.t 19)) none),oM 21 1,oP 22 (.appendM 1 8 (.t 20) (.t 21)),oM 23 0,oN 24 23,oP 25 (.slice 1 (.t 22) none (some (.t 24)) none),oM 0 25]
def c109r6 : LO := [oM 26 0,oM 4 26]
def f109 : FRow := ⟨(sR c109r0 (.seq (sR c109r1 (.cond (.t 6) (rG c109r2) .skip)) (.seq (sR c109r3 (sR c109r4 (.cond (.t 16) (.reg 1 c109r5) .skip))) (sR c109r6 .ret)))), [.tmp 4], 27⟩
theorem qoC : f109.Ok Tryz.prog 109 := ⟨_, _, Tryz.func109, rfl, by kernel_rfl, by kernel_rfl, by kernel_rfl⟩
def c111r0 : LO := [oP 6 (.mov (.c (.full [])))]
def c111r1 : LO := [oM 8 0,oM 9 1,oM 10 2,oM 11 0,oN 12 11,oP 13 (.slice 1 (.t 8) (some (.t 9)) (some (.t 10)) (some (.t 12)))]
def c111r2 : LO := [oM 14 1,oM 15 2,oP 16 (.cmp .eql (.t 14) (.t 15))]
def c111r3 : LO := [oM 17 0,oM 6 17]
def c111r4 : LO := [oM 18 0,oN 19 18,oM 7 19]
def c111r5 : LO := [oM 20 0,oM 21 1,oP 22 (.slice 1 (.t 20) none (some (.t 21)) none),oM 23 0,oM 24 2,oP 25 (.slice 1 (.t 23) (some (.t 24)) none none),oP 26 (.append 1 8 (.t 22) (.t 25)),oM 0 26]
def c111r6 : LO := [oM 27 0,oM 28 0,oN 29 28,oM 30 7,oP 31 (.slice 1 (.t 27) (some (.t 29)) (some (.t 30)) none),⟨none, none, .clear 1 [(.int .i64 0)] (.t 31)⟩]
def c111r7 : LO := [oM 32 0,oM 6 32]
def f111 : FRow := ⟨(sR c111r0 (sR c111r1 (.seq (sR c111r2 (.cond (.t 16) (sR c111r3 .ret) .skip)) (sR c111r4 (.seq (.reg 1 c111r5) (sR c111r6 (sR c111r7 .ret))))))), [.tmp 6], 33⟩
def c112r0 : LO := [oM 3 0,oN 4 3,oM 2 4]
def c112r1 : LO := [oM 5 0,oM 6 2,oM 7 2,oP 8 (.conv .u64 (.t 7)),oP 9 (.call 114 [(.t 8)]),oP 10 (.callI 113 [(.t 5), (nI 0), (.t 6), (.t 9)])]
def f112 : FRow := ⟨(sR c112r0 (rG c112r1)), [], 11⟩
def c113r0 : LO := [oP 8 (.mov bT)]
def c113r1 : LO := [oP 9 (.mov bT)]
def c113r2 : LO := [oM 19 2,oM 20 1,oP 21 (.arith .sub (.t 19) (.t 20)),oM 10 21]
def c113r3 : LO := [oM 22 10,oP 23 (.cmp .leq (.t 22) (nI 12))]
def c113r4 : LO := [oM 24 0,oM 25 1,oM 26 2,oP 27 (.callI 115 [(.t 24), (.t 25), (.t 26)])]
def c113r5 : LO := [oM 28 3,oP 29 (.cmp .eql (.t 28) (nI 0))]
def c113r6 : LO := [oM 30 0,oM 31 1,oM 32 2,oP 33 (.callI 116 [(.t 30), (.t 31), (.t 32)])]
def c113r7 : LO := [oM 34 8,oP 35 (.not (.t 34))]
def c113r8 : LO := [oM 36 0,oM 37 1,oM 38 2,oP 39 (.callI 117 [(.t 36), (.t 37), (.t 38)])]
def c113r9 : LO := [oM 40 3,oP 41 (.arith .sub (.t 40) (nI 1)),oM 3 41]
def c113r10 : LO := [oM 43 0,oM 44 1,oM 45 2,oP 46 (.callI 118 [(.t 43), (.t 44), (.t 45)]),oM 42 46,oP 47 (.ext (.t 42) 0),oP 48 (.ext (.t 42) 1),oM 11 47,oM 12 48]
def c113r11 : LO := [oM 49 12,oP 50 (.cmp .eql (.t 49) (nI 2))]
def c113r12 : LO := [oM 51 0,oM 52 1,oM 53 2,oP 54 (.callI 119 [(.t 51), (.t 52), (.t 53)])]
def c113r13 : LO := [oM 55 2,oP 56 (.arith .sub (.t 55) (nI 1)),oM 57 11,oM 58 1,oP 59 (.arith .sub (.t 57) (.t 58)),oP 60 (.arith .sub (.t 56) (.t 59)),oM 11 60]
def c113r14 : LO := [oP 12 (.mov (nI 1))]
def c113r15 : LO := [oM 61 8,oM 62 61,oH 63 62 true 9,oP 64 (.pick (.t 62) (.t 63) bF),oM 65 64,oH 66 65 true 12,oG 67 65 true (.cmp .eql (.t 66) (nI 1)),oP 68 (.pick (.t 65) (.t 67) bF)]
def c113r16 : LO := [oM 69 0,oM 70 1,oM 71 2,oP 72 (.callI 120 [(.t 69), (.t 70), (.t 71)])]
def c113r17 : LO := [oM 73 1,oP 74 (.cmp .gtr (.t 73) (nI 0)),oM 75 74,oH 76 75 true 0,oH 77 75 true 1,oG 78 75 true (.arith .sub (.t 77) (nI 1)),oG 79 75 true (.idxA 1 (.t 76) (.t 78)),oG 80 75 true (.load 1 false (.t 79)),oH 81 75 true 0,oH 82 75 true 11,oG 83 75 true (.idxA 1 (.t 81) (.t 82)),oG 84 75 true (.load 1 false (.t 83)),oG 85 75 true (.call 121 [(.t 80), (.t 84)]),oG 86 75 true (.not (.t 85)),oP 87 (.pick (.t 75) (.t 86) bF)]
def c113r18 : LO := [oM 88 0,oM 89 1,oM 90 2,oM 91 11,oP 92 (.callI 122 [(.t 88), (.t 89), (.t 90), (.t 91)]),oM 13 92]
def c113r19 : LO := [oM 93 13,oM 1 93]
def c113r20 : LO := [oM 95 0,oM 96 1,oM 97 2,oM 98 11,oP 99 (.callI 123 [(.t 95), (.t 96), (.t 97), (.t 98)]),oM 94 99,oP 100 (.ext (.t 94) 0),oP 101 (.ext (.t 94) 1),oM 14 100,oM 15 101]
def c113r21 : LO := [oM 102 15,oM 9 102]
def c113r22 : LO := [oM 103 14,oM 104 1,oP 105 (.arith .sub (.t 103) (.t 104)),oM 106 2,oM 107 14,oP 108 (.arith .sub (.t 106) (.t 107)),oM 16 105,oM 17 108]
def c113r23 : LO := [oM 109 10,oP 110 (.div .quo (.t 109) (nI 8)),oM 18 110]
def c113r24 : LO := [oM 111 16,oM 112 17,oP 113 (.cmp .lss (.t 111) (.t 112))]
def c113r25 : LO := [oM 114 16,oM 115 18,oP 116 (.cmp .geq (.t 114) (.t 115)),oM 8 116]
def c113r26 : LO := [oM 117 0,oM 118 1,oM 119 14,oM 120 3,oP 121 (.callI 113 [(.t 117), (.t 118), (.t 119), (.t 120)])]
def c113r27 : LO := [oM 122 14,oP 123 (.arith .add (.t 122) (nI 1)),oM 1 123]
def c113r28 : LO := [oM 124 17,oM 125 18,oP 126 (.cmp .geq (.t 124) (.t 125)),oM 8 126]
def c113r29 : LO := [oM 127 0,oM 128 14,oP 129 (.arith .add (.t 128) (nI 1)),oM 130 2,oM 131 3,oP 132 (.callI 113 [(.t 127), (.t 129), (.t 130), (.t 131)])]
def c113r30 : LO := [oM 133 14,oM 2 133]
def c113l31 : ACode := (.block 1 (sR c113r2 (.seq (sR c113r3 (.cond (.t 23) (sR c113r4 .ret) .skip)) (.seq (sR c113r5 (.cond (.t 29) (sR c113r6 .ret) .skip)) (.seq (sR c113r7 (.cond (.t 35) (sR c113r8 (rG c113r9)) .skip)) (sR c113r10 (.seq (sR c113r11 (.cond (.t 50) (sR c113r12 (sR c113r13 (rG c113r14))) .skip)) (.seq (sR c113r15 (.cond (.t 68) (sR c113r16 (.cond (.t 72) .ret .skip)) .skip)) (.seq (sR c113r17 (.cond (.t 87) (sR c113r18 (sR c113r19 (.exit 1))) .skip)) (sR c113r20 (sR c113r21 (sR c113r22 (sR c113r23 (sR c113r24 (.cond (.t 113) (sR c113r25 (sR c113r26 (rG c113r27))) (sR c113r28 (sR c113r29 (rG c113r30))))))))))))))))))
def c113l31m : List Bool := zT<|zT<|zT<|zT<|zF<|zF<|zF<|zF<|zT<|zT<|z8<|z8<|z8<|z8<|z8<|z8<|z8<|z8<|z8<|z8<|z8<|z8<|z8<|z8<|z8<|zF<|zF<|zF<|zF<|[]
def f113 : FRow := ⟨(sR c113r0 (sR c113r1 (.block 0 (.loop c113l31m [] c113l31)))), [], 134⟩
def c115r0 : LO := [oM 8 1,oP 9 (.arith .add (.t 8) (nI 1)),oM 6 9]
def c115r1 : LO := [oM 10 6,oM 11 2,oP 12 (.cmp .lss (.t 10) (.t 11))]
def c115r2 : LO := [oM 15 6,oM 7 15]
def c115r3 : LO := [oM 16 7,oM 17 1,oP 18 (.cmp .gtr (.t 16) (.t 17)),oM 19 18,oH 20 19 true 0,oH 21 19 true 7,oG 22 19 true (.idxA 1 (.t 20) (.t 21)),oG 23 19 true (.load 1 false (.t 22)),oH 24 19 true 0,oH 25 19 true 7,oG 26 19 true (.arith .sub (.t 25) (nI 1)),oG 27 19 true (.idxA 1 (.t 24) (.t 26)),oG 28 19 true (.load 1 false (.t 27)),oG 29 19 true (.call 121 [(.t 23), (.t 28)]),oP 30 (.pick (.t 19) (.t 29) bF)]
def c115r4 : LO := [oM 33 0,oM 34 7,oM 35 0,oM 36 7,oP 37 (.arith .sub (.t 36) (nI 1)),oM 38 0,oM 39 7,oP 40 (.arith .sub (.t 39) (nI 1)),oI 41 38 40,oL 42 41,oM 43 0,oM 44 7,oI 45 43 44,oL 46 45,oI 47 33 34,⟨none, none, .store 1 (.t 47) (.t 42)⟩,oI 48 35 37,⟨none, none, .store 1 (.t 48) (.t 46)⟩]
def c115r5 : LO := [oM 31 7,oP 32 (.arith .sub (.t 31) (nI 1)),oM 7 32]
def c115l6 : ACode := (.seq (sR c115r3 (.cond (.t 30) .skip (.exit 2))) (.seq (.block 3 (rG c115r4)) (rG c115r5)))
def c115l6m : List Bool := zT<|zT<|zT<|zF<|zF<|zF<|zT<|zT<|z8<|z8<|z8<|z8<|z8<|zF<|[]
def c115r7 : LO := [oM 13 6,oP 14 (.arith .add (.t 13) (nI 1)),oM 6 14]
def c115l8 : ACode := (.seq (sR c115r1 (.cond (.t 12) .skip (.exit 0))) (.seq (.block 1 (sR c115r2 (.block 2 (.loop c115l6m [] c115l6)))) (rG c115r7)))
def c115l8m : List Bool := zT<|zT<|zT<|zF<|zF<|zF<|zT<|z8<|z8<|z8<|z8<|z8<|zF<|zF<|[]
def f115 : FRow := ⟨(sR c115r0 (.block 0 (.loop c115l8m [] c115l8))), [], 49⟩
def c121r0 : LO := [oP 4 (.mov bF)]
def c121r1 : LO := [oM 5 0,oP 6 (.call 131 [(.t 5)]),oM 7 6,oH 8 7 true 1,oG 9 7 true (.call 131 [(.t 8)]),oG 10 7 true (.not (.t 9)),oP 11 (.pick (.t 7) (.t 10) bF),oM 12 11,oH 13 12 false 0,oH 14 12 false 1,oG 15 12 false (.cmp .lss (.t 13) (.t 14)),oP 16 (.pick (.t 12) bT (.t 15)),oM 4 16]
def f121 : FRow := ⟨(sR c121r0 (sR c121r1 .ret)), [.tmp 4], 17⟩
def c131r0 : LO := [oP 2 (.mov bF)]
def c131r1 : LO := [oM 3 0,oM 4 0,oP 5 (.cmp .neq (.t 3) (.t 4)),oM 2 5]
def f131 : FRow := ⟨(sR c131r0 (sR c131r1 .ret)), [.tmp 2], 6⟩
end Go.Proofs.YtikfhfgdmlijeaaGreat.Sk
namespace Go.Proofs.YtikfhfgdmlijeaaGreat.Sk
open Go Go.E Go.E.Sm
set_option maxRecDepth 10000
@[go_sem] theorem qvk {k : IntKind} {n : Int} : (SV.int k n).isAgg = false := rfl
@[go_sem] theorem qt3 {b : Bool} : (SV.bool b).isAgg = false := rfl
@[go_sem] theorem qsI {l : List SV} : (SV.slice l).isAgg = false := rfl
@[go_sem] theorem qvl {l : List SV} : (SV.ptr l).isAgg = false := rfl
@[go_sem] theorem qvm {l m : List SV} : (SV.map l m).isAgg = false := rfl
@[go_sem] theorem qvU {f : FuncId} {l m : List SV} : (SV.fn f l m).isAgg = false := rfl
@[go_sem] theorem qvn {l : List SV} : (SV.agg l).isAgg = true := rfl
def ints (l : List Int) : SV := .slice (l.map (.int .i64))
@[go_sem] theorem qt4 {l : List Int} : (ints l).isAgg = false := rfl
theorem qb {n : Int} (h0 : 0 <= n) (h1 : n <= 2 ^ 63 - 1) : inR .i64 n := by
 unfold inR IntKind.wrap;have e : n % (2 ^ IntKind.i64.bits : Int) = n := Int.emod_eq_of_lt h0 (by simp only [IntKind.bits]; omega)
 simp only [e];have : ¬ (n ≥ (2 ^ (IntKind.i64.bits - 1) : Int)) := by simp only [IntKind.bits]; omega
 simp [this]
theorem qan : (maxLen : Int) <= 2 ^ 63 - 1 := Int.le_refl _
def idx {α : Type} (p : α -> Bool) : List α -> Int -> Int
 | [], _ => -1
 | x :: xs, i => if p x then i else idx p xs (i + 1)
theorem qeI {α : Type} (p : α -> Bool) : ∀ (xs : List α) (i : Nat), (0 <= idx p xs i) ↔ xs.any p = true
 | [], i => by simp [idx]
 | x :: xs, i => by
  simp only [idx, List.any_cons, Bool.or_eq_true]
  by_cases h : p x = true
  ·simp [h]
  ·have := qeI p xs (i + 1)
   rw [show ((i + 1 : Nat) : Int) = (i : Int) + 1 from rfl] at this;simp [h, this]
def Asks (g : FuncId) (first caps : List SV) (x : SV) (b : Bool) : Prop := E.Fn Tryz.prog g (first ++ [x] ++ caps) [.bool b]
def Ok1 (g : FuncId) (first caps : List SV) : Prop := okFn Tryz.prog g = true /\ ((first.map LV.s).all LV.isOne && (caps.map LV.s).all LV.isOne) = true
theorem k108 {g : FuncId} {first caps : List SV} {xs : List Int} {p : Int -> Bool} (hg : Ok1 g first caps) (hp : ∀ x ∈ xs, Asks g first caps (.int .i64 x) (p x)) : E.Fn Tryz.prog 108 [ints xs, .fn g first caps] [.int .i64 (idx p xs 0)] := by
 refine fn_of_row qoB ?_;simp only [FRow.start, f108, c108r0, c108r1, ints, go_sem, Nat.reduceAdd, Nat.reduceSub];intro hlen;have hlen' : (xs.length : Int) <= 2 ^ 63 - 1 := Int.le_trans (Int.ofNat_le.mpr hlen) qan
 refine qe (fun n τ => ∃ i : Nat, n = xs.length - i /\ i <= xs.length /\ idx p xs 0 = idx p (xs.drop i) i /\
  τ = ⟨[.s (.slice (xs.map (.int .i64))), .s (.fn g first caps), .any, .any, .any, .any, .any, aI xs.length, aI i, .any, .any, .any, .any, .any, .any, .any, .any, .any, .any], []⟩) xs.length rfl ?_ ?_
 ·simp only [c108l7m, go_sem]
  exact ⟨0, rfl, Nat.zero_le _, rfl, rfl⟩
 ·rintro I n τ ⟨i, rfl, hi, hidx, rfl⟩ hI
  simp only [c108l7, c108r2, c108r3, go_sem, ↓reduceIte];refine ⟨fun hlt => ?_, fun hge => ?_⟩
  ·have hx : xs[i]? = some xs[i] := List.getElem?_eq_getElem hlt
   have hdrop : xs.drop i = xs[i] :: xs.drop (i + 1) := List.drop_eq_getElem_cons hlt;simp only [c108r4, hx, go_sem];refine ⟨hg.1, hg.2, qa (by simp only [go_sem]) (hp _ (List.getElem_mem hlt)) (.inl rfl) ?_⟩
   simp only [go_sem];rw [hdrop, idx] at hidx
   cases hpx : p xs[i] with
   | true =>
    simp only [hpx, if_true] at hidx;simp only [c108r5, hidx, go_sem]
   | false =>
    simp only [hpx, Bool.false_eq_true, if_false] at hidx;simp only [c108r6, c108l7m, go_sem];refine ⟨qb (n := ((i : Int) + 1)) (by omega) (by omega), hI (xs.length - (i + 1)) _ (by omega) ⟨i + 1, rfl, by omega, by rw [hidx]; simp, by simp⟩⟩
  ·have hie : i = xs.length := by omega
   subst hie;simp only [List.drop_length, idx] at hidx;simp only [c108r8, hidx, go_sem, Int.reduceNeg]
theorem k86 {g : FuncId} {first caps : List SV} {xs : List Int} {p : Int -> Bool} (hg : Ok1 g first caps) (hp : ∀ x ∈ xs, Asks g first caps (.int .i64 x) (p x)) : E.Fn Tryz.prog 86 [ints xs, .fn g first caps] [.bool (xs.any p)] := by
 refine fn_of_row qrh ?_;simp only [FRow.start, f86, c86r0, c86r1, go_sem, Nat.reduceAdd, Nat.reduceSub];refine qa (by simp only [go_sem]) (k108 hg hp) (.inl rfl) ?_
 simp only [go_sem]
 have h : decide (0 <= idx p xs 0) = xs.any p := by
  have := qeI p xs 0;simp only [Int.cast_ofNat_Int] at this;rw [Bool.eq_iff_iff]
  simpa using this
 rw [h]
theorem k87 {lo hi x : Int} : E.Fn Tryz.prog 87 [.int .i64 x, .ptr [.int .i64 lo], .ptr [.int .i64 hi]] [.bool (decide (x < lo) || decide (hi < x))] := by
 refine fn_of_row qri ?_;simp only [FRow.start, f87, c87r0, c87r1, go_sem, Nat.reduceAdd, Nat.reduceSub]
 by_cases h1 : x < lo
 ·simp only [h1, decide_true, true_implies, not_true, false_implies, go_sem]
  simp
 ·simp only [h1, decide_false, true_implies, not_false_eq_true, false_implies, go_sem]
  simp
def withinB (lo hi : Int) (l : List Int) : Bool := !(l.any fun x => decide (x < lo) || decide (hi < x))
theorem k50 {lo hi : Int} {l : List Int} : E.Fn Tryz.prog 50 [.int .i64 lo, .int .i64 hi, ints l] [.bool (withinB lo hi l)] := by
 refine fn_of_row qqQ ?_;simp only [FRow.start, f50, c50r0, c50r1, SV.cells, go_sem, Nat.reduceAdd, Nat.reduceSub];have h := k86 (g := 87) (first := []) (caps := [.ptr [.int .i64 lo], .ptr [.int .i64 hi]]) (xs := l) (p := fun x => decide (x < lo) || decide (hi < x)) ⟨by kernel_rfl, by rfl⟩ fun x _ => k87
 refine qa (by simp only [go_sem]) h (.inl rfl) ?_
 simp only [go_sem];rfl
theorem k90 {xs : List Int} {v : Int} : E.Fn Tryz.prog 90 [ints xs, .int .i64 v] [.int .i64 (idx (fun x => decide (v = x)) xs 0)] := by
 refine fn_of_row qrl ?_;simp only [FRow.start, f90, c90r0, c90r1, ints, go_sem, Nat.reduceAdd, Nat.reduceSub];intro hlen;have hlen' : (xs.length : Int) <= 2 ^ 63 - 1 := Int.le_trans (Int.ofNat_le.mpr hlen) qan
 refine qe (fun n τ => ∃ i : Nat, n = xs.length - i /\ i <= xs.length /\ idx (fun x => decide (v = x)) xs 0 = idx (fun x => decide (v = x)) (xs.drop i) i /\
  τ = ⟨[.s (.slice (xs.map (.int .i64))), aI v, .any, .any, .any, .any, .any, aI xs.length, aI i, .any, .any, .any, .any, .any, .any, .any, .any, .any, .any], []⟩) xs.length rfl ?_ ?_
 ·simp only [c90l7m, go_sem]
  exact ⟨0, rfl, Nat.zero_le _, rfl, rfl⟩
 ·rintro I n τ ⟨i, rfl, hi, hidx, rfl⟩ hI
  simp only [c90l7, c90r2, c90r3, go_sem, ↓reduceIte];refine ⟨fun hlt => ?_, fun hge => ?_⟩
  ·have hlt : i < xs.length := by omega
   have hx : xs[i]? = some xs[i] := List.getElem?_eq_getElem hlt;have hdrop : xs.drop i = xs[i] :: xs.drop (i + 1) := List.drop_eq_getElem_cons hlt;rw [hdrop, idx] at hidx;generalize xs[i] = x at hx hidx hdrop
   by_cases hv : v = x
   ·rw [if_pos (by simpa using hv)] at hidx
    simp only [c90r4, hx, hv, c90r5, go_sem];simp [<- hv, hidx]
   ·rw [if_neg (by simpa using hv)] at hidx
    simp only [c90r4, hx, hv, c90r6, c90l7m, go_sem];exact ⟨qb (by omega) (by omega), hI (xs.length - (i + 1)) _ (by omega) ⟨i + 1, rfl, by omega, hidx, rfl⟩⟩
  ·have hie : i = xs.length := by omega
   subst hie;simp only [List.drop_length, idx] at hidx;simp only [c90r8, hidx, go_sem, Int.reduceNeg]
theorem k91 {xs : List Int} {v : Int} : E.Fn Tryz.prog 91 [ints xs, .int .i64 v] [.bool (decide (v ∈ xs))] := by
 refine fn_of_row qrm ?_;simp only [FRow.start, f91, c91r0, c91r1, go_sem, Nat.reduceAdd, Nat.reduceSub];refine qa (by simp only [go_sem]) (k90 (xs := xs) (v := v)) (.inl rfl) ?_
 simp only [go_sem]
 have h : decide (0 <= idx (fun x => decide (v = x)) xs 0) = decide (v ∈ xs) := by
  have := qeI (fun x => decide (v = x)) xs 0
  simp only [Int.cast_ofNat_Int] at this;rw [decide_eq_decide, this, List.any_eq_true];exact ⟨fun ⟨x, h1, h2⟩ => by rw [of_decide_eq_true h2]; exact h1, fun h => ⟨v, h, by simp⟩⟩
 rw [h]
theorem k103 {xs ys : List Int} : E.Fn Tryz.prog 103 [ints xs, ints ys] [.bool (decide (xs = ys))] := by
 refine fn_of_row qow ?_
 by_cases hl : xs.length = ys.length
 ·have hl2 : (xs.length : Int) = ys.length := by omega
  simp only [FRow.start, f103, c103r0, c103r1, ints, hl2, c103r3, go_sem, Nat.reduceAdd, Nat.reduceSub];intro _ hlen;have hlen' : (xs.length : Int) <= 2 ^ 63 - 1 := Int.le_trans (Int.ofNat_le.mpr hlen) qan
  refine qe (fun n τ => ∃ i : Nat, n = xs.length - i /\ i <= xs.length /\ xs.take i = ys.take i /\
   τ = ⟨[.s (.slice (xs.map (.int .i64))), .s (.slice (ys.map (.int .i64))), .any, .any, .any, .any, .any, .any, .any, .any, .any, .any, aI ys.length, aI i, .any, .any, .any, .any, .any, .any, .any, .any, .any, .any, .any, .any], []⟩) xs.length rfl ?_ ?_
  ·simp only [c103l9m, go_sem]
   exact ⟨0, rfl, Nat.zero_le _, rfl, rfl⟩
  ·rintro I n τ ⟨i, rfl, hi, heq, rfl⟩ hI
   simp only [c103l9, c103r4, c103r5, go_sem, ↓reduceIte];refine ⟨fun hlt => ?_, fun hge => ?_⟩
   ·have hlt : i < xs.length := by omega
    have hx : xs[i]? = some xs[i] := List.getElem?_eq_getElem hlt;have hy : ys[i]? = some ys[i] := List.getElem?_eq_getElem (by omega)
    have htx : xs.take (i + 1) = xs.take i ++ [xs[i]] := by rw [List.take_succ, hx]; rfl
    have hty : ys.take (i + 1) = ys.take i ++ [ys[i]] := by rw [List.take_succ, hy]; rfl
    generalize xs[i] = x at hx htx;generalize ys[i] = y at hy hty
    by_cases hv : x = y
    ·subst hv
     simp only [c103r6, hx, hy, c103r8, c103l9m, go_sem];exact ⟨qb (by omega) (by omega), hI (xs.length - (i + 1)) _ (by omega) ⟨i + 1, rfl, by omega, by rw [htx, hty, heq], rfl⟩⟩
    ·have hne : ¬ xs = ys := fun e => by
      subst e;rw [hx] at hy
      cases hy
      exact hv rfl
     simp only [c103r6, hx, hy, hv, c103r7, hne, go_sem]
   ·have hie : i = xs.length := by omega
    subst hie;rw [List.take_length, hl, List.take_length] at heq;simp only [c103r10, heq, go_sem]
 ·have hl2 : ¬ (xs.length : Int) = ys.length := by omega
  have hne : ¬ xs = ys := fun e => hl (by rw [e])
  simp only [FRow.start, f103, c103r0, c103r1, ints, hl2, c103r2, hne, go_sem, Nat.reduceAdd, Nat.reduceSub]
theorem k60 {l : List Int} (hl : l.length <= 100) (hr : ∀ x ∈ l, 0 <= x /\ x <= 1000000000000) : E.Fn Tryz.prog 60 [ints l] [.int .i64 l.sum] := by
 refine fn_of_row qqY ?_;simp only [FRow.start, f60, c60r0, c60r1, c60r2, ints, go_sem, Nat.reduceSub];intro _
 refine qe (fun n τ => ∃ i : Nat, n = l.length - i /\ i <= l.length /\ 0 <= (l.take i).sum /\ (l.take i).sum <= 1000000000000 * i /\
  τ = ⟨[.any, .any, .any, .s (.int .i64 (l.take i).sum), .any, .any, .s (.slice (l.map (.int .i64))), aI l.length, aI i, .any, .any, .any, .any, .any, .any, .any, .any], []⟩) l.length rfl ?_ ?_
 ·simp only [c60l7m, go_sem]
  exact ⟨0, rfl, Nat.zero_le _, by simp, by simp, by simp⟩
 ·rintro I n τ ⟨i, rfl, hi, h0, h1, rfl⟩ hI
  simp only [c60l7, c60r3, go_sem, ↓reduceIte];refine ⟨fun hlt => ?_, fun hge => ?_⟩
  ·have hlt : i < l.length := by omega
   have hx : l[i]? = some l[i] := List.getElem?_eq_getElem hlt;have hr := hr _ (List.getElem_mem hlt);have hts : (l.take (i + 1)).sum = (l.take i).sum + l[i] := by rw [List.take_succ, hx, List.sum_append]; simp
   generalize l[i] = x at hx hr hts;simp only [c60r4, hx, c60r5, c60r6, c60l7m, go_sem];exact ⟨qb (by omega) (by omega), qb (by omega) (by omega), hI (l.length - (i + 1)) _ (by omega) ⟨i + 1, rfl, by omega, by omega, by omega, by rw [hts]; rfl⟩⟩
  ·have hie : i = l.length := by omega
   subst hie;rw [List.take_length];simp only [c60r8, go_sem]
theorem g93 {n : Nat} (h0 : 0 < n) (h1 : n <= 1000000) : FnRoom Tryz.prog 109 1 [.full [], aI n] := by
 refine room_of_row qoC ?_;have e1 : ¬ ((n : Int) < 0) := by omega
 have e2 : (0 : Int) < n := by omega
 have e3 : (n : Int) - (((0 : Nat) : Int) - ((0 : Nat) : Int)) = n := by omega
 simp only [FRow.start, f109, c109r0, c109r1, e1, c109r3, e3, go_sem, Nat.reduceAdd, Nat.reduceSub];refine ⟨qb (by omega) (by omega), qb (by omega) (by omega), fun _ => ?_⟩
 simp only [c109r4, e2, c109r5, go_sem, ↓reduceIte, Nat.reduceSub, Nat.reduceLT, Nat.reduceMul];refine ⟨by omega, by omega, Nat.zero_le _, fun _ => ?_⟩
 simp only [c109r6, Bool.false_and, go_sem]
 show (match (LV.sl 0 0 0 1 false) with | .sl b _ len sz' _ => 1 = sz' /\ len = 0 /\ ∃ cs, [ABlock.row []][b]? = some (.row cs) | _ => False)
 exact ⟨rfl, rfl, _, rfl⟩
theorem qen {σ : AState} {d sz b o l z : Nat} {c : Bool} (h : fget σ.fr d = .sl b o l z c) : promote [(d, none, sz)] σ = σ := by
 simp only [promote, promote1, h]
theorem qF {l : List Int} : flatE (l.map (SV.int .i64)) = l.map (SV.int .i64) := by
 induction l with
 | nil => rfl
 | cons x l ih => simp only [flatE, List.map_cons, List.flatten_cons, SV.cells, List.cons_append, List.nil_append] at *; rw [ih]
theorem qaM {l : List Int} : sliceOf 0 l.length 1 (l.map (SV.int .i64)) = some (ints l) := by
 rw [sliceOf, if_pos (by rw [List.length_map]; omega), elems, if_pos rfl, List.drop_zero, List.take_of_length_le (by simp)]; rfl
theorem qaN {l : List Int} : ∀ y ∈ l.map (SV.int .i64), y.cells.length = 1 := by
 intro y hy;obtain ⟨x, _, rfl⟩ := List.mem_map.1 hy; rfl
def intss (l : List (List Int)) : SV := .slice (l.map ints)
theorem qdy {L : List (List Int)} {i : Nat} {l : List Int} (h : L[i]? = some l) : (L.take (i + 1)).flatten = (L.take i).flatten ++ l := by
 rw [List.take_succ, h, List.flatten_append]; simp
theorem k89 {L : List (List Int)} (hl : L.length <= 100) (hx : ∀ l ∈ L, l.length <= 1000) (h0 : 0 < L.flatten.length) : E.Fn Tryz.prog 89 [intss L] [ints L.flatten] := by
 refine fn_of_row qrk ?_
 have hfl : ∀ i, i <= L.length -> (L.take i).flatten.length <= 1000 * i := by
  intro i
  induction i with
  | zero => intro _; simp
  | succ i ih =>
   intro hi;have h1 : L[i]? = some L[i] := List.getElem?_eq_getElem (by omega)
   have h2 := hx _ (List.getElem_mem (h := show i < L.length by omega))
   have h3 := ih (by omega)
   rw [qdy h1, List.length_append];omega
 simp only [FRow.start, f89, c89r0, c89r1, c89r2, intss, go_sem, Nat.reduceSub];intro _
 refine qe (fun n τ => ∃ i : Nat, n = L.length - i /\ i <= L.length /\
  τ = ⟨((.s (.slice (L.map ints)))::aN::aN::(.s (.int .i64 (L.take i).flatten.length))::aN::aN::aN::aN::aN::(.s (.slice (L.map ints)))::(aI L.length)::(aI i)::aZ24), []⟩) L.length rfl ?_ ?_
 ·simp only [c89l9m, go_sem]
  exact ⟨0, rfl, Nat.zero_le _, by simp⟩
 ·rintro I n τ ⟨i, rfl, hi, rfl⟩ hI
  have hb := hfl i hi;simp only [c89l9, c89r3, go_sem, ↓reduceIte];refine ⟨fun hlt => ?_, fun hge => ?_⟩
  ·have hlt : i < L.length := by omega
   have hg : L[i]? = some L[i] := List.getElem?_eq_getElem hlt;have hft := qdy hg;have hb2 := hfl (i + 1) (by omega)
   generalize L[i] = l at hg hft;rw [hft, List.length_append] at hb2;have e1 : ¬ (((L.take i).flatten.length : Int) + l.length < 0) := by omega
   simp only [c89r4, hg, c89r5, ints, c89r6, e1, c89r8, c89l9m, go_sem];refine ⟨qb (by omega) (by omega), fun _ => ⟨qb (by omega) (by omega), hI (L.length - (i + 1)) _ (by omega) ⟨i + 1, rfl, by omega, ?_⟩⟩⟩
   rw [hft, List.length_append]; rfl
  ·have hie : i = L.length := by omega
   subst hie;rw [List.take_length] at *;simp only [c89r10, go_sem];refine .inl ⟨_, g93 (n := L.flatten.length) h0 (by omega), .inl ⟨rfl, rfl⟩, by decide, rfl, ?_⟩
   simp only [c89r11, go_sem];intro _
   refine qe (fun n τ => ∃ i : Nat, n = L.length - i /\ i <= L.length /\
    τ = ⟨[.any, .any, .any, .any, .any, .any, .sl 0 0 (L.take i).flatten.length 1 false, .any, .any, .any, .any, .any, .any, .any, .any, .any, .any, .any, .any, .any, .any, .any, .any, .any, .any, .s (.slice (L.map ints)), aI L.length, aI i, .any, .any, .any, .any, .any, .any, .any, .any], [.row ((L.take i).flatten.map (.int .i64))]⟩) L.length (qen rfl) ?_ ?_
   ·simp only [c89l16m, go_sem, ↓reduceIte, reduceCtorEq, Nat.reduceLeDiff]
    exact ⟨0, rfl, Nat.zero_le _, rfl⟩
   ·rintro I n τ ⟨i, rfl, hi, rfl⟩ hI
    simp only [c89l16, c89r12, go_sem, ↓reduceIte];refine ⟨fun hlt => ?_, fun hge => ?_⟩
    ·have hlt : i < L.length := by omega
     have hg : L[i]? = some L[i] := List.getElem?_eq_getElem hlt;have hft := qdy hg;have hb2 := hfl (i + 1) (by omega)
     generalize L[i] = l at hg hft;rw [hft, List.length_append] at hb2;simp only [c89r13, hg, ints, c89r14, Nat.reduceBEq, go_sem, ↓reduceIte, Nat.reduceAdd];refine ⟨qaN, by rw [Nat.mul_one], by omega, by omega, ?_⟩
     rw [qF, <- List.map_append, <- hft];simp only [c89r15, c89l16m, go_sem, ↓reduceIte, reduceCtorEq, Nat.reduceLeDiff];refine ⟨qb (by omega) (by omega), hI (L.length - (i + 1)) _ (by omega) ⟨i + 1, rfl, by omega, ?_⟩⟩
     rw [hft, List.length_append]; rfl
    ·have hie : i = L.length := by omega
     subst hie;rw [List.take_length];simp only [c89r17, qaM, go_sem]
end Go.Proofs.YtikfhfgdmlijeaaGreat.Sk
namespace Go.Proofs.YtikfhfgdmlijeaaGreat.Sk
open Go Go.Shelf
def sortI_ren : Go.Shelf.Ren := ⟨fun | 5 => 112 | 8 => 114 | 7 => 113 | 19 => 124 | 20 => 125 | 10 => 115 | 11 => 116 | 12 => 117 | 13 => 118 | 14 => 119 | 15 => 120 | 16 => 121 | 17 => 122 | 18 => 123 | 30 => 126 | 31 => 127 | 32 => 128 | 33 => 129 | 34 => 130 | 35 => 131 | 40 => 132 | n => n, fun | 23 => 58 | 25 => 3 | 3 => 3 | 32 => 131 | 22 => 58 | 0 => 0 | 44 => 142 | 46 => 144 | 4 => 4 | 36 => 134 | 35 => 133 | 41 => 139 | 5 => 5 | 9 => 9 | 53 => 145 | 57 => 149 | 63 => 152 | 64 => 153 | n => n, fun | n => n⟩
theorem qmi : Go.Proofs.SlLaysM.n5 Tryz.prog sortI_ren := {
 mixed := by kernel_rfl
 f5 := ⟨Tryz.f112.name, by decide, Tryz.func112.trans (congrArg some (by kernel_rfl))⟩
 f7 := ⟨Tryz.f113.name, by decide, Tryz.func113.trans (congrArg some (by kernel_rfl))⟩
 f8 := Tryz.func114.trans (congrArg some (by kernel_rfl))
 f10 := ⟨Tryz.f115.name, by decide, Tryz.func115.trans (congrArg some (by kernel_rfl))⟩
 f11 := ⟨Tryz.f116.name, by decide, Tryz.func116.trans (congrArg some (by kernel_rfl))⟩
 f12 := ⟨Tryz.f117.name, by decide, Tryz.func117.trans (congrArg some (by kernel_rfl))⟩
 f13 := ⟨Tryz.f118.name, by decide, Tryz.func118.trans (congrArg some (by kernel_rfl))⟩
 f14 := ⟨Tryz.f119.name, by decide, Tryz.func119.trans (congrArg some (by kernel_rfl))⟩
 f15 := ⟨Tryz.f120.name, by decide, Tryz.func120.trans (congrArg some (by kernel_rfl))⟩
 f16 := ⟨Tryz.f121.name, by decide, Tryz.func121.trans (congrArg some (by kernel_rfl))⟩
 f17 := ⟨Tryz.f122.name, by decide, Tryz.func122.trans (congrArg some (by kernel_rfl))⟩
 f18 := ⟨Tryz.f123.name, by decide, Tryz.func123.trans (congrArg some (by kernel_rfl))⟩
 f19 := Tryz.func124.trans (congrArg some (by kernel_rfl))
 f20 := Tryz.func125.trans (congrArg some (by kernel_rfl))
 f30 := ⟨Tryz.f126.name, by decide, Tryz.func126.trans (congrArg some (by kernel_rfl))⟩
 f31 := Tryz.func127.trans (congrArg some (by kernel_rfl))
 f32 := Tryz.func128.trans (congrArg some (by kernel_rfl))
 f33 := ⟨Tryz.f129.name, by decide, Tryz.func129.trans (congrArg some (by kernel_rfl))⟩
 f34 := ⟨Tryz.f130.name, by decide, Tryz.func130.trans (congrArg some (by kernel_rfl))⟩
 f35 := ⟨Tryz.f131.name, by decide, Tryz.func131.trans (congrArg some (by kernel_rfl))⟩
 f40 := ⟨Tryz.f132.name, by decide, Tryz.func132.trans (congrArg some (by kernel_rfl))⟩
 t0 := Tryz.underlying0
 a0 := Tryz.isAgg0
 z0 := Tryz.sizeOf0
 v0 := Tryz.zeroValue0
 t3 := Tryz.underlying3
 a3 := Tryz.isAgg3
 z3 := Tryz.sizeOf3
 v3 := Tryz.zeroValue3
 t4 := Tryz.underlying4
 a4 := Tryz.isAgg4
 z4 := Tryz.sizeOf4
 v4 := Tryz.zeroValue4
 t5 := Tryz.underlying5
 a5 := Tryz.isAgg5
 z5 := Tryz.sizeOf5
 v5 := Tryz.zeroValue5
 t9 := Tryz.underlying9
 a9 := Tryz.isAgg9
 z9 := Tryz.sizeOf9
 v9 := Tryz.zeroValue9
 t22 := Tryz.underlying58
 a22 := Tryz.isAgg58
 z22 := Tryz.sizeOf58
 v22 := Tryz.zeroValue58
 t23 := Tryz.underlying58
 a23 := Tryz.isAgg58
 z23 := Tryz.sizeOf58
 v23 := Tryz.zeroValue58
 t25 := Tryz.underlying3
 a25 := Tryz.isAgg3
 z25 := Tryz.sizeOf3
 v25 := Tryz.zeroValue3
 t32 := Tryz.underlying131
 a32 := Tryz.isAgg131
 z32 := Tryz.sizeOf131
 v32 := Tryz.zeroValue131
 t35 := Tryz.underlying133
 a35 := Tryz.isAgg133
 z35 := Tryz.sizeOf133
 v35 := Tryz.zeroValue133
 t36 := Tryz.underlying134
 a36 := Tryz.isAgg134
 z36 := Tryz.sizeOf134
 v36 := Tryz.zeroValue134
 t41 := Tryz.underlying139
 a41 := Tryz.isAgg139
 z41 := Tryz.sizeOf139
 v41 := Tryz.zeroValue139
 t44 := Tryz.underlying142
 a44 := Tryz.isAgg142
 z44 := Tryz.sizeOf142
 v44 := Tryz.zeroValue142
 t46 := Tryz.underlying144
 a46 := Tryz.isAgg144
 z46 := Tryz.sizeOf144
 v46 := Tryz.zeroValue144
 t53 := Tryz.underlying145
 a53 := Tryz.isAgg145
 z53 := Tryz.sizeOf145
 v53 := Tryz.zeroValue145
 t57 := Tryz.underlying149
 a57 := Tryz.isAgg149
 z57 := Tryz.sizeOf149
 v57 := Tryz.zeroValue149
 t63 := Tryz.underlying152
 a63 := Tryz.isAgg152
 z63 := Tryz.sizeOf152
 v63 := Tryz.zeroValue152
 t64 := Tryz.underlying153
 a64 := Tryz.isAgg153
 z64 := Tryz.sizeOf153
 v64 := Tryz.zeroValue153
}
end Go.Proofs.YtikfhfgdmlijeaaGreat.Sk
namespace Go.Proofs.YtikfhfgdmlijeaaGreat.Sk
open Go Go.E Go.E.Sm Go.Sort Go.Shelf
set_option maxRecDepth 10000
theorem qb3 {w : World} {blk : Nat} {f : Array Value -> Array Value} {c : Array Value} {T : TypeId} {fr : Nat × Nat} (h : w.heap[blk]? = some (.cells c T fr)) : mapBlock w blk f = w.setRow blk (f c) := by
 unfold mapBlock World.setRow
 congr 1
 apply Array.ext_getElem?
 intro i;rw [Array.getElem?_modify, Array.getElem?_modify]
 by_cases e : blk = i
 ·subst e; rw [if_pos rfl, if_pos rfl, h]; rfl
 ·rw [if_neg e, if_neg e]
theorem qiR (w : World) (os : Array Obj) : E.Touch [] w (grow w os) :=
 ⟨rfl, rfl, rfl, Nat.le_refl _, by simp [grow], fun b hb _ => by simp only [grow]; rw [Array.getElem?_append_left hb]⟩
theorem qcp (sh : Nat) (d : List Int) (c : Array Value) (h : sh + d.length <= c.size) : ((putCells (Value.int .i64) sh d.toArray c).toList.drop sh).take d.length = d.map (Value.int .i64) := by
 apply List.ext_getElem?
 intro j;rw [List.getElem?_take]
 split
 ·rename_i hj
  rw [List.getElem?_drop, Array.getElem?_toList];unfold putCells;rw [Array.getElem?_mapIdx, Array.getElem?_eq_getElem (by omega)]
  simp only [Option.map_some, List.size_toArray];rw [if_pos (by omega), Nat.add_sub_cancel_left, List.getElem?_map, List.getElem?_eq_getElem hj, getElem!_pos d.toArray j (by simpa using hj)]
  rfl
 ·rename_i hj
  rw [List.getElem?_eq_none (by simpa using Nat.le_of_not_lt hj)]
theorem qbt {M : Mem} : ∀ (L : List Int) (us : List Value), CRelC M (L.map (SV.int .i64)) (ones us) ↔ us = L.map (Value.int .i64)
 | [], us => by
  cases us with
  | nil => simp [CRelC, ones]
  | cons u us => simp [CRelC, ones]
 | x :: L, us => by
  cases us with
  | nil => simp [CRelC, ones]
  | cons u us =>
   have ih := qbt (M := M) L us;constructor
   ·intro h
    simp only [List.map_cons, CRelC, qak, List.cons.injEq, CRel] at h;obtain ⟨a, as1, ⟨rfl, rfl⟩, h1, h2⟩ := h;simp only [List.cons.injEq, and_true] at h1;rw [List.map_cons, h1, ih.1 h2]
   ·intro h
    simp only [List.map_cons, List.cons.injEq] at h;simp only [List.map_cons, CRelC, qak];exact ⟨_, _, rfl, by simp only [CRel]; rw [h.1], ih.2 h.2⟩
def srtI (L : List Int) : List Int := L.mergeSort fun x y => decide (x <= y)
theorem k112 {H : List ABlock} {b : Nat} {L : List Int} {clip : Bool} (hB : H[b]? = some (.row (L.map (.int .i64)))) (hLs : L.length < 4611686018427387904) :
  CSem Tryz.prog 112 [.sl b 0 L.length 1 clip] H (.tup []) (H.set b (.row ((srtI L).map (.int .i64)))) := by
 intro M ρ w vs hS hF;obtain ⟨v0, ys, rfl, h0, hys⟩ := hF;simp only [FRel] at hys;subst hys;have g0 := h0.one rfl (by simp)
 simp only [LRel] at g0;obtain ⟨r, ad, cap, hr, hg, e0, hlc, hcm, _, _, hcap⟩ := g0;simp only [List.cons.injEq, and_true] at e0;subst e0;obtain ⟨r', hr1, hr2⟩ := hS.spot hB;rw [hr] at hr1; cases hr1;have hbl := (List.getElem?_eq_some_iff.1 hB).1;have hI := MInv.start hS
 by_cases hL : L = []
 ·subst hL
  have hset : H.set b (.row ((srtI []).map (.int .i64))) = H := by
   have : srtI [] = [] := by simp [srtI]
   rw [this]
   apply List.ext_getElem?
   intro j;rw [List.getElem?_set]
   by_cases e : b = j
   ·subst e; rw [if_pos rfl, if_pos hbl, hB]
   ·rw [if_neg e]
  rw [hset];refine (AnyM.slices_Sort_int_none qmi ad cap w).mono fun e w' ⟨he, hw⟩ => ?_
  subst hw;exact ⟨_, M, ρ, he, hI, qp (vs := []) (xs := []) rfl⟩
 ·cases r with
  | gone => exact absurd rfl hg
  | empty =>
   simp only [BRel] at hr2;exact absurd (by simpa using hr2) hL
  | here cb sh n =>
   simp only [BRel] at hr2;obtain ⟨c, T, hc1, hc2, hc3, hc4, hc5⟩ := hr2;have hlp := List.length_pos_iff.2 hL
   rcases hcap with hc0 | ⟨cb', sh', n', e1, e2, e3⟩
   ·omega
   cases e1
   subst e2;simp only [Nat.add_zero] at e3 ⊢;rw [List.length_map] at hc3 hc4;have hcells := (qbt L _).1 hc4
   have hHold : Sort.Holds (Value.int .i64) w cb sh L.toArray := by
    intro j hj;have hj2 : j < L.length := by simpa using hj
    refine ⟨?_, by simp [World.frozen?, hc1]⟩
    have h5 := congrArg (·[j]?) hcells;simp only [List.getElem?_take, if_pos hj2, List.getElem?_drop, Array.getElem?_toList, List.getElem?_map, List.getElem?_eq_getElem hj2, Option.map_some] at h5;rw [heap_cell? hc1, h5, getElem!_pos L.toArray j hj]; rfl
   have hblk := hS.lt b cb sh n hr;have hcon := AnyM.slices_Sort_int qmi cb sh cap L w hHold hblk hLs
   change Calls Tryz.prog 112 _ _ _ at hcon
   refine hcon.mono fun e w' ⟨he, m, os, hw⟩ => ?_
   have e2 : (L.mergeSort fun x y => decide (x <= y)) = srtI L := rfl
   rw [e2] at hw;have hsl : (srtI L).length = L.length := List.length_mergeSort _;have hA : (Sort.ahead w m).heap[cb]? = some (.cells c T (0, 0)) := hc1;have hI1 := hI.world (w' := Sort.ahead w m) rfl rfl rfl rfl (Nat.le_add_right _ _)
   have hI2 := hI1.write (B' := .row ((srtI L).map (.int .i64))) (c' := putCells (Value.int .i64) sh (srtI L).toArray c) hB hr hA hc5 (by
    simp only [BRel];refine ⟨_, T, setRow_heap _ cb c _ T _ hA, by simpa [putCells] using hc2, by rw [List.length_map, hsl]; exact hc3, ?_, hc5⟩
    rw [qbt, List.length_map];exact qcp _ _ _ (by omega))
   have hw2 : w' = grow ((Sort.ahead w m).setRow cb (putCells (Value.int .i64) sh (srtI L).toArray c)) os := by
    rw [hw];unfold putRow;rw [qb3 hA]
   have ht := qiR ((Sort.ahead w m).setRow cb (putCells (Value.int .i64) sh (srtI L).toArray c)) os;subst hw2;refine ⟨_, M, ρ, he, hI2.grow (Mem.le_refl _) ht (Newer.refl _ _ _) ?_, qp (vs := []) (xs := []) rfl⟩;exact E.Holds.grow ⟨hI2.rel.cells, hI2.rel.maps⟩ ht
end Go.Proofs.YtikfhfgdmlijeaaGreat.Sk
namespace Go.Proofs.YtikfhfgdmlijeaaGreat.Sk
open Go Go.E Go.E.Sm
set_option maxRecDepth 10000
inductive Reach (g : Nat -> Nat -> Bool) (n : Nat) : Nat -> Nat -> Prop
 | one {i k : Nat} (h : g i k = true) (hk : k < n) : Reach g n i k
 | more {i j k : Nat} (h1 : Reach g n i j) (h2 : g j k = true) (hk : k < n) : Reach g n i k
def tk (i k : Int) : SV := .agg [.int .i64 i, .int .i64 k]
structure MapG (ks vs : List SV) (n : Nat) (T : Nat -> Nat -> Int) : Prop where
  nod : ks.Nodup
  key : ∀ i k : Nat, i < n -> k < n -> keyOk [.int .i64, .int .i64] (tk i k) ks
  get : ∀ i k : Nat, i < n -> k < n -> match mFind (tk i k) ks with | some j => vs[j]? = some (.int .i64 (T i k)) | none => T i k = 0
theorem MapG.look {ks vs : List SV} {n : Nat} {T : Nat -> Nat -> Int} (h : MapG ks vs n T) {i k : Nat} (hi : i < n) (hk : k < n) {H : List ABlock} {K : AK} (hK : K (aI (T i k)) H none True) : mgetI H false (.int .i64 0) vs K (mFind (tk i k) ks) := by
 have hg := h.get i k hi hk
 cases hm : mFind (tk i k) ks with
 | none =>
  rw [hm] at hg;simp only at hg;rw [hg] at hK;exact hK
 | some j =>
  rw [hm] at hg;simp only at hg;simp only [mgetI, hg, exO];exact hK
def bnV (s : Int) (N : List (List Int)) (p : List Int) (ks vs : List SV) (parts : List (List Int)) : SV := .ptr [.int .i64 s, intss N, ints p, .map ks vs, intss parts]
open Classical in
noncomputable def rchL (g : Nat -> Nat -> Bool) (n i : Nat) : List Int := ((List.range n).filter fun k => decide (Reach g n i k)).map fun k : Nat => (k : Int)
theorem qiS {L K : List Int} (h : K.Pairwise (· < ·)) (hn : L.Nodup) (hm : ∀ x, x ∈ L ↔ x ∈ K) : srtI L = K := by
 have h1 : (srtI L).Pairwise (· <= ·) := by
  have := List.pairwise_mergeSort (le := fun x y : Int => decide (x <= y)) (by intro a b c h1 h2; simp at *; omega) (by intro a b; simp; omega) L
  exact this.imp fun h => by simpa using h
 have hp : (srtI L).Perm K := (List.mergeSort_perm L _).trans ((List.perm_ext_iff_of_nodup hn (h.imp fun h => by omega)).2 hm)
 exact List.Perm.eq_of_pairwise (le := fun x y : Int => x <= y) (fun a b _ _ h1 h2 => by omega) h1 (h.imp fun h => by omega) hp
theorem qkh {fr : List LV} {H : List ABlock} {d e b o l z : Nat} {c : Bool} (h5 : fget fr d = .full []) (h6 : fget (fset fr d (.sl H.length 0 0 (0 + 1) false)) e = .sl b o l z c) :
  promote [(d, none, 0), (e, none, 0)] ⟨fr, H⟩ = ⟨fset fr d (.sl H.length 0 0 (0 + 1) false), H ++ [.row []]⟩ := by
 simp only [promote, promote1, h5, h6]
theorem qki {σ : AState} {d e b o l z b2 o2 l2 z2 : Nat} {c c2 : Bool} (h : fget σ.fr d = .sl b o l z c) (h2 : fget σ.fr e = .sl b2 o2 l2 z2 c2) : promote [(d, none, 0), (e, none, 0)] σ = σ := by
 simp only [promote, promote1, h, h2]
theorem qr {x : Int} : ∀ e ∈ [SV.int .i64 x], e.cells.length = 1 := by
 intro e he;rw [List.mem_singleton] at he;subst he; rfl
structure Bfs (g : Nat -> Nat -> Bool) (n i off : Nat) (out : List Int) : Prop where
  nod : out.Nodup
  mem : ∀ x ∈ out, ∃ k : Nat, x = k /\ k < n /\ Reach g n i k
  ofl : off <= out.length + 1
  all : ∀ (j : Nat) (x : Int), j < off -> ((i : Int) :: out)[j]? = some x -> ∀ k, k < n -> g x.toNat k = true -> (k : Int) ∈ out
theorem Bfs.len {g : Nat -> Nat -> Bool} {n i off : Nat} {out : List Int} (h : Bfs g n i off out) : out.length <= n := by
 have := h.nod.length_le_of_subset (l₂ := (List.range n).map fun k : Nat => (k : Int)) (fun x hx => by
  obtain ⟨k, rfl, hk, _⟩ := h.mem x hx;exact List.mem_map.2 ⟨k, List.mem_range.2 hk, rfl⟩)
 simpa using this
theorem Bfs.done {g : Nat -> Nat -> Bool} {n i : Nat} {out : List Int} (h : Bfs g n i (out.length + 1) out) : srtI out = rchL g n i := by
 refine qiS ?_ h.nod fun x => ?_
 ·unfold rchL
  rw [List.pairwise_map];exact (List.pairwise_lt_range.filter _).imp fun h => by omega
 ·unfold rchL
  rw [List.mem_map];constructor
  ·intro hx
   obtain ⟨k, rfl, hk, hr⟩ := h.mem x hx;exact ⟨k, List.mem_filter.2 ⟨List.mem_range.2 hk, by simpa using hr⟩, rfl⟩
  ·rintro ⟨k, hk, rfl⟩
   obtain ⟨_, hr⟩ := List.mem_filter.1 hk;have hr : Reach g n i k := by simpa using hr
   have step : ∀ (y : Int) (k : Nat), y = i \/ y ∈ out -> g y.toNat k = true -> k < n -> (k : Int) ∈ out := fun y k hy hg hk => by
    obtain ⟨j, hj⟩ : ∃ j : Nat, ((i : Int) :: out)[j]? = some y := by
     have : y ∈ (i : Int) :: out := by rcases hy with rfl | hy <;> simp [*]
     exact List.mem_iff_getElem?.1 this
    have hjl := (List.getElem?_eq_some_iff.1 hj).1;exact h.all j y (by simpa using hjl) hj k hk hg
   have key : ∀ k, Reach g n i k -> (k : Int) ∈ out := fun k hr => by
    induction hr with
    | one hg hk => exact step i _ (.inl rfl) (by simpa using hg) hk
    | more _ hg hk ih => exact step _ _ (.inr ih) (by rw [Int.toNat_natCast]; exact hg) hk
   exact key k hr
set_option maxHeartbeats 1000000 in
theorem k87n {s : Int} {N : List (List Int)} {p : List Int} {ks vs : List SV} {parts : List (List Int)} {T : Nat -> Nat -> Int} {i : Nat} (hm : MapG ks vs N.length T) (hn : N.length <= 100) (hi : i < N.length) (hne : rchL (fun a b => decide (0 < T a b)) N.length i ≠ []) :
  E.FnNew Tryz.prog 102 1 ([bnV s N p ks vs parts, .int .i64 i].map .s) ((rchL (fun a b => decide (0 < T a b)) N.length i).map (.int .i64)) := by
 refine new_of_row qov ?_;simp only [FRow.start, f102, c102r0, c102r1, c102r2, bnV, intss, go_sem, Nat.reduceAdd, Nat.reduceSub, Nat.reduceLT, Nat.reduceMul];refine ⟨by decide, by decide, rfl, by simp, by decide, by decide, rfl, qr, ?_⟩
 generalize hg : (fun a b => decide (0 < T a b)) = g at hne ⊢
 have hg' : ∀ a b, g a b = decide (0 < T a b) := fun a b => by rw [<- hg]
 refine qe (fun m τ => ∃ (off o : Nat) (out R : List Int), m = N.length + 1 - off /\ Bfs g N.length i off out /\ R.drop o = ((i : Int) :: out).drop off /\ o + (out.length + 1 - off) = R.length /\
  τ = ⟨((.s (.ptr [.int .i64 s, .slice (N.map ints), ints p, .map ks vs, .slice (parts.map ints)]))::aN::aN::aN::aN::(.sl 1 0 out.length 1 false)::(.sl 0 o (out.length + 1 - off) 1 false)::aN::aZ48), [.row (R.map (.int .i64)), .row (out.map (.int .i64))]⟩) (N.length + 1) (qkh rfl rfl) ?_ ?_
 ·simp only [c102l14m, go_sem, ↓reduceIte, reduceCtorEq, Nat.reduceAdd, Nat.reduceLeDiff]
  exact ⟨0, 0, [], [(i : Int)], rfl, ⟨by simp, by simp, by simp, fun j x hj => absurd hj (Nat.not_lt_zero _)⟩, rfl, rfl, rfl⟩
 ·rintro I m τ ⟨off, o, out, R, rfl, hb, hR, hRl, rfl⟩ hI
  have hol := hb.len;have hof := hb.ofl;simp only [c102l14, c102r3, go_sem, ↓reduceIte, Nat.reduceAdd];intro _;refine ⟨fun hlt => ?_, fun hge => ?_⟩
  ·have hlt : off < out.length + 1 := by omega
   obtain ⟨a, hx⟩ : ∃ a, ((i : Int) :: out)[off]? = some a := ⟨_, List.getElem?_eq_getElem (by simpa using hlt)⟩
   have hxm : (R.map (SV.int .i64))[o]? = some (.int .i64 a) := by
    have h9 := congrArg (·[0]?) hR;simp only [List.getElem?_drop, Nat.add_zero] at h9;rw [List.getElem?_map, h9, hx]; rfl
   obtain ⟨a, rfl, ha, har⟩ : ∃ k : Nat, a = k /\ k < N.length /\ (k = i \/ Reach g N.length i k) := by
    rcases List.mem_cons.1 (List.mem_of_getElem? hx) with rfl | h
    ·exact ⟨i, rfl, hi, .inl rfl⟩
    ·obtain ⟨k, h1, h2, h3⟩ := hb.mem a h
     exact ⟨k, h1, h2, .inr h3⟩
   have hpos : (0 : Int) < ((out.length + 1 - off : Nat) : Int) := by omega
   rw [List.getElem?_map] at hxm;simp only [c102r4, Nat.add_zero, hxm, hpos, c102r5, c102r6, go_sem, ↓reduceIte, Nat.reduceAdd, Nat.reduceLeDiff, Int.reduceLE, Int.reduceToNat, Nat.reduceMul];refine ⟨by omega, fun _ => ?_⟩
   rw [show out.length + 1 - off - 1 = out.length - off by omega]
   have hRd : R.drop (o + 1) = ((i : Int) :: out).drop (off + 1) := by
    have h9 := congrArg (List.drop 1) hR;rw [List.drop_drop, List.drop_drop] at h9;exact h9
   refine qe (fun m τ => ∃ (k o2 : Nat) (out2 R2 : List Int), m = N.length - k /\ k <= N.length /\ Bfs g N.length i off out2 /\ off <= out2.length /\ R2.drop o2 = ((i : Int) :: out2).drop (off + 1) /\ o2 + (out2.length - off) = R2.length /\ ((i : Int) :: out2)[off]? = some (a : Int) /\ (∀ k', k' < k -> g a k' = true -> (k' : Int) ∈ out2) /\
    τ = ⟨((.s (.ptr [.int .i64 s, .slice (N.map ints), ints p, .map ks vs, .slice (parts.map ints)]))::aN::aN::aN::aN::(.sl 1 0 out2.length 1 false)::(.sl 0 o2 (out2.length - off) 1 false)::(aI a)::aN::aN::aN::aN::aN::aN::aN::aN::aN::aN::aN::aN::aN::aN::aN::aN::aN::(aI N.length)::(aI k)::aN::aN::aN::aN::aN::aZ24), [.row (R2.map (.int .i64)), .row (out2.map (.int .i64))]⟩) N.length (qki rfl rfl) ?_ ?_
   ·simp only [c102l13m, go_sem, ↓reduceIte, reduceCtorEq, Nat.reduceAdd, Nat.reduceLeDiff]
    exact ⟨0, o + 1, out, R, rfl, Nat.zero_le _, hb, by omega, hRd, by omega, hx, fun k' h => absurd h (Nat.not_lt_zero _), rfl⟩
   ·rintro I2 m τ ⟨k, o2, out2, R2, rfl, hk, hb2, ho2, hR2, hRl2, hx2, hp5, rfl⟩ hI2
    have hol2 := hb2.len;simp only [c102l13, c102r7, go_sem, ↓reduceIte, Nat.reduceAdd];refine ⟨fun hlt => ?_, fun hge => ?_⟩
    ·have hk : k < N.length := by omega
     simp only [c102r8, c102r9, go_sem, ↓reduceIte, Nat.reduceAdd, Nat.reduceLeDiff];refine ⟨hm.key a k ha hk, hm.nod, hm.look ha hk ?_⟩
     by_cases hT : 0 < T a k
     ·simp only [hT, go_sem]
      refine qa (by simp only [qaM, ints, go_sem]) (k91 (xs := out2) (v := k)) (.inl rfl) ?_
      by_cases hin : (k : Int) ∈ out2
      ·simp only [hin, c102r12, c102l13m, go_sem, ↓reduceIte, reduceCtorEq, Nat.reduceAdd, Nat.reduceLeDiff]
       exact ⟨qb (by omega) (by omega), hI2 (N.length - (k + 1)) _ (by omega) ⟨k + 1, o2, out2, R2, rfl, by omega, hb2, ho2, hR2, hRl2, hx2, fun k' h hg => if e : k' = k then by rw [e]; exact hin else hp5 k' (by omega) hg, rfl⟩⟩
      ·have e2 : out2.map (SV.int .i64) ++ flatE [SV.int .i64 (k : Int)] = (out2 ++ [(k : Int)]).map (SV.int .i64) := by rw [List.map_append]; rfl
       have e3 : (R2.map (SV.int .i64)).drop o2 ++ flatE [SV.int .i64 (k : Int)] = (R2.drop o2 ++ [(k : Int)]).map (SV.int .i64) := by rw [List.map_append, List.map_drop]; rfl
       have hb3 : Bfs g N.length i off (out2 ++ [(k : Int)]) := ⟨by
         rw [List.nodup_append];refine ⟨hb2.nod, by simp, fun x hx y hy e => ?_⟩
         rw [List.mem_singleton] at hy;subst hy;subst e;exact hin hx, fun x hx => by
         rw [List.mem_append, List.mem_singleton] at hx
         rcases hx with hx | rfl
         ·exact hb2.mem x hx
         ·refine ⟨k, rfl, hk, ?_⟩
          have hgk : g a k = true := by rw [hg']; exact decide_eq_true hT
          rcases har with rfl | har
          ·exact .one hgk hk
          ·exact .more har hgk hk, by rw [List.length_append]; omega, fun j x hj hx k' hk' hg2 => by
         rw [<- List.cons_append, List.getElem?_append_left (by simp; omega)] at hx
         exact List.mem_append_left _ (hb2.all j x hj hx k' hk' hg2)⟩
       simp only [hin, c102r10, Nat.reduceBEq, Bool.false_eq_true, go_sem, ↓reduceIte, Nat.reduceAdd, Nat.reduceLeDiff, Nat.reduceMul];refine ⟨by decide, by decide, rfl, qr, qr, by rw [Nat.mul_one], by omega, by omega, ?_⟩
       rw [e2];simp only [c102r11, Nat.reduceBEq, Bool.false_eq_true, go_sem, ↓reduceIte, Nat.reduceAdd, Nat.reduceMul];refine ⟨by decide, by decide, rfl, qr, qr, by rw [Nat.mul_one]; omega, by omega, by omega, ?_⟩
       rw [e3];simp only [c102r12, c102l13m, go_sem, ↓reduceIte, reduceCtorEq, Nat.reduceLeDiff];refine ⟨qb (by omega) (by omega), hI2 (N.length - (k + 1)) _ (by omega) ⟨k + 1, 0, out2 ++ [(k : Int)], R2.drop o2 ++ [(k : Int)], rfl, by omega, hb3, by rw [List.length_append]; omega, ?_, ?_, ?_, fun k' h hg => ?_, ?_⟩⟩
       ·rw [List.drop_zero, hR2, <- List.cons_append, List.drop_append_of_le_length (by simp; omega)]
       ·rw [List.length_append, List.length_append, List.length_drop, List.length_singleton]; omega
       ·rw [<- List.cons_append, List.getElem?_append_left (by simp; omega)]; exact hx2
       ·by_cases e : k' = k
        ·rw [e]; simp
        ·exact List.mem_append_left _ (hp5 k' (by omega) hg)
       ·rw [List.length_append, List.length_singleton, show out2.length + 1 - off = out2.length - off + 1 by omega]; rfl
     ·simp only [hT, c102r12, c102l13m, go_sem, ↓reduceIte, reduceCtorEq, Nat.reduceAdd, Nat.reduceLeDiff]
      exact ⟨qb (by omega) (by omega), hI2 (N.length - (k + 1)) _ (by omega) ⟨k + 1, o2, out2, R2, rfl, by omega, hb2, ho2, hR2, hRl2, hx2, fun k' h hg => if e : k' = k then absurd (by rw [e, hg'] at hg; exact of_decide_eq_true hg) hT else hp5 k' (by omega) hg, rfl⟩⟩
    ·have hke : k = N.length := by omega
     subst hke;simp only [c102l14m, go_sem, ↓reduceIte, reduceCtorEq, Nat.reduceLeDiff];refine hI (N.length + 1 - (off + 1)) _ (by omega) ⟨off + 1, o2, out2, R2, rfl, ⟨hb2.nod, hb2.mem, by omega, fun j x hj hxj k' hk' hg2 => ?_⟩, hR2, by omega, ?_⟩
     ·by_cases e : j = off
      ·rw [e, hx2] at hxj
       cases hxj
       exact hp5 k' hk' (by rw [Int.toNat_natCast] at hg2; exact hg2)
      ·exact hb2.all j x (by omega) hxj k' hk' hg2
     ·rw [show out2.length + 1 - (off + 1) = out2.length - off by omega]
      try rfl
  ·have hoe : off = out.length + 1 := by omega
   subst hoe;have hsrt := hb.done;simp only [c102r15, go_sem];rw [qkg];refine ⟨_, _, k112 (b := 1) (L := out) rfl (by omega), ?_⟩
   rw [hsrt];have hl : (rchL g N.length i).length = out.length := by rw [<- hsrt]; exact List.length_mergeSort _
   rw [<- hl];simp only [c102r16, finN, newOf, qF, go_sem, reduceCtorEq, Nat.reduceAdd];refine .inr ⟨_, rfl, by simpa using hne, by omega, by simp, ?_⟩
   rw [Nat.mul_one, List.take_of_length_le (by simp)]
theorem qkj {P : Program} {f : FuncId} {args xs : List SV} (h : E.FnNew P f 1 (args.map .s) xs) (hfl : flatE xs = xs) (hff : xs.all SV.flat1 = true) : E.Fn P f args [.slice xs] := by
 intro M w vs hM hv
 have key : ∀ {l : List SV} {xs : List Value}, VRelL M l xs -> FRel M [] (l.map .s) xs := by
  intro l
  induction l with
  | nil => intro xs h; exact h
  | cons v l ih =>
   rintro xs ⟨y, ys, rfl, h1, h2⟩;exact ⟨y, ys, rfl, qi.2 h1, ih h2⟩
 refine (h M w vs hM (key hv)).mono fun e w' => ?_
 rintro ⟨ad, cap, M', he, hle, hh, ht, hn, hlc, hcm, hnil, hcap⟩
 rcases hcap with h0 | ⟨cb, sh, c, T, rfl, hcb, hheap, hfit, hfree, hrel⟩
 ·have hy : xs = [] := List.length_eq_zero_iff.1 (by omega)
  subst hy;refine ⟨[_], M', he, hle, hh, ⟨_, [], rfl, ⟨[_], ?_, rfl⟩, rfl⟩, ht, hn⟩;simp only [CRel];exact ⟨_, _, _, rfl, rfl, hlc, hcm, .inl trivial⟩
 ·obtain ⟨h1, h2, h3⟩ := qfb hM ht hcb hheap
  exact ⟨[_], _, he, h1, h3, ⟨_, [], rfl, ⟨[_], qfc hfl hff hlc hcm hrel, rfl⟩, rfl⟩, ht, h2⟩
theorem qcS {l : List Int} : (l.map (SV.int .i64)).all SV.flat1 = true := by
 rw [List.all_map]; simp [Function.comp_def, SV.flat1]
theorem k102 {s : Int} {N : List (List Int)} {p : List Int} {ks vs : List SV} {parts : List (List Int)} {T : Nat -> Nat -> Int} {i : Nat} (hm : MapG ks vs N.length T) (hn : N.length <= 100) (hi : i < N.length) (hne : rchL (fun a b => decide (0 < T a b)) N.length i ≠ []) :
  E.Fn Tryz.prog 102 [bnV s N p ks vs parts, .int .i64 i] [ints (rchL (fun a b => decide (0 < T a b)) N.length i)] := qkj (k87n hm hn hi hne) qF qcS
theorem fr87 {s : Int} {N : List (List Int)} {p : List Int} {ks vs : List SV} {parts : List (List Int)} {T : Nat -> Nat -> Int} {i : Nat} (hm : MapG ks vs N.length T) (hn : N.length <= 100) (hi : i < N.length) (hne : rchL (fun a b => decide (0 < T a b)) N.length i ≠ []) :
  freshR Tryz.prog 102 [bnV s N p ks vs parts, .int .i64 i] [ints (rchL (fun a b => decide (0 < T a b)) N.length i)] := ⟨_, rfl, k87n hm hn hi hne, qF, qcS⟩
@[go_sem] theorem qt5 {H : List ABlock} {n b off : Nat} {g : Bool} {k : AK} : ldOK H n g k (.loc b off) = ldOB H off n g k H[b]? := propext Iff.rfl
@[go_sem] theorem qt6 {H : List ABlock} {n : Nat} {g : Bool} {k : AK} {cs : List SV} : ldOK H n g k (.s (.ptr cs)) = partS H cs 0 n k g := propext Iff.rfl
@[go_sem] theorem qt7 {H : List ABlock} {n off : Nat} {g : Bool} {k : AK} {cs : List LV} : ldOB H off n g k (some (.obj cs)) = partL H cs off n k g := propext Iff.rfl
@[go_sem] theorem qt8 {P : Program} {n0 t off : Nat} {a : ACode} {fr : List LV} {H : List ABlock} {Q : AExit -> AState -> Prop} : awp P n0 (.zap t off a) ⟨fr, H⟩ Q = zapK H off (fun H' => awp P n0 a { fr := fr, hp := H' } Q) (fget fr t) := propext Iff.rfl
def pr (p : Int × Int) : SV := .agg [.int .i64 p.1, .int .i64 p.2]
theorem qkk {p q : Int × Int} (h : pr p = pr q) : p = q := by
 simp only [pr, SV.agg.injEq, List.cons.injEq, SV.int.injEq, true_and, and_true] at h;exact Prod.ext h.1 h.2
theorem qcT {p : Int × Int} : ∀ {cl : List (Int × Int)}, (p ∉ cl -> mFind (pr p) (cl.map pr) = none) /\ (p ∈ cl -> ∃ i, mFind (pr p) (cl.map pr) = some i /\ cl[i]? = some p)
 | [] => by simp [mFind]
 | q :: cl => by
  obtain ⟨h1, h2⟩ := qcT (p := p) (cl := cl);simp only [List.map_cons, mFind]
  by_cases h : p = q
  ·subst h
   simp
  ·have hne : ¬ pr p = pr q := fun e => h (qkk e)
   rw [if_neg hne];refine ⟨fun hn => ?_, fun hm => ?_⟩
   ·rw [h1 (fun hm => hn (by simp [hm]))]; rfl
   ·obtain ⟨i, h3, h4⟩ := h2 (by simpa [h] using hm)
    exact ⟨i + 1, by rw [h3]; rfl, by simpa using h4⟩
theorem qeo {p : Int × Int} {cl : List (Int × Int)} : keyOk [.int .i64, .int .i64] (pr p) (cl.map pr) := by
 refine ⟨⟨rfl, rfl⟩, fun x hx => ?_⟩
 obtain ⟨q, _, rfl⟩ := List.mem_map.1 hx;exact ⟨rfl, rfl⟩
theorem qlJ {cl : List (Int × Int)} (h : cl.Nodup) : (cl.map pr).Nodup := by
 rw [List.nodup_iff_pairwise_ne] at h ⊢;rw [List.pairwise_map];exact h.imp fun hne e => hne (qkk e)
theorem qdz {α β : Type} {f : α -> β} : ∀ {l : List α} {i : Nat}, (l.map f).eraseIdx i = (l.eraseIdx i).map f
 | [], _ => rfl
 | _ :: _, 0 => rfl
 | a :: l, i + 1 => by
  rw [List.map_cons, List.eraseIdx_cons_succ, List.eraseIdx_cons_succ, List.map_cons, qdz]
theorem qgA {a b c d e x : LV} : splice [a, b, c, d, e] 4 [x] = [a, b, c, d, x] := rfl
theorem qb4 {xs : List SV} : ∀ e ∈ [SV.slice xs], e.cells.length = 1 := by
 intro e he;rw [List.mem_singleton] at he;subst he; rfl
theorem ql {a b x y : LV} : splice [a, b] 0 [x, y] = [x, y] := rfl
theorem qne {x y : SV} : frzAll (frzV [] 3) [.s x, .s y] = some [x, y] := rfl
theorem qgB {ks vs : List SV} {H : List ABlock} : frzV (.map ks vs :: H) 3 (.mp 0) = some (.map ks vs) := rfl
abbrev Ent := (Int × Int) × Int
def kK (L : List Ent) : List SV := (L.map (·.1)).map pr
def kV (L : List Ent) : List SV := L.map fun z => .int .i64 z.2
theorem qnf {L : List Ent} {z : Ent} : kK (L ++ [z]) = kK L ++ [pr z.1] := by unfold kK; rw [List.map_append, List.map_append]; rfl
theorem qng {L : List Ent} {z : Ent} : kV (L ++ [z]) = kV L ++ [.int .i64 z.2] := by unfold kV; rw [List.map_append]; rfl
def rowE (i : Nat) (l : List Int) : List Ent := l.zipIdx.map fun x => (((i : Int), (x.2 : Int)), x.1)
def allE (N : List (List Int)) : List Ent := N.zipIdx.flatMap fun x => rowE x.2 x.1
theorem qfE {i : Nat} {l : List Int} {k : Nat} {v : Int} (h : l[k]? = some v) : rowE i (l.take (k + 1)) = rowE i (l.take k) ++ [(((i : Int), (k : Int)), v)] := by
 have hk := (List.getElem?_eq_some_iff.1 h).1;unfold rowE;rw [List.take_succ, h, List.zipIdx_append, List.map_append, List.length_take, Nat.min_eq_left (by omega)]
 simp
theorem qfF {N : List (List Int)} {i : Nat} {l : List Int} (h : N[i]? = some l) : allE (N.take (i + 1)) = allE (N.take i) ++ rowE i l := by
 have hk := (List.getElem?_eq_some_iff.1 h).1;unfold allE;rw [List.take_succ, h, List.zipIdx_append, List.flatMap_append, List.length_take, Nat.min_eq_left (by omega)]
 simp
theorem qbR {i : Nat} {l : List Int} {z : Ent} : z ∈ rowE i l ↔ ∃ k : Nat, z.1 = ((i : Int), (k : Int)) /\ l[k]? = some z.2 := by
 unfold rowE;rw [List.mem_map];constructor
 ·rintro ⟨⟨v, k⟩, h, rfl⟩
  exact ⟨k, rfl, by simpa using List.mem_zipIdx_iff_getElem?.1 h⟩
 ·rintro ⟨k, h1, h2⟩
  exact ⟨(z.2, k), List.mem_zipIdx_iff_getElem?.2 (by simpa using h2), by rw [<- h1]⟩
theorem qaZ {N : List (List Int)} {z : Ent} : z ∈ allE N ↔ ∃ (i k : Nat) (l : List Int), z.1 = ((i : Int), (k : Int)) /\ N[i]? = some l /\ l[k]? = some z.2 := by
 unfold allE;rw [List.mem_flatMap];constructor
 ·rintro ⟨⟨l, i⟩, h, hz⟩
  obtain ⟨k, h1, h2⟩ := qbR.1 hz;exact ⟨i, k, l, h1, by simpa using List.mem_zipIdx_iff_getElem?.1 h, h2⟩
 ·rintro ⟨i, k, l, h1, h2, h3⟩
  exact ⟨(l, i), List.mem_zipIdx_iff_getElem?.2 (by simpa using h2), qbR.2 ⟨k, h1, h3⟩⟩
theorem qgC {i : Nat} {l : List Int} : ∀ k ≤ l.length, ((rowE i (l.take k)).map (·.1)).Nodup
 | 0, _ => by simp [rowE]
 | k + 1, hk => by
  have hy : l[k]? = some l[k] := List.getElem?_eq_getElem (by omega)
  rw [qfE hy, List.map_append, List.nodup_append];refine ⟨qgC k (by omega), by simp, fun x hx y hy2 e => ?_⟩
  obtain ⟨z, hz, rfl⟩ := List.mem_map.1 hx;obtain ⟨b, h1, h2⟩ := qbR.1 hz;have := (List.getElem?_eq_some_iff.1 h2).1;rw [List.length_take] at this;simp only [List.map_cons, List.map_nil, List.mem_singleton] at hy2;rw [hy2, h1, Prod.mk.injEq] at e;omega
theorem qep {N : List (List Int)} : ∀ i ≤ N.length, ((allE (N.take i)).map (·.1)).Nodup
 | 0, _ => by simp [allE]
 | i + 1, hi => by
  have hx : N[i]? = some N[i] := List.getElem?_eq_getElem (by omega)
  have hr := qgC (i := i) (l := N[i]) N[i].length (Nat.le_refl _);rw [List.take_length] at hr;rw [qfF hx, List.map_append, List.nodup_append];refine ⟨qep i (by omega), hr, fun x hx y hy e => ?_⟩
  obtain ⟨z, hz, rfl⟩ := List.mem_map.1 hx;obtain ⟨w, hw, rfl⟩ := List.mem_map.1 hy;obtain ⟨a, b, l2, h1, h2, _⟩ := qaZ.1 hz;obtain ⟨c, h3, _⟩ := qbR.1 hw;have := (List.getElem?_eq_some_iff.1 h2).1;rw [List.length_take] at this;rw [h1, h3, Prod.mk.injEq] at e;omega
theorem qgD {α : Type} {f : α -> Nat} : ∀ {l : List α} {i : Nat} {z : α}, (l.map f).Nodup -> l[i]? = some z -> l.eraseIdx i = l.filter fun y => decide (f y ≠ f z)
 | [], i, z, _, h => by simp at h
 | x :: l, 0, z, hn, h => by
  simp only [List.getElem?_cons_zero, Option.some.injEq] at h;subst h;simp only [List.map_cons, List.nodup_cons] at hn;rw [List.eraseIdx_cons_zero, List.filter_cons_of_neg (by simp), List.filter_eq_self.2]
  intro y hy;simp only [decide_eq_true_eq];exact fun e => hn.1 (List.mem_map.2 ⟨y, hy, e⟩)
 | x :: l, i + 1, z, hn, h => by
  simp only [List.getElem?_cons_succ] at h;simp only [List.map_cons, List.nodup_cons] at hn;rw [List.eraseIdx_cons_succ, List.filter_cons_of_pos, qgD hn.2 h];simp only [decide_eq_true_eq];exact fun e => hn.1 (List.mem_map.2 ⟨z, List.mem_of_getElem? h, e.symm⟩)
def swp (Z : List (Ent × Nat)) (S : List Nat) : List (Ent × Nat) := Z.filter fun z => !decide (z.2 ∈ S) || decide (z.1.2 ≠ 0)
def lft (Z : List (Ent × Nat)) (S : List Nat) : Nat := (Z.filter fun z => !decide (z.2 ∈ S)).length
theorem qnh {Z : List (Ent × Nat)} : swp Z [] = Z := by
 unfold swp; rw [List.filter_eq_self.2]; simp
theorem qgE {α β : Type} {f : α -> β} : ∀ {l : List α}, (l.map f).Nodup -> ∀ x ∈ l, ∀ y ∈ l, f x = f y -> x = y
 | [], _, x, hx, _, _, _ => by cases hx
 | a :: l, hn, x, hx, y, hy, e => by
  simp only [List.map_cons, List.nodup_cons] at hn
  rcases List.mem_cons.1 hx with h1 | h1 <;> rcases List.mem_cons.1 hy with h2 | h2
  ·rw [h1, h2]
  ·subst h1; exact absurd (List.mem_map.2 ⟨y, h2, e.symm⟩) hn.1
  ·subst h2; exact absurd (List.mem_map.2 ⟨x, h1, e⟩) hn.1
  ·exact qgE hn.2 x h1 y h2 e
theorem qlK {Z : List (Ent × Nat)} {S : List Nat} {z : Ent × Nat} (hn : (Z.map (·.2)).Nodup) (hz : z ∈ Z) (h : z.1.2 ≠ 0) : swp Z (z.2 :: S) = swp Z S := by
 unfold swp;refine List.filter_congr fun y hy => ?_
 by_cases e : y.2 = z.2
 ·have := qgE (f := fun z : Ent × Nat => z.2) hn y hy z hz e
  subst this;simp [h]
 ·simp [e]
theorem qni {Z : List (Ent × Nat)} {S : List Nat} {z : Ent × Nat} {i : Nat} (hn : (Z.map (·.2)).Nodup) (hz : (swp Z S)[i]? = some z) (h : z.1.2 = 0) : swp Z (z.2 :: S) = (swp Z S).eraseIdx i := by
 have hm : z ∈ Z := (List.mem_filter.1 (List.mem_of_getElem? hz)).1;have he := qgD (f := fun z : Ent × Nat => z.2) (hn.sublist (List.Sublist.map _ List.filter_sublist)) hz
 refine Eq.trans ?_ he.symm;unfold swp;rw [List.filter_filter];refine List.filter_congr fun y hy => ?_
 by_cases e : y.2 = z.2
 ·have := qgE (f := fun z : Ent × Nat => z.2) hn y hy z hm e
  subst this;simp [h]
 ·simp [e]
theorem qoD {Z : List (Ent × Nat)} {S : List Nat} {z : Ent × Nat} (hz : z ∈ Z) (h : z.2 ∉ S) : lft Z (z.2 :: S) < lft Z S := by
 unfold lft
 have e : (Z.filter fun y => !decide (y.2 ∈ z.2 :: S)) = (Z.filter fun y => !decide (y.2 ∈ S)).filter fun y => decide (y.2 ≠ z.2) := by
  rw [List.filter_filter];refine List.filter_congr fun y _ => ?_
  simp [Bool.and_comm]
 rw [e];refine Nat.lt_of_le_of_ne (List.length_filter_le _ _) fun he => ?_
 have h1 := List.length_filter_eq_length_iff.1 he z (List.mem_filter.2 ⟨hz, by simpa using h⟩)
 simp at h1
theorem qnj {Z : List (Ent × Nat)} {S : List Nat} (h : ∀ s ∈ (swp Z S).map (·.2), s ∈ S) : swp Z S = Z.filter fun z => decide (z.1.2 ≠ 0) := by
 unfold swp at *;refine List.filter_congr fun y hy => ?_
 by_cases hs : y.2 ∈ S
 ·simp [hs]
 ·exact absurd (h y.2 (List.mem_map.2 ⟨y, List.mem_filter.2 ⟨hy, by simp [hs]⟩, rfl⟩)) hs
def tn (N : List (List Int)) (i k : Nat) : Int := ((N[i]?).getD [])[k]?.getD 0
def gr (N : List (List Int)) (i k : Nat) : Bool := decide (0 < tn N i k)
def IsP (g : Nat -> Nat -> Bool) (n i : Nat) : Prop := Reach g n i i /\ ∀ k, Reach g n i k -> i <= k /\ rchL g n k = rchL g n i
open Classical in
noncomputable def partsT (g : Nat -> Nat -> Bool) (n m : Nat) : List (List Int) := ((List.range m).filter fun i => decide (IsP g n i)).map (rchL g n)
theorem qgF {g : Nat -> Nat -> Bool} {n i : Nat} {x : Int} : x ∈ rchL g n i ↔ ∃ k : Nat, x = k /\ Reach g n i k := by
 unfold rchL;rw [List.mem_map];constructor
 ·rintro ⟨k, hk, rfl⟩
  obtain ⟨_, h⟩ := List.mem_filter.1 hk;exact ⟨k, rfl, by simpa using h⟩
 ·rintro ⟨k, rfl, h⟩
  refine ⟨k, List.mem_filter.2 ⟨List.mem_range.2 ?_, by simpa using h⟩, rfl⟩
  cases h with
  | one _ h => exact h
  | more _ _ h => exact h
theorem Reach.lt {g : Nat -> Nat -> Bool} {n i k : Nat} (h : Reach g n i k) : k < n := by
 cases h with
 | one _ h => exact h
 | more _ _ h => exact h
theorem qlL {g : Nat -> Nat -> Bool} {n i : Nat} : (rchL g n i).length <= n := by
 unfold rchL;rw [List.length_map];exact Nat.le_trans (List.length_filter_le _ _) (by simp)
theorem qbp {g : Nat -> Nat -> Bool} {n m : Nat} : (IsP g n m -> partsT g n (m + 1) = partsT g n m ++ [rchL g n m]) /\ (¬ IsP g n m -> partsT g n (m + 1) = partsT g n m) := by
 unfold partsT;constructor
 ·intro h
  rw [List.range_succ, List.filter_append, List.map_append, List.filter_cons_of_pos (by simpa using h)]; rfl
 ·intro h
  rw [List.range_succ, List.filter_append, List.map_append, List.filter_cons_of_neg (by simpa using h)]; simp
def turnsL (N : List (List Int)) : List Ent := (allE N).filter fun z => decide (z.2 ≠ 0)
theorem qkl {N : List (List Int)} : ((turnsL N).map (·.1)).Nodup := by
 have := qep (N := N) N.length (Nat.le_refl _);rw [List.take_length] at this;exact this.sublist (List.Sublist.map _ List.filter_sublist)
theorem qfG {N : List (List Int)} {i k : Nat} {v : Int} : ((((i : Int), (k : Int)), v) : Ent) ∈ turnsL N ↔ i < N.length /\ k < ((N[i]?).getD []).length /\ v = tn N i k /\ v ≠ 0 := by
 unfold turnsL tn;rw [List.mem_filter, qaZ];simp only [decide_eq_true_eq, Prod.mk.injEq];constructor
 ·rintro ⟨⟨a, b, l, ⟨h1, h2⟩, h3, h4⟩, h5⟩
  have h1 : i = a := by omega
  have h2 : k = b := by omega
  subst h1; subst h2;rw [h3];simp only [Option.getD_some, h4];exact ⟨(List.getElem?_eq_some_iff.1 h3).1, (List.getElem?_eq_some_iff.1 h4).1, trivial, h5⟩
 ·rintro ⟨h1, h2, rfl, h5⟩
  refine ⟨⟨i, k, N[i], ⟨rfl, rfl⟩, List.getElem?_eq_getElem h1, ?_⟩, h5⟩;rw [List.getElem?_eq_getElem h1] at h2 ⊢;simp only [Option.getD_some] at h2 ⊢;rw [List.getElem?_eq_getElem h2]; rfl
theorem qbu {N : List (List Int)} (hN : ∀ l ∈ N, l.length = N.length) : MapG (kK (turnsL N)) (kV (turnsL N)) N.length (tn N) := by
 refine ⟨qlJ qkl, fun i k _ _ => qeo (p := ((i : Int), (k : Int))), fun i k hi hk => ?_⟩
 have hl : ((N[i]?).getD []).length = N.length := by
  rw [List.getElem?_eq_getElem hi];exact hN _ (List.getElem_mem hi)
 have hf := qcT (p := ((i : Int), (k : Int))) (cl := (turnsL N).map (·.1))
 by_cases hm : ((i : Int), (k : Int)) ∈ (turnsL N).map (·.1)
 ·obtain ⟨j, h1, h2⟩ := hf.2 hm
  have h1 : mFind (tk i k) (kK (turnsL N)) = some j := h1;rw [h1]
  show (kV (turnsL N))[j]? = _
  rw [List.getElem?_map] at h2
  cases hz : (turnsL N)[j]? with
  | none => rw [hz] at h2; cases h2
  | some z =>
   rw [hz] at h2;have h3 : z.1 = ((i : Int), (k : Int)) := by simpa using h2
   obtain ⟨z1, v⟩ := z;simp only at h3;subst h3;have h4 := (qfG.1 (List.mem_of_getElem? hz)).2.2.1;unfold kV;rw [List.getElem?_map, hz, h4]; rfl
 ·have h1 : mFind (tk i k) (kK (turnsL N)) = none := hf.1 hm
  rw [h1]
  show tn N i k = 0
  by_cases h0 : tn N i k = 0
  ·exact h0
  ·exact absurd (List.mem_map.2 ⟨(((i : Int), (k : Int)), tn N i k), qfG.2 ⟨hi, by omega, rfl, h0⟩, rfl⟩) hm
noncomputable def benchV (s : Int) (N : List (List Int)) (p : List Int) : SV := bnV s N p (kK (turnsL N)) (kV (turnsL N)) (partsT (gr N) N.length N.length)
set_option maxHeartbeats 2000000 in
theorem k68 {s : Int} {N : List (List Int)} {p : List Int} (hn : N.length <= 100) (hN : ∀ l ∈ N, l.length = N.length) (hr : ∀ i < N.length, rchL (gr N) N.length i ≠ []) :
  E.Fn Tryz.prog 68 [.agg [.int .i64 s, intss N, ints p]] [benchV s N p] := by
 refine fn_of_row qq4 ?_;simp only [FRow.start, f68, c68r0, c68r1, SV.cells, intss, ints, c68r2, go_sem, ↓reduceIte, Nat.reduceAdd, Nat.reduceSub, Nat.reduceLeDiff];intro _
 refine qe (fun m τ => ∃ i : Nat, m = N.length - i /\ i <= N.length /\
  τ = ⟨(aN::aN::aN::(.loc 1 0)::aN::aN::aN::aN::aN::aN::aN::aN::aN::aN::aN::aN::aN::aN::aN::aN::aN::aN::(.s (.slice (N.map ints)))::(aI N.length)::(aI i)::aN::aN::aN::aN::aN::aN::aZ88), [.map (kK (allE (N.take i))) (kV (allE (N.take i))), .obj [aI s, .s (.slice (N.map ints)), .s (.slice (p.map (.int .i64))), .mp 0, .full []]]⟩) N.length rfl ?_ ?_
 ·simp only [c68l12m, go_sem, ↓reduceIte, reduceCtorEq, Nat.reduceAdd, Nat.reduceLeDiff]
  exact ⟨0, rfl, Nat.zero_le _, rfl⟩
 ·rintro I m τ ⟨i, rfl, hi, rfl⟩ hI
  simp only [c68l12, c68r3, go_sem, ↓reduceIte, Nat.reduceAdd];refine ⟨fun hlt => ?_, fun hge => ?_⟩
  ·have hlt : i < N.length := by omega
   have hx : N[i]? = some N[i] := List.getElem?_eq_getElem hlt;have hl := hN _ (List.getElem_mem hlt);have hsn := qfF hx;generalize N[i] = l at hx hl hsn;simp only [c68r4, hx, ints, c68r5, go_sem, Nat.reduceAdd];intro _
   refine qe (fun m τ => ∃ k : Nat, m = l.length - k /\ k <= l.length /\
    τ = ⟨(aN::aN::aN::(.loc 1 0)::(aI i)::aN::aN::aN::aN::aN::aN::aN::aN::aN::aN::aN::aN::aN::aN::aN::aN::aN::(.s (.slice (N.map ints)))::(aI N.length)::(aI i)::aN::aN::aN::aN::(.s (.slice (l.map (.int .i64))))::(aI l.length)::(aI k)::aN::aN::aN::aN::aN::aN::aN::aZ80),
     [.map (kK (allE (N.take i) ++ rowE i (l.take k))) (kV (allE (N.take i) ++ rowE i (l.take k))), .obj [aI s, .s (.slice (N.map ints)), .s (.slice (p.map (.int .i64))), .mp 0, .full []]]⟩) l.length rfl ?_ ?_
   ·simp only [c68l10m, go_sem, ↓reduceIte, reduceCtorEq, Nat.reduceAdd, Nat.reduceLeDiff]
    exact ⟨0, rfl, Nat.zero_le _, by simp [rowE]⟩
   ·rintro I2 m τ ⟨k, rfl, hk, rfl⟩ hI2
    simp only [c68l10, c68r6, go_sem, ↓reduceIte, Nat.reduceAdd];refine ⟨fun hlt => ?_, fun hge => ?_⟩
    ·have hlt : k < l.length := by omega
     have hy : l[k]? = some l[k] := List.getElem?_eq_getElem hlt;have hrs := qfE (i := i) hy
     have hnew : ((i : Int), (k : Int)) ∉ (allE (N.take i) ++ rowE i (l.take k)).map (·.1) := by
      rw [List.mem_map];rintro ⟨z, hz, e⟩
      rcases List.mem_append.1 hz with hz | hz
      ·obtain ⟨a, b, l2, h1, h2, _⟩ := qaZ.1 hz
       have := (List.getElem?_eq_some_iff.1 h2).1;rw [List.length_take] at this;rw [e, Prod.mk.injEq] at h1;omega
      ·obtain ⟨b, h1, h2⟩ := qbR.1 hz
       have := (List.getElem?_eq_some_iff.1 h2).1;rw [List.length_take] at this;rw [e, Prod.mk.injEq] at h1;omega
     generalize l[k] = v at hy hrs;have hmf : mFind (SV.agg [.int .i64 (i : Int), .int .i64 (k : Int)]) (kK (allE (N.take i) ++ rowE i (l.take k))) = none := qcT.1 hnew;have e1 : kK (allE (N.take i) ++ rowE i (l.take k)) ++ [SV.agg [.int .i64 (i : Int), .int .i64 (k : Int)]] = kK (allE (N.take i) ++ rowE i (l.take (k + 1))) := by rw [hrs, <- List.append_assoc, qnf]; rfl
     have e2 : kV (allE (N.take i) ++ rowE i (l.take k)) ++ [SV.int .i64 v] = kV (allE (N.take i) ++ rowE i (l.take (k + 1))) := by rw [hrs, <- List.append_assoc, qng]
     simp only [c68r7, hy, c68r8, SV.cells, hmf, mPut, e1, e2, c68r9, c68l10m, go_sem, ↓reduceIte, reduceCtorEq, Nat.reduceAdd, Nat.reduceLeDiff];refine ⟨qeo (p := ((i : Int), (k : Int))), qb (by omega) (by omega), hI2 (l.length - (k + 1)) _ (by omega) ⟨k + 1, rfl, by omega, rfl⟩⟩
    ·have hke : k = l.length := by omega
     subst hke;rw [List.take_length, <- hsn];simp only [c68r11, c68l12m, go_sem, ↓reduceIte, reduceCtorEq, Nat.reduceLeDiff];exact ⟨qb (by omega) (by omega), hI (N.length - (i + 1)) _ (by omega) ⟨i + 1, rfl, by omega, rfl⟩⟩
  ·have hie : i = N.length := by omega
   subst hie;rw [List.take_length];simp only [c68r13, go_sem, Nat.reduceAdd];intro bs bm c hbl hbn;have hbl2 : bs.length = (allE N).length := by rw [hbl]; unfold kK; simp
   have hz1 : ((allE N).zip bs).map (·.1) = allE N := List.map_fst_zip (by omega)
   have hz2 : ((allE N).zip bs).map (·.2) = bs := List.map_snd_zip (by omega)
   have hnd : (((allE N).zip bs).map (·.2)).Nodup := by rw [hz2]; exact hbn
   have hkn : (((allE N).zip bs).map fun z => z.1.1).Nodup := by
    have := qep (N := N) N.length (Nat.le_refl _);rw [List.take_length, <- hz1, List.map_map] at this;exact this
   generalize hZ : (allE N).zip bs = Z at *
   refine qe (fun m τ => ∃ S : List Nat, m = lft Z S /\
    τ = ⟨(aN::aN::aN::(.loc 1 0)::aN::aN::aN::aN::aN::aN::aN::aN::aN::aN::aN::aN::aN::aN::aN::aN::aN::aN::aN::aN::aN::aN::aN::aN::aN::aN::aN::aN::aN::aN::aN::aN::aN::aN::aN::aN::aN::aN::aN::aN::aN::aN::aN::aN::aN::aN::(.loc 2 0)::aN::aN::aN::aN::aZ64), [.mapc (kK ((swp Z S).map (·.1))) (kV ((swp Z S).map (·.1))) ((swp Z S).map (·.2)) bm c, .obj [aI s, .s (.slice (N.map ints)), .s (.slice (p.map (.int .i64))), .mp 0, .full []], .mitx 0 bm c S]⟩) (lft Z []) rfl ?_ ?_
   ·simp only [c68l18m, go_sem, ↓reduceIte, reduceCtorEq, Nat.reduceAdd, Nat.reduceLeDiff]
    exact ⟨[], rfl, by rw [qnh, hz1, hz2]⟩
   ·rintro I m τ ⟨S, rfl, rfl⟩ hI
    simp only [c68l18, c68r14, go_sem, ↓reduceIte, Nat.reduceAdd];refine ⟨fun hend => ?_, fun i st key v hk hv hs hnS => ?_⟩
    ·have hse := qnj hend
     have hfl : (swp Z S).map (·.1) = turnsL N := by
      unfold turnsL;rw [hse, <- hz1, List.filter_map]; rfl
     simp only [hfl];have hmg := qbu hN;simp only [c68r19, go_sem];intro _
     refine qe (fun m τ => ∃ (i : Nat) (pc : LV), m = N.length - i /\ i <= N.length /\ (pc = .full [] /\ partsT (gr N) N.length i = [] \/ pc = .s (intss (partsT (gr N) N.length i))) /\
      τ = ⟨(aN::aN::aN::(.loc 1 0)::aN::aN::aN::aN::aN::aN::aN::aN::aN::aN::aN::aN::aN::aN::aN::aN::aN::aN::aN::aN::aN::aN::aN::aN::aN::aN::aN::aN::aN::aN::aN::aN::aN::aN::aN::aN::aN::aN::aN::aN::aN::aN::aN::aN::aN::aN::aN::aN::aN::aN::aN::aN::aN::aN::aN::aN::aN::aN::aN::aN::aN::aN::aN::aN::(aI N.length)::(aI i)::aN::aZ48), [.map (kK (turnsL N)) (kV (turnsL N)), .obj [aI s, .s (.slice (N.map ints)), .s (.slice (p.map (.int .i64))), .mp 0, pc], .mitx 0 bm c S]⟩) N.length rfl ?_ ?_
     ·simp only [c68l32m, go_sem, ↓reduceIte, reduceCtorEq, Nat.reduceAdd, Nat.reduceLeDiff]
      exact ⟨0, _, rfl, Nat.zero_le _, .inl ⟨rfl, rfl⟩, rfl⟩
     ·rintro I m τ ⟨i, pc, rfl, hi, hpc, rfl⟩ hI
      have hfz : ∀ H, frzV H 3 pc = some (intss (partsT (gr N) N.length i)) := fun H => by
       rcases hpc with ⟨rfl, hP⟩ | rfl
       ·rw [hP]; rfl
       ·rfl
      have hfg : ∀ f : Nat -> Bool, fgt f pc = pc := fun f => by rcases hpc with ⟨rfl, hP⟩ | rfl <;> rfl
      have hptl : (partsT (gr N) N.length i).length <= 100 := by
       unfold partsT;rw [List.length_map];refine Nat.le_trans (List.length_filter_le _ _) ?_;rw [List.length_range]; omega
      simp only [c68l32, c68r20, go_sem, ↓reduceIte, Nat.reduceAdd];refine ⟨fun hlt => ?_, fun hge => ?_⟩
      ·have hi : i < N.length := by omega
       have hri := hr i hi;simp only [c68r21, c68r22, go_sem, Nat.reduceAdd];have h87 : ∀ {parts : List (List Int)} {k : Nat}, k < N.length -> E.Fn Tryz.prog 102 [bnV s N p (kK (turnsL N)) (kV (turnsL N)) parts, .int .i64 k] [ints (rchL (gr N) N.length k)] := fun hk => k102 hmg hn hk (hr _ hk)
       have hf87 : ∀ {parts : List (List Int)} {k : Nat}, k < N.length -> freshR Tryz.prog 102 [bnV s N p (kK (turnsL N)) (kV (turnsL N)) parts, .int .i64 k] [ints (rchL (gr N) N.length k)] := fun hk => fr87 hmg hn hk (hr _ hk)
       refine qa (by simp only [qgB, bnV, intss, ints, hfz, go_sem]) (h87 (parts := partsT (gr N) N.length i) hi) (.inr (.inr (hf87 hi))) ?_
       have hpl := qlL (g := gr N) (n := N.length) (i := i);have hpm := fun x => qgF (g := gr N) (n := N.length) (i := i) (x := x)
       generalize hpt : rchL (gr N) N.length i = part at *;simp only [c68r23, ints, go_sem, Nat.reduceAdd];intro _
       refine qe (fun m τ => ∃ j : Nat, m = part.length - j /\ j <= part.length /\ (∀ k : Nat, (k : Int) ∈ part.take j -> i <= k /\ rchL (gr N) N.length k = part) /\
        τ = ⟨(aN::aN::aN::(.loc 1 0)::aN::aN::aN::aN::aN::aN::(aI i)::(.s (.slice (part.map (.int .i64))))::aN::aN::aN::aN::aN::aN::aN::aN::aN::aN::aN::aN::aN::aN::aN::aN::aN::aN::aN::aN::aN::aN::aN::aN::aN::aN::aN::aN::aN::aN::aN::aN::aN::aN::aN::aN::aN::aN::aN::aN::aN::aN::aN::aN::aN::aN::aN::aN::aN::aN::aN::aN::aN::aN::aN::aN::(aI N.length)::(aI i)::aN::aN::aN::aN::aN::(.s (.slice (part.map (.int .i64))))::(aI part.length)::(aI j)::aN::aZ40), [.map (kK (turnsL N)) (kV (turnsL N)), .obj [aI s, .s (.slice (N.map ints)), .s (.slice (p.map (.int .i64))), .mp 0, pc], .mitx 0 bm c S]⟩) part.length rfl ?_ ?_
       ·simp only [c68l28m, hfg, go_sem, ↓reduceIte, reduceCtorEq, Nat.reduceAdd, Nat.reduceLeDiff]
        exact ⟨0, rfl, Nat.zero_le _, by simp, rfl⟩
       ·rintro I2 m τ ⟨j, rfl, hj, hall, rfl⟩ hI2
        simp only [c68l28, c68r24, go_sem, ↓reduceIte, Nat.reduceAdd];refine ⟨fun hlt => ?_, fun hge => ?_⟩
        ·have hlt : j < part.length := by omega
         have hx : part[j]? = some part[j] := List.getElem?_eq_getElem hlt;obtain ⟨k, hke, hkr⟩ := (hpm part[j]).1 (List.getElem_mem hlt);rw [hke] at hx;have hkn := hkr.lt;simp only [c68r25, hx, c68r26, Nat.reduceEqDiff, go_sem, ↓reduceIte, Nat.reduceAdd];refine ⟨fun hki => ?_, fun hki => ?_⟩
         ·have hnp : ¬ IsP (gr N) N.length i := fun h => by
           have := (h.2 k hkr).1;omega
          have hps := qbp.2 hnp;simp only [c68r31, c68l32m, hfg, go_sem, ↓reduceIte, reduceCtorEq, Nat.reduceLeDiff];exact ⟨qb (by omega) (by omega), hI (N.length - (i + 1)) _ (by omega) ⟨i + 1, pc, rfl, by omega, by rw [hps]; exact hpc, rfl⟩⟩
         ·refine qa (by simp only [qgB, bnV, intss, ints, hfz, go_sem]) (h87 (parts := partsT (gr N) N.length i) hkn) (.inr (.inr (hf87 hkn))) ?_
          simp only [go_sem];refine qa (by simp only [ints, go_sem]) (k103 (xs := rchL (gr N) N.length k) (ys := part)) (.inl rfl) ?_
          by_cases heq : rchL (gr N) N.length k = part
          ·simp only [heq, c68r27, c68l28m, hfg, go_sem, ↓reduceIte, reduceCtorEq, Nat.reduceAdd, Nat.reduceLeDiff]
           refine ⟨qb (by omega) (by omega), hI2 (part.length - (j + 1)) _ (by omega) ⟨j + 1, rfl, by omega, fun k' hk' => ?_, rfl⟩⟩
           rw [List.take_succ, hx, List.mem_append] at hk'
           rcases hk' with hk' | hk'
           ·exact hall k' hk'
           ·have e : (k' : Int) = k := by simpa using hk'
            have e : k' = k := by omega
            subst e;exact ⟨by omega, heq⟩
          ·have hnp : ¬ IsP (gr N) N.length i := fun h => heq (by rw [(h.2 k hkr).2, hpt])
           have hps := qbp.2 hnp;simp only [heq, Nat.reduceEqDiff, c68r31, c68l32m, hfg, go_sem, ↓reduceIte, reduceCtorEq, Nat.reduceAdd, Nat.reduceLeDiff];exact ⟨qb (by omega) (by omega), hI (N.length - (i + 1)) _ (by omega) ⟨i + 1, pc, rfl, by omega, by rw [hps]; exact hpc, rfl⟩⟩
        ·have hje : j = part.length := by omega
         subst hje;rw [List.take_length] at hall;simp only [c68r29, go_sem];refine qa (by simp only [ints, go_sem]) (k91 (xs := part) (v := i)) (.inl rfl) ?_
         by_cases hin : (i : Int) ∈ part
         ·have hip : IsP (gr N) N.length i := by
           obtain ⟨k, hke, hkr⟩ := (hpm i).1 hin;have hke : i = k := by omega
           subst hke
           exact ⟨hkr, fun k hk => by
            have := hall k ((hpm k).2 ⟨k, rfl, hk⟩);rw [hpt]; exact this⟩
          have hps := qbp.1 hip
          rcases hpc with ⟨rfl, hP⟩ | rfl
          ·simp only [hin, c68r30, go_sem, ↓reduceIte, Nat.reduceAdd, Nat.reduceSub, Nat.reduceMul]
           refine ⟨by decide, by decide, rfl, qb4, ⟨by simp, qb4, by simp, by simp, by decide⟩, by simp, fun _ => ?_⟩
           simp only [qgA, c68r31, c68l32m, go_sem, ↓reduceIte, reduceCtorEq, Nat.reduceLeDiff];exact ⟨qb (by omega) (by omega), hI (N.length - (i + 1)) _ (by omega) ⟨i + 1, .s (intss (partsT (gr N) N.length (i + 1))), rfl, by omega, .inr rfl, by rw [hps, hP, hpt]; rfl⟩⟩
          ·simp only [hin, c68r30, intss, go_sem, ↓reduceIte, Nat.reduceAdd, Nat.reduceMul]
           refine ⟨Nat.zero_le _, by decide, by decide, rfl, qb4, ⟨fun y hy => ?_, qb4, by rw [List.length_take, List.length_map, List.length_singleton]; omega, by rw [List.length_take, List.length_map, List.length_singleton]; omega, by decide⟩, by simp, fun _ => ?_⟩
           ·obtain ⟨l, _, rfl⟩ := List.mem_map.1 (List.mem_of_mem_take hy)
            rfl
           rw [Nat.sub_zero, List.take_of_length_le (by simp)]
           simp only [qgA, c68r31, c68l32m, go_sem, ↓reduceIte, reduceCtorEq, Nat.reduceLeDiff];refine ⟨qb (by omega) (by omega), hI (N.length - (i + 1)) _ (by omega) ⟨i + 1, .s (intss (partsT (gr N) N.length (i + 1))), rfl, by omega, .inr rfl, ?_⟩⟩
           rw [hps, hpt, intss, List.map_append]; rfl
         ·have hnp : ¬ IsP (gr N) N.length i := fun h => hin ((hpm i).2 ⟨i, rfl, h.1⟩)
          have hps := qbp.2 hnp;simp only [hin, c68r31, c68l32m, hfg, go_sem, ↓reduceIte, reduceCtorEq, Nat.reduceAdd, Nat.reduceLeDiff];exact ⟨qb (by omega) (by omega), hI (N.length - (i + 1)) _ (by omega) ⟨i + 1, pc, rfl, by omega, by rw [hps]; exact hpc, rfl⟩⟩
      ·have hie : i = N.length := by omega
       subst hie;simp only [c68r33, benchV, qgB, hfz, go_sem];rfl
    ·obtain ⟨z, hz, rfl⟩ : ∃ z, (swp Z S)[i]? = some z /\ z.2 = st := by
      cases hzz : (swp Z S)[i]? with
      | none => rw [hzz] at hs; cases hs
      | some z => rw [hzz] at hs; exact ⟨z, rfl, by simpa using hs⟩
     have hzm : z ∈ Z := (List.mem_filter.1 (List.mem_of_getElem? hz)).1
     obtain rfl : pr z.1.1 = key := by
      have hk := hk;unfold kK at hk;rw [List.getElem?_map, List.getElem?_map, List.getElem?_map, hz] at hk
      simpa using hk
     obtain rfl : SV.int .i64 z.1.2 = v := by
      have hv := hv;unfold kV at hv;rw [List.getElem?_map, List.getElem?_map, hz] at hv
      simpa using hv
     have hlt := qoD hzm hnS
     by_cases h0 : z.1.2 = 0
     ·have hmf : ∃ j, mFind (pr z.1.1) (kK ((swp Z S).map (·.1))) = some j /\ (((swp Z S).map (·.1)).map (·.1))[j]? = some z.1.1 := by
       refine qcT.2 ?_;rw [List.mem_map];exact ⟨z.1, List.mem_map.2 ⟨z, List.mem_of_getElem? hz, rfl⟩, rfl⟩
      have hji : mFind (pr z.1.1) (kK ((swp Z S).map (·.1))) = some i := by
       obtain ⟨j, h1, h2⟩ := hmf;rw [h1];refine congrArg some ?_
       have hnk : (((swp Z S).map (·.1)).map (·.1)).Nodup := by
        rw [List.map_map];exact hkn.sublist (List.Sublist.map _ List.filter_sublist)
       have h3 : (((swp Z S).map (·.1)).map (·.1))[i]? = some z.1.1 := by rw [List.getElem?_map, List.getElem?_map, hz]; rfl
       have hlt := (List.getElem?_eq_some_iff.1 h2).1;exact (List.getElem?_inj hlt hnk).1 (h2.trans h3.symm)
      have hcut := qni hnd hz h0;have e1 : (kK ((swp Z S).map (·.1))).eraseIdx i = kK ((swp Z (z.2 :: S)).map (·.1)) := by rw [hcut]; unfold kK; simp only [qdz]
      have e2 : (kV ((swp Z S).map (·.1))).eraseIdx i = kV ((swp Z (z.2 :: S)).map (·.1)) := by rw [hcut]; unfold kV; simp only [qdz]
      have e3 : ((swp Z S).map (·.2)).eraseIdx i = (swp Z (z.2 :: S)).map (·.2) := by rw [hcut]; simp only [qdz]
      simp only [c68r15, go_sem, Nat.reduceAdd];refine ⟨i, z.2, S, _, _, rfl, hk, hv, hs, rfl, ?_⟩;rw [<- show SV.agg [.int .i64 z.1.1.1, .int .i64 z.1.1.2] = pr z.1.1 from rfl] at hji;simp only [pr, SV.cells, h0, c68r16, c68r17, ql, List.take_succ_cons, List.take_zero, qne, hji, mCutC, e1, e2, e3, c68l18m, go_sem, ↓reduceIte, reduceCtorEq, Nat.reduceAdd, Nat.reduceLeDiff];exact ⟨qeo (p := z.1.1), hI (lft Z (z.2 :: S)) _ hlt ⟨z.2 :: S, rfl, rfl⟩⟩
     ·simp only [c68r15, go_sem, Nat.reduceAdd]
      refine ⟨i, z.2, S, _, _, rfl, hk, hv, hs, rfl, ?_⟩;have hkp := qlK (S := S) hnd hzm h0;simp only [pr, SV.cells, h0, c68r16, c68l18m, go_sem, ↓reduceIte, reduceCtorEq, Nat.reduceLeDiff];refine hI (lft Z (z.2 :: S)) _ hlt ⟨z.2 :: S, rfl, ?_⟩;rw [hkp]
def rB (g : Nat -> Nat -> Bool) (n i : Nat) : Nat -> List Nat
 | 0 => (List.range n).filter (g i)
 | m + 1 => (List.range n).filter fun k => decide (k ∈ rB g n i m) || (rB g n i m).any fun j => g j k
section
variable {g : Nat -> Nat -> Bool} {n i : Nat}
theorem qdS {k : Nat} : ∀ {m : Nat}, k ∈ rB g n i m -> k < n
 | 0, h => List.mem_range.1 (List.mem_filter.1 h).1
 | m + 1, h => List.mem_range.1 (List.mem_filter.1 h).1
theorem qeY {m k : Nat} (h : k ∈ rB g n i m) : k ∈ rB g n i (m + 1) := by
 rw [rB];exact List.mem_filter.2 ⟨List.mem_range.2 (qdS h), by simp [h]⟩
theorem qhS {m k : Nat} (h : k ∈ rB g n i m) : ∀ d, k ∈ rB g n i (m + d)
 | 0 => h
 | d + 1 => qeY (qhS h d)
theorem qeq {k : Nat} : ∀ {m : Nat}, k ∈ rB g n i m -> Reach g n i k
 | 0, h => .one (List.mem_filter.1 h).2 (qdS h)
 | m + 1, h => by
  rw [rB] at h;obtain ⟨hk, h2⟩ := List.mem_filter.1 h;rw [Bool.or_eq_true, decide_eq_true_eq, List.any_eq_true] at h2
  rcases h2 with h2 | ⟨j, h2, h3⟩
  ·exact qeq h2
  ·exact .more (qeq h2) h3 (List.mem_range.1 hk)
theorem qab : ∀ {m : Nat}, rB g n i m = (List.range n).filter fun k => decide (k ∈ rB g n i m)
 | 0 => by
  conv => lhs; rw [rB]
  refine List.filter_congr fun k hk => ?_
  rw [rB, Bool.eq_iff_iff, decide_eq_true_eq, List.mem_filter];exact ⟨fun h => ⟨hk, h⟩, fun h => h.2⟩
 | m + 1 => by
  conv => lhs; rw [rB]
  refine List.filter_congr fun k hk => ?_
  rw [Bool.eq_iff_iff, decide_eq_true_eq, rB, List.mem_filter];exact ⟨fun h => ⟨hk, h⟩, fun h => h.2⟩
theorem qoE {m m' : Nat} (h : ∀ k, k ∈ rB g n i m ↔ k ∈ rB g n i m') : rB g n i m = rB g n i m' := by
 rw [qab (m := m), qab (m := m')];refine List.filter_congr fun k _ => ?_
 rw [Bool.eq_iff_iff, decide_eq_true_eq, decide_eq_true_eq];exact h k
theorem qhT {m : Nat} (h : rB g n i (m + 1) = rB g n i m) : ∀ d, rB g n i (m + d) = rB g n i m
 | 0 => rfl
 | d + 1 => by
  have ih := qhT h d;rw [show m + (d + 1) = (m + d) + 1 from rfl, rB, ih];exact (show (List.range n).filter (fun k => decide (k ∈ rB g n i m) || (rB g n i m).any fun j => g j k) = rB g n i (m + 1) by rw [rB]).trans h
theorem qoF {m : Nat} (h : rB g n i (m + 1) = rB g n i m) {k : Nat} (hr : Reach g n i k) : k ∈ rB g n i m := by
 induction hr with
 | one hg hk => rw [<- Nat.zero_add m]; exact qhS (m := 0) (List.mem_filter.2 ⟨List.mem_range.2 hk, hg⟩) m
 | more _ hg hk ih =>
  rw [<- h, rB];refine List.mem_filter.2 ⟨List.mem_range.2 hk, ?_⟩;rw [Bool.or_eq_true, List.any_eq_true];exact .inr ⟨_, ih, hg⟩
theorem qlM {m : Nat} : (rB g n i m).Nodup := by
 rw [qab]; exact List.nodup_range.sublist List.filter_sublist
theorem qkm {m : Nat} : (rB g n i m).length <= n := by
 rw [qab];exact Nat.le_trans (List.length_filter_le _ _) (by simp)
theorem qnk : ∀ m, (∃ m' ≤ m, rB g n i (m' + 1) = rB g n i m') \/ m < (rB g n i (m + 1)).length := by
 have step : ∀ m, rB g n i (m + 1) ≠ rB g n i m -> (rB g n i m).length < (rB g n i (m + 1)).length := fun m hne => by
  rcases Nat.lt_or_ge (rB g n i m).length (rB g n i (m + 1)).length with h | h
  ·exact h
  ·have hs : ∀ k, k ∈ rB g n i (m + 1) -> k ∈ rB g n i m := fun k hk => by
    by_cases hin : k ∈ rB g n i m
    ·exact hin
    ·have := (List.nodup_cons.2 ⟨hin, qlM (m := m)⟩).length_le_of_subset (l₂ := rB g n i (m + 1)) (fun x hx => by
      rcases List.mem_cons.1 hx with rfl | hx
      ·exact hk
      ·exact qeY hx)
     rw [List.length_cons] at this;omega
   exact absurd (qoE fun k => ⟨hs k, qeY⟩) hne
 intro m
 induction m with
 | zero =>
  by_cases h : rB g n i 1 = rB g n i 0
  ·exact .inl ⟨0, Nat.le_refl _, h⟩
  ·exact .inr (Nat.lt_of_le_of_lt (Nat.zero_le _) (step 0 h))
 | succ m ih =>
  rcases ih with ⟨m', h1, h2⟩ | h1
  ·exact .inl ⟨m', by omega, h2⟩
  ·by_cases h : rB g n i (m + 1 + 1) = rB g n i (m + 1)
   ·exact .inl ⟨m + 1, Nat.le_refl _, h⟩
   ·have := step (m + 1) h
    exact .inr (by omega)
theorem qo {k : Nat} : Reach g n i k ↔ k ∈ rB g n i n := by
 refine ⟨fun h => ?_, qeq⟩
 rcases qnk (g := g) (n := n) (i := i) n with ⟨m', h1, h2⟩ | h1
 ·have h3 := qoF h2 h
  rw [<- qhT h2 (n - m'), show m' + (n - m') = n by omega] at h3
  exact h3
 ·have := qkm (g := g) (n := n) (i := i) (m := n + 1)
  omega
end
def rchC (g : Nat -> Nat -> Bool) (n i : Nat) : List Int := (rB g n i n).map fun k : Nat => (k : Int)
theorem qcq {g : Nat -> Nat -> Bool} {n i : Nat} : rchL g n i = rchC g n i := by
 classical
 unfold rchL rchC;rw [qab];refine congrArg _ (List.filter_congr fun k _ => ?_)
 rw [Bool.eq_iff_iff, decide_eq_true_eq, decide_eq_true_eq];exact qo
def isPC (g : Nat -> Nat -> Bool) (n i : Nat) : Bool := decide (i ∈ rB g n i n) && (rB g n i n).all fun k => decide (i <= k) && decide (rB g n k n = rB g n i n)
theorem qgG {g : Nat -> Nat -> Bool} {n i k : Nat} : rchC g n i = rchC g n k ↔ rB g n i n = rB g n k n := by
 unfold rchC;refine ⟨fun h => ?_, fun h => by rw [h]⟩
 have := congrArg (List.map Int.toNat) h
 simpa [Function.comp_def] using this
theorem qnl {g : Nat -> Nat -> Bool} {n i : Nat} : IsP g n i ↔ isPC g n i = true := by
 unfold IsP isPC;rw [Bool.and_eq_true, decide_eq_true_eq, List.all_eq_true, qo];refine and_congr Iff.rfl ?_;constructor
 ·intro h k hk
  obtain ⟨h1, h2⟩ := h k (qo.2 hk);rw [qcq, qcq, qgG] at h2;simp [h1, h2]
 ·intro h k hk
  have h1 := h k (qo.1 hk);simp only [Bool.and_eq_true, decide_eq_true_eq] at h1;rw [qcq, qcq, qgG];exact h1
def partsC (g : Nat -> Nat -> Bool) (n m : Nat) : List (List Int) := ((List.range m).filter (isPC g n)).map (rchC g n)
theorem qkn {g : Nat -> Nat -> Bool} {n m : Nat} : partsT g n m = partsC g n m := by
 classical
 unfold partsT partsC;rw [show rchL g n = rchC g n from funext fun _ => qcq]
 refine congrArg _ (List.filter_congr fun k _ => ?_)
 rw [Bool.eq_iff_iff, decide_eq_true_eq];exact qnl
def goOn (N : List (List Int)) : Prop := ∀ i < N.length, ∃ k < N.length, 0 < tn N i k
theorem goOn.ne {N : List (List Int)} (h : goOn N) : ∀ i < N.length, rchL (gr N) N.length i ≠ [] := fun i hi e => by
 obtain ⟨k, hk, hp⟩ := h i hi;have : (k : Int) ∈ rchL (gr N) N.length i := qgF.2 ⟨k, rfl, .one (by simpa [gr] using hp) hk⟩
 rw [e] at this
 cases this
def parts (N : List (List Int)) : List (List Int) := partsC (gr N) N.length N.length
def benchC (s : Int) (N : List (List Int)) (p : List Int) : SV := bnV s N p (kK (turnsL N)) (kV (turnsL N)) (parts N)
theorem qlN {s : Int} {N : List (List Int)} {p : List Int} : benchV s N p = benchC s N p := by
 unfold benchV benchC parts; rw [qkn]
theorem k68' {s : Int} {N : List (List Int)} {p : List Int} (hn : N.length <= 100) (hN : ∀ l ∈ N, l.length = N.length) (hr : goOn N) : E.Fn Tryz.prog 68 [.agg [.int .i64 s, intss N, ints p]] [benchC s N p] := by
 rw [<- qlN]; exact k68 hn hN hr.ne
end Go.Proofs.YtikfhfgdmlijeaaGreat.Sk
namespace Go.Proofs.YtikfhfgdmlijeaaGreat.Sk
open Go Go.Shelf
def dlI_ren : Go.Shelf.Ren := ⟨fun | 45 => 111 | n => n, fun | 22 => 23 | 23 => 2 | 3 => 3 | 4 => 4 | 0 => 0 | n => n, fun | n => n⟩
theorem dlI : Go.Proofs.SlLaysE.n45 Tryz.prog dlI_ren := {
 mixed := by kernel_rfl
 f45 := ⟨Tryz.f111.name, by decide, Tryz.func111.trans (congrArg some (by kernel_rfl))⟩
 t0 := Tryz.underlying0
 a0 := Tryz.isAgg0
 z0 := Tryz.sizeOf0
 v0 := Tryz.zeroValue0
 t3 := Tryz.underlying3
 a3 := Tryz.isAgg3
 z3 := Tryz.sizeOf3
 v3 := Tryz.zeroValue3
 t4 := Tryz.underlying4
 a4 := Tryz.isAgg4
 z4 := Tryz.sizeOf4
 v4 := Tryz.zeroValue4
 t22 := Tryz.underlying23
 a22 := Tryz.isAgg23
 z22 := Tryz.sizeOf23
 v22 := Tryz.zeroValue23
 a23 := Tryz.isAgg2
 z23 := Tryz.sizeOf2 }
noncomputable def dlInfo : TypeInfo := (Tryz.prog.info? 2).get (by kernel_rfl)
end Go.Proofs.YtikfhfgdmlijeaaGreat.Sk
namespace Go.Proofs.YtikfhfgdmlijeaaGreat.Sk
open Go Go.E Go.E.Sm Go.Sort Go.Shelf
set_option maxRecDepth 10000
theorem k101 {xs : List Int} (hx : xs.length <= 1000) : E.FnNew Tryz.prog 101 1 [.s (ints xs)] (xs.map (.int .i64)) := by
 refine new_of_row qou ?_;have hoc : ∀ y ∈ xs.map (SV.int .i64), y.cells.length = 1 := qaN;simp only [FRow.start, f101, c101r0, c101r1, c101r2, c101r3, ints, go_sem, Nat.reduceSub, Nat.reduceMul];refine ⟨fun he => ?_, by decide, by decide, rfl, by simp, ⟨by simp, hoc, by simp only [List.length_nil, List.length_map]; omega, by simp only [List.length_nil, List.length_map]; omega, by decide⟩, fun he => ?_, fun hne => ?_⟩
 ·rw [he]; simp [finN, newOf, fget]
 ·simp only [go_sem]
  rw [he]; simp [finN, newOf, fget]
 ·simp only [qF, go_sem]
  exact .inr ⟨rfl, _, rfl, by simp, hne, by rw [qF]; simp, by simp, by rw [qF]; simp only [Nat.mul_one, List.drop_zero]; exact (List.take_of_length_le (by simp)).symm⟩
theorem k111 {L : List Int} {i : Nat} (hi : i < L.length) (hL : L.length <= 1000) : CSem Tryz.prog 111 [.sl 0 0 L.length 1 false, aI i, aI ((i + 1 : Nat) : Int)] [.row (L.map (.int .i64))] (.sl 0 0 (L.eraseIdx i).length 1 false) [.row ((L.eraseIdx i ++ [0]).map (.int .i64))] := by
 intro M ρ w vs hS hF;obtain ⟨v0, ys, rfl, h0, v1, ys1, rfl, h1, v2, ys2, rfl, h2, hys⟩ := hF;simp only [FRel] at hys;subst hys;have g1 := h1.one rfl (by simp)
 have g2 := h2.one rfl (by simp)
 simp only [LRel, CRel, List.cons.injEq, and_true] at g1 g2;subst g1; subst g2;have g0 := h0.one rfl (by simp)
 simp only [LRel] at g0;obtain ⟨r, ad, cap, hr, hg, e0, hlc, hcm, hsz, hclip, hcap⟩ := g0;simp only [List.cons.injEq, and_true] at e0;subst e0;have hB : ([.row (L.map (.int .i64))] : List ABlock)[0]? = some (.row (L.map (.int .i64))) := rfl;obtain ⟨r', hr1, hr2⟩ := hS.spot hB;rw [hr] at hr1; cases hr1;have hI := MInv.start hS;have hlp : 0 < L.length := by omega
 have hel : (L.eraseIdx i).length = L.length - 1 := by rw [List.length_eraseIdx, if_pos hi]
 cases r with
 | gone => exact absurd rfl hg
 | empty =>
  simp only [BRel] at hr2;have : L = [] := by simpa using hr2
  rw [this] at hlp; cases hlp
 | here cb sh n =>
  simp only [BRel] at hr2;obtain ⟨c, T, hc1, hc2, hc3, hc4, hc5⟩ := hr2
  rcases hcap with hc0 | ⟨cb', sh', n', e1, e2, e3⟩
  ·omega
  cases e1
  subst e2;simp only [Nat.add_zero] at e3 ⊢;rw [List.length_map] at hc3 hc4;have hcells := (qbt L _).1 hc4
  have hHold : Sort.Holds (Value.int .i64) w cb sh L.toArray := by
   intro j hj;have hj2 : j < L.length := by simpa using hj
   refine ⟨?_, by simp [World.frozen?, hc1]⟩
   have h5 := congrArg (·[j]?) hcells;simp only [List.getElem?_take, if_pos hj2, List.getElem?_drop, Array.getElem?_toList, List.getElem?_map, List.getElem?_eq_getElem hj2, Option.map_some] at h5;rw [heap_cell? hc1, h5, getElem!_pos L.toArray j hj]; rfl
  have hcon := AnyE.slices_Delete dlI (Value.int .i64) (fun _ => rfl) 0 Tryz.zeroValue2 dlInfo (by kernel_rfl) (by kernel_rfl) cb sh cap i (i + 1) L.toArray w hHold (by simpa using hlc) hcm (by omega) (by rw [List.size_toArray]; omega)
  change Calls Tryz.prog 111 _ _ _ at hcon
  refine hcon.mono fun e w' ⟨he, m, hw⟩ => ?_
  have e4 : L.take i ++ L.drop (i + 1) ++ List.replicate (i + 1 - i) 0 = L.eraseIdx i ++ [0] := by
   rw [List.eraseIdx_eq_take_drop_succ, show i + 1 - i = 1 by omega]; rfl
  simp only [e4, List.size_toArray, show L.length - (i + 1 - i) = (L.eraseIdx i).length by omega] at he hw
  have hsl : (L.eraseIdx i ++ [0]).length = L.length := by rw [List.length_append, hel, List.length_singleton]; omega
  generalize L.eraseIdx i ++ [0] = R at *;have hA : (Sort.ahead w m).heap[cb]? = some (.cells c T (0, 0)) := hc1;have hI1 := hI.world (w' := Sort.ahead w m) rfl rfl rfl rfl (Nat.le_add_right _ _)
  have hI2 := hI1.write (B' := .row (R.map (.int .i64))) (c' := putCells (Value.int .i64) sh R.toArray c) hB hr hA hc5 (by
   simp only [BRel];refine ⟨_, T, setRow_heap _ cb c _ T _ hA, by simpa [putCells] using hc2, by rw [List.length_map, hsl]; exact hc3, ?_, hc5⟩
   rw [qbt, List.length_map];exact qcp _ _ _ (by omega))
  have hw2 : w' = (Sort.ahead w m).setRow cb (putCells (Value.int .i64) sh R.toArray c) := by
   rw [hw];unfold putRow;rw [qb3 hA]
  subst hw2;refine ⟨_, M, ρ, he, hI2, qh ?_ rfl⟩;simp only [LRel];exact ⟨_, _, cap, hr, hg, rfl, by omega, hcm, hsz, fun h => (by cases h), .inr ⟨cb, sh, n, rfl, by simp, by omega⟩⟩
def altS (f : Nat -> Int) : List Int -> Nat -> Int -> Int
 | [], _, _ => 0
 | x :: l, k, sg => sg * x * f k + altS f l (k + 1) (-sg)
def sgn (k : Nat) : Int := if k % 2 = 0 then 1 else -1
def detT : Nat -> List (List Int) -> Int
 | 0, _ => 1
 | _ + 1, [] => 1
 | n + 1, r :: t => altS (fun k => detT n (t.map (·.eraseIdx k))) r 0 1
theorem qer {k : Nat} : sgn (k + 1) = -sgn k := by
 simp only [sgn]
 split <;> split <;> omega
theorem qd9 {f : Nat -> Int} : ∀ {l m : List Int} {k : Nat}, altS f (l ++ m) k (sgn k) = altS f l k (sgn k) + altS f m (k + l.length) (sgn (k + l.length))
 | [], m, k => by simp [altS]
 | x :: l, m, k => by
  have ih := qd9 (f := f) (l := l) (m := m) (k := k + 1);rw [qer] at ih;simp only [List.cons_append, altS, List.length_cons];rw [ih, show k + 1 + l.length = k + (l.length + 1) by omega, Int.add_assoc]
theorem qko {f : Nat -> Int} {l : List Int} {k : Nat} {x : Int} (h : l[k]? = some x) : altS f (l.take (k + 1)) 0 1 = altS f (l.take k) 0 1 + sgn k * x * f k := by
 have hk := (List.getElem?_eq_some_iff.1 h).1;have := qd9 (f := f) (l := l.take k) (m := [x]) (k := 0);rw [show sgn 0 = 1 from rfl, List.length_take, Nat.min_eq_left (by omega), Nat.zero_add] at this
 rw [List.take_succ, h];simp only [Option.toList_some];rw [this];simp [altS]
def prodN : List Nat -> Nat
 | [] => 1
 | c :: cs => c * prodN cs
def fact : Nat -> Nat
 | 0 => 1
 | n + 1 => (n + 1) * fact n
theorem qbD : ∀ {cs : List Nat} {k c : Nat}, cs[k]? = some c -> prodN cs = c * prodN (cs.eraseIdx k)
 | [], k, c, h => by simp at h
 | d :: cs, 0, c, h => by simp at h; subst h; rfl
 | d :: cs, k + 1, c, h => by
  simp only [List.getElem?_cons_succ] at h;rw [List.eraseIdx_cons_succ, prodN, prodN, qbD h, Nat.mul_left_comm]
theorem qes : ∀ {cs : List Nat}, (∀ c ∈ cs, 0 < c) -> 0 < prodN cs
 | [], _ => Nat.one_pos
 | c :: cs, h => Nat.mul_pos (h c (by simp)) (qes fun d hd => h d (by simp [hd]))
structure Tb (n : Nat) (t : List (List Int)) (cs : List Nat) : Prop where
  len : t.length = n
  row : ∀ r ∈ t, r.length = n
  cl : cs.length = n
  bd : ∀ r ∈ t, ∀ (k : Nat) (x : Int) (c : Nat), r[k]? = some x -> cs[k]? = some c -> x.natAbs <= c
theorem Tb.minor {n : Nat} {r : List Int} {t : List (List Int)} {cs : List Nat} (h : Tb (n + 1) (r :: t) cs) {k : Nat} (hk : k < n + 1) : Tb n (t.map (·.eraseIdx k)) (cs.eraseIdx k) := by
 refine ⟨by have := h.len; simpa using this, fun r' hr' => ?_, by rw [List.length_eraseIdx, h.cl, if_pos hk]; rfl, fun r' hr' j x c hx hc => ?_⟩
 ·obtain ⟨r0, h0, rfl⟩ := List.mem_map.1 hr'
  rw [List.length_eraseIdx, h.row r0 (by simp [h0]), if_pos hk]; rfl
 ·obtain ⟨r0, h0, rfl⟩ := List.mem_map.1 hr'
  rw [List.getElem?_eraseIdx] at hx hc
  by_cases hj : j < k
  ·rw [if_pos hj] at hx hc
   exact h.bd r0 (by simp [h0]) _ _ _ hx hc
  ·rw [if_neg hj] at hx hc
   exact h.bd r0 (by simp [h0]) _ _ _ hx hc
theorem qgH {f : Nat -> Int} {B : Nat} : ∀ {l : List Int} {k : Nat} {sg : Int}, sg.natAbs = 1 -> (∀ (j : Nat) (x : Int), l[j]? = some x -> (x * f (k + j)).natAbs <= B) -> (altS f l k sg).natAbs <= l.length * B
 | [], _, _, _, _ => by simp [altS]
 | x :: l, k, sg, hs, h => by
  have ih := qgH (f := f) (B := B) (l := l) (k := k + 1) (sg := -sg) (by omega) (fun j y hy => by
   have := h (j + 1) y (by simpa using hy)
   rw [show k + (j + 1) = k + 1 + j by omega] at this
   exact this)
  have h0 := h 0 x (by simp)
  rw [Nat.add_zero] at h0;rw [altS, List.length_cons, Int.mul_assoc];have h1 : (sg * (x * f k)).natAbs <= B := by rw [Int.natAbs_mul, hs, Nat.one_mul]; exact h0
  have := Int.natAbs_add_le (sg * (x * f k)) (altS f l (k + 1) (-sg));rw [Nat.add_mul, Nat.one_mul];omega
theorem qdA : ∀ {n : Nat} {t : List (List Int)} {cs : List Nat}, Tb n t cs -> (detT n t).natAbs <= fact n * prodN cs
 | 0, t, cs, h => by
  have := List.length_eq_zero_iff.1 h.cl;subst this;simp [detT, fact, prodN]
 | n + 1, [], cs, h => by have := h.len; simp at this
 | n + 1, r :: t, cs, h => by
  have hr := h.row r (by simp)
  rw [detT];refine Nat.le_trans (qgH (B := fact n * prodN cs) rfl fun j x hx => ?_) ?_
  ·have hj : j < n + 1 := by have := (List.getElem?_eq_some_iff.1 hx).1; omega
   have hc : cs[j]? = some (cs[j]'(by rw [h.cl]; exact hj)) := List.getElem?_eq_getElem _
   have ih := qdA (h.minor hj);rw [Nat.zero_add, Int.natAbs_mul, qbD hc, Nat.mul_left_comm];exact Nat.mul_le_mul (h.bd r (by simp) j x _ hx hc) ih
  ·rw [hr, fact, Nat.mul_assoc]; exact Nat.le_refl _
end Go.Proofs.YtikfhfgdmlijeaaGreat.Sk
