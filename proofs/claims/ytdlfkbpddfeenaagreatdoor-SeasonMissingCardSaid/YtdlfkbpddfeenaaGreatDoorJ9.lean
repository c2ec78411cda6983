/- The code of a law in the value semantics. -/
import Derived.Test.YtdlfkbpddfeenaaGreatDoorJ8

set_option linter.all false

namespace Go.Proofs.YtdlfkbpddfeenaaGreatDoor.Sk
open Go Go.E
def c7r0 : LO := [oP 2 (.boxS (.t 0)),oP 4 (.mov bF)]
def c7r1 : LO := [oP 14 (.load 1 true (.t 2)),oP 15 (.call 44 [(.t 14)]),oP 16 (.not (.t 15)),oM 17 16,oH 18 17 false 1,oG 19 17 false (.len false (.t 18)),oG 20 17 false (.cmp .gtr (.t 19) (nI 60)),oP 21 (.pick (.t 17) bT (.t 20))]
def c7r2 : LO := [oP 22 (.call 18 []),oM 4 22]
def c7r3 : LO := [oP 5 (.alloc [(.full [])])]
def c7r4 : LO := [oP 6 (.mov (nI 0))]
def c7r5 : LO := [oM 23 6,oM 24 1,oN 25 24,oF 26 0 2,oL 27 26,oN 28 27,oP 29 (.arith .add (.t 25) (.t 28)),oP 30 (.cmp .lss (.t 23) (.t 29)),oM 31 30,oG 32 31 true (.fieldAddr 0 (.t 2)),oG 33 31 true (.load 1 false (.t 32)),oG 34 31 true (.len false (.t 33)),oG 35 31 true (.cmp .gtr (.t 34) (nI 0)),oP 36 (.pick (.t 31) (.t 35) bF)]
def c7r6 : LO := [oM 39 6,oM 40 1,oN 41 40,oP 42 (.arith .sub (.t 39) (.t 41)),oM 7 42]
def c7r7 : LO := [oM 43 6,oM 44 1,oN 45 44,oP 46 (.cmp .lss (.t 43) (.t 45))]
def c7r8 : LO := [oM 47 1,oM 48 6,oI 49 47 48,oL 50 49,oP 51 (.conv .i64 (.t 50)),oF 52 0 2,oL 53 52,oN 54 53,oP 55 (.div .rem (.t 51) (.t 54)),oM 7 55]
def c7r9 : LO := [oP 57 (.load 1 true (.t 5)),oF 58 0 2,oL 59 58,oM 60 7,oP 61 (.idxA 4 (.t 59) (.t 60)),oP 62 (.load 4 true (.t 61)),oP 63 (.call 19 [(.t 57), (.t 62)]),oM 56 63,oP 64 (.ext (.t 56) 0),oP 65 (.ext (.t 56) 1),oP 8 (.alloc [(.full [])]),⟨none, none, .store 1 (.t 8) (.t 64)⟩,oM 9 65]
def c7r10 : LO := [oM 66 9,oP 67 (.cmp .neq (.t 66) (nI 0)),oM 68 67,oG 69 68 false (.load 1 true (.t 8)),oG 70 68 false (.call 26 [(.t 69)]),oG 71 68 false (.cmp .neq (.t 70) (nI 0)),oP 72 (.pick (.t 68) bT (.t 71)),oM 73 72,oG 74 73 false (.fieldAddr 0 (.t 8)),oG 75 73 false (.load 1 false (.t 74)),oG 76 73 false (.len false (.t 75)),oG 77 73 false (.fieldAddr 0 (.t 5)),oG 78 73 false (.load 1 false (.t 77)),oG 79 73 false (.len false (.t 78)),oG 80 73 false (.cmp .lss (.t 76) (.t 79)),oP 81 (.pick (.t 73) bT (.t 80))]
def c7r11 : LO := [oP 4 (.mov bF)]
def c7r12 : LO := [oP 82 (.load 1 true (.t 8)),⟨none, none, .store 1 (.t 5) (.t 82)⟩]
def c7r13 : LO := [oM 37 6,oP 38 (.arith .add (.t 37) (nI 1)),oM 6 38]
def c7l14 : ACode := (.seq (sR c7r5 (.cond (.t 36) .skip (.exit 0))) (.seq (.block 1 (sR c7r6 (.seq (sR c7r7 (.cond (.t 46) (rG c7r8) .skip)) (.seq (.reg 1 c7r9) (.seq (sR c7r10 (.cond (.t 81) (sR c7r11 .ret) .skip)) (rG c7r12)))))) (rG c7r13)))
def c7l14m : List Bool := zF<|zT<|zT<|zF<|zF<|zT<|zT<|z8<|z8<|z8<|z8<|z8<|z8<|z8<|z8<|z8<|z8<|z8<|z8<|z8<|zF<|zF<|zF<|zF<|zF<|zF<|[]
def c7r15 : LO := [oP 84 (.load 1 true (.t 5)),oP 85 (.call 37 [(.t 84)]),oM 83 85,oP 86 (.ext (.t 83) 0),oP 87 (.ext (.t 83) 1),oM 10 86,oM 11 87]
def c7r16 : LO := [oP 89 (.load 1 true (.t 2)),oP 90 (.call 37 [(.t 89)]),oM 88 90,oP 91 (.ext (.t 88) 0),oP 92 (.ext (.t 88) 1),oM 12 91,oM 13 92]
def c7r17 : LO := [oP 93 (.load 1 true (.t 5)),oP 94 (.load 1 true (.t 2)),oP 95 (.call 27 [(.t 93), (.t 94)]),oM 96 95,oG 97 96 true (.load 1 true (.t 5)),oG 98 96 true (.load 1 true (.t 2)),oG 99 96 true (.call 45 [(.t 97), (.t 98), (nI (-1))]),oP 100 (.pick (.t 96) (.t 99) bF),oM 101 100,oH 102 101 true 11,oG 103 101 true (.cmp .eql (.t 102) (nI 0)),oP 104 (.pick (.t 101) (.t 103) bF),oM 105 104,oH 106 105 true 13,oG 107 105 true (.cmp .eql (.t 106) (nI 0)),oP 108 (.pick (.t 105) (.t 107) bF),oM 109 108,oH 110 109 true 10,oH 111 109 true 12,oG 112 109 true (.cmp .eql (.t 110) (.t 111)),oP 113 (.pick (.t 109) (.t 112) bF),oM 114 113,oG 115 114 true (.call 18 []),oP 116 (.pick (.t 114) (.t 115) bF),oM 4 116]
def f7 : FRow := ⟨(sR c7r0 (.seq (sR c7r1 (.cond (.t 21) (sR c7r2 .ret) .skip)) (.seq (.reg 1 c7r3) (.seq (sR c7r4 (.block 0 (.loop c7l14m [] c7l14))) (sR c7r15 (sR c7r16 (sR c7r17 .ret))))))), [.tmp 4], 117⟩
theorem okf7 : f7.Ok Tryz.prog 7 := ⟨_, _, Tryz.func7, rfl, by kernel_rfl, by kernel_rfl, by kernel_rfl⟩
end Go.Proofs.YtdlfkbpddfeenaaGreatDoor.Sk
namespace Go.Proofs.YtdlfkbpddfeenaaGreatDoor.Sk
open Go Go.E Go.E.Sm
set_option maxRecDepth 10000
theorem l7 {A : List Ent} {by' : List Int} (hb : ∀ x ∈ by', 0 <= x /\ x < 256) : E.Fn Tryz.prog 7 [ssn A, .slice (by'.map (SV.int .u8))] [.bool true] := by
 refine fn_of_row okf7 ?_;simp only [FRow.start, f7, c7r0, c7r1, ssn, SV.cells, go_sem, Nat.reduceAdd, Nat.reduceSub, true_implies];refine callK_of (by simp only [ssn, ents, go_sem]) (k44 (L := A)) (.inl rfl) ?_
 by_cases hA : ckS A = 0
 case neg =>
  rw [decide_eq_false hA];simp only [c7r2, go_sem, true_implies];refine wk ?_;simp only [go_sem, true_implies]
 rw [decide_eq_true hA];have oA := ckS_zero.1 hA;have h24 := oA.len;simp only [go_sem];intro hmb;refine ⟨fun h60 => ?_, fun h60 => ?_⟩
 ·simp only [c7r2, go_sem]
  refine wk ?_;simp only [go_sem, true_implies]
 simp only [c7r3, c7r4, go_sem, true_implies]
 refine loop_rule (fun k τ => ∃ (i : Nat) (p : Ent -> Bool) (v : LV), k = by'.length + A.length - i /\ i <= by'.length + A.length /\ (v = .s (ents (A.filter p)) \/ A.filter p = [] /\ v = .full []) /\ (∀ (q : Nat) (x : Ent), by'.length + q < i -> A[q]? = some x -> p x = true) /\
  τ = ⟨(aN::(.s (.slice (by'.map (SV.int .u8))))::(.s (.ptr [ents A]))::aN::aN::(.loc 0 0)::(aI i)::aN::aN::aN::aN::aN::aN::aZ104), [.obj [v]]⟩) (by'.length + A.length) rfl ?_ ?_
 ·simp only [c7l14m, ents, go_sem, ↓reduceIte, reduceCtorEq, Nat.reduceLeDiff]
  exact ⟨0, fun _ => false, _, rfl, Nat.zero_le _, .inr ⟨by simp, rfl⟩, fun q x h => by omega, rfl⟩
 rintro I k τ ⟨i, p, v, rfl, hi, hv, hp, rfl⟩ hI;simp only [c7l14, c7r5, ents, go_sem, ↓reduceIte, Nat.reduceLeDiff];refine ⟨inR_small (by omega) (by omega), fun hlt => ?_, fun hge => ?_⟩
 ·rintro _
  refine ⟨fun h0 => ?_, fun h0 => ?_⟩
  ·simp only [c7r6, c7r7, go_sem]
   have hlA : A.length ≠ 0 := by omega
   refine ⟨inR_i64 (by omega) (by omega), fun _ _ => ⟨fun h1 => ?_, fun h1 => ?_⟩⟩
   case' refine_1 =>
    have hx : by'[i]? = some by'[i] := List.getElem?_eq_getElem h1
    have hbb := hb _ (List.mem_of_getElem? hx);generalize by'[i] = b at hx hbb
    obtain ⟨c, rfl⟩ : ∃ c : Nat, b = c := ⟨b.toNat, by omega⟩
    have et : (c : Int).tmod (A.length : Int) = ((c % A.length : Nat) : Int) := (Int.ofNat_tmod c A.length).symm;simp only [c7r8, Int.toNat_natCast, hx, et, go_sem, Nat.reduceLeDiff];refine ⟨inR_small (by omega) (by omega), by omega, fun _ => ?_⟩
    have hklt := Nat.mod_lt c (Nat.pos_of_ne_zero hlA);have hkp : ∀ q, by'.length + q < i + 1 -> q = c % A.length \/ by'.length + q < i := fun q h => by omega
    generalize c % A.length = kk at *
   case' refine_2 =>
    obtain ⟨kk, hkk⟩ : ∃ kk : Nat, i = by'.length + kk := ⟨i - by'.length, by omega⟩
    have hklt : kk < A.length := by omega
    have hkp : ∀ q, by'.length + q < i + 1 -> q = kk \/ by'.length + q < i := fun q h => by omega
    have ek : (i : Int) - (by'.length : Int) = (kk : Int) := by omega
    rw [ek]
   all_goals
    have hx : A[kk]? = some A[kk] := List.getElem?_eq_getElem hklt;have hxm : A[kk] ∈ A := List.getElem_mem hklt
    have hpq : ∀ (q : Nat) (y : Ent), by'.length + q < i + 1 -> A[q]? = some y -> (p y || decide (y = A[kk])) = true := fun q y h hy => by
     rcases hkp q h with rfl | h
     ·rw [hx] at hy
      rw [decide_eq_true (Option.some.inj hy).symm, Bool.or_true]
     ·rw [hp q y h hy]; rfl
    generalize A[kk] = x at *;have h19 : E.Fn Tryz.prog 19 [ssn (A.filter p), ent x] [ssn (A.filter fun y => p y || decide (y = x)), .int .i64 0] := fn_eq k19 (by rw [put_part oA p hxm])
    have h26 : E.Fn Tryz.prog 26 [ssn (A.filter fun y => p y || decide (y = x))] [.int .i64 0] := fn_eq k26 (by rw [ckS_zero.2 (ok_filter oA _)])
    have hle := part_le (A := A) p (e := x);have hxe : (A.map ent)[kk]? = some (ent x) := by rw [List.getElem?_map, hx]; rfl
    generalize hp2 : (fun y => p y || decide (y = x)) = p2 at h19 h26 hle
    have hpq : ∀ (q : Nat) (y : Ent), by'.length + q < i + 1 -> A[q]? = some y -> p2 y = true := fun q y h hy => by rw [<- hp2]; exact hpq q y h hy
    have hle2 : ((A.filter p2).length < (A.filter p).length) = False := eq_false (by omega)
    rcases hv with rfl | ⟨hf, rfl⟩
    case' inl =>
     simp only [c7r9, ents, hxe, ent_cells, Int.toNat_natCast, go_sem, Nat.reduceAdd, Nat.reduceLeDiff];refine callK_of (by simp only [ssn, ents, ent, go_sem]) h19 (.inr (by simp only [ssn, ents, ent, go_sem]; exact .inl trivial)) ?_
     simp only [ssn, spl_one, c7r10, go_sem, Nat.reduceAdd, true_implies];refine callK_of (by simp only [ssn, ents, go_sem]) h26 (.inl rfl) ?_
     simp only [hle2, ents, go_sem, Nat.reduceAdd]
    case' inr =>
     rw [hf] at h19;simp only [c7r9, hxe, ent_cells, Int.toNat_natCast, go_sem, Nat.reduceAdd, Nat.reduceLeDiff];refine callK_of (by simp only [ssn, ents, ent, List.map_nil, go_sem]) h19 (.inr (by simp only [ssn, ents, ent, go_sem]; exact .inl trivial)) ?_
     simp only [ssn, spl_one, c7r10, go_sem, Nat.reduceAdd, true_implies];refine callK_of (by simp only [ssn, ents, go_sem]) h26 (.inl rfl) ?_
     simp only [ents, Nat.not_lt_zero, go_sem, Nat.reduceAdd]
    all_goals
     rintro _;simp only [c7r12, c7r13, c7l14m, go_sem, ↓reduceIte, reduceCtorEq, Nat.reduceAdd, Nat.reduceLeDiff, true_implies];exact ⟨inR_small (by omega) (by omega), hI (by'.length + A.length - (i + 1)) _ (by omega) ⟨i + 1, p2, _, rfl, by omega, .inl rfl, hpq, rfl⟩⟩
  ·have hA0 : A = [] := List.length_eq_zero_iff.1 (by omega)
   have hAf : A.filter p = A := by rw [hA0]; rfl
   simp only [c7r15, go_sem]
   rcases hv with rfl | ⟨hf, rfl⟩
   ·rw [hAf]
    refine callK_of (by simp only [ssn, ents, go_sem]) (k37 (L := A)) (.inl rfl) ?_
    rw [hA, if_pos rfl];simp only [c7r16, go_sem, true_implies];refine callK_of (by simp only [ssn, ents, go_sem]) (k37 (L := A)) (.inl rfl) ?_
    rw [hA, if_pos rfl];simp only [c7r17, go_sem, Int.reduceNeg, true_implies];refine callK_of (by simp only [ssn, ents, go_sem]) (k27t (l := A)) (.inl rfl) ?_
    simp only [go_sem, Int.reduceNeg];refine callK_of (by simp only [ssn, ents, go_sem, Int.reduceNeg]) (k45t (but := -1) oA oA fun _ _ _ => rfl) (.inl rfl) ?_
    simp only [go_sem];refine wk ?_;simp only [go_sem, true_implies]
   ·rw [hAf] at hf
    subst hf;refine callK_of (by simp only [ssn, ents, List.map_nil, go_sem]) (k37 (L := [])) (.inl rfl) ?_
    rw [hA, if_pos rfl];simp only [c7r16, List.map_nil, go_sem, true_implies];refine callK_of (by simp only [ssn, ents, List.map_nil, go_sem]) (k37 (L := [])) (.inl rfl) ?_
    rw [hA, if_pos rfl];simp only [c7r17, go_sem, Int.reduceNeg, true_implies];refine callK_of (by simp only [ssn, ents, List.map_nil, go_sem]) (k27t (l := [])) (.inl rfl) ?_
    simp only [go_sem, Int.reduceNeg];refine callK_of (by simp only [ssn, ents, List.map_nil, go_sem, Int.reduceNeg]) (k45t (but := -1) oA oA fun _ _ _ => rfl) (.inl rfl) ?_
    simp only [go_sem];refine wk ?_;simp only [go_sem, true_implies]
 ·have hAf : A.filter p = A := List.filter_eq_self.2 fun x hx => by
   obtain ⟨q, hq1, hq2⟩ := List.mem_iff_getElem.1 hx;exact hp q x (by omega) (by rw [List.getElem?_eq_getElem hq1, hq2])
  rintro _;simp only [c7r15, go_sem]
  rcases hv with rfl | ⟨hf, rfl⟩
  ·rw [hAf]
   refine callK_of (by simp only [ssn, ents, go_sem]) (k37 (L := A)) (.inl rfl) ?_
   rw [hA, if_pos rfl];simp only [c7r16, go_sem, true_implies];refine callK_of (by simp only [ssn, ents, go_sem]) (k37 (L := A)) (.inl rfl) ?_
   rw [hA, if_pos rfl];simp only [c7r17, go_sem, Int.reduceNeg, true_implies];refine callK_of (by simp only [ssn, ents, go_sem]) (k27t (l := A)) (.inl rfl) ?_
   simp only [go_sem, Int.reduceNeg];refine callK_of (by simp only [ssn, ents, go_sem, Int.reduceNeg]) (k45t (but := -1) oA oA fun _ _ _ => rfl) (.inl rfl) ?_
   simp only [go_sem];refine wk ?_;simp only [go_sem, true_implies]
  ·rw [hAf] at hf
   subst hf;refine callK_of (by simp only [ssn, ents, List.map_nil, go_sem]) (k37 (L := [])) (.inl rfl) ?_
   rw [hA, if_pos rfl];simp only [c7r16, List.map_nil, go_sem, true_implies];refine callK_of (by simp only [ssn, ents, List.map_nil, go_sem]) (k37 (L := [])) (.inl rfl) ?_
   rw [hA, if_pos rfl];simp only [c7r17, go_sem, Int.reduceNeg, true_implies];refine callK_of (by simp only [ssn, ents, List.map_nil, go_sem]) (k27t (l := [])) (.inl rfl) ?_
   simp only [go_sem, Int.reduceNeg];refine callK_of (by simp only [ssn, ents, List.map_nil, go_sem, Int.reduceNeg]) (k45t (but := -1) oA oA fun _ _ _ => rfl) (.inl rfl) ?_
   simp only [go_sem];refine wk ?_;simp only [go_sem, true_implies]
end Go.Proofs.YtdlfkbpddfeenaaGreatDoor.Sk
namespace Go.Proofs.YtdlfkbpddfeenaaGreatDoor.Sk
open Go Go.E
def c8r0 : LO := [oP 4 (.boxS (.t 0)),oP 8 (.mov bF)]
def c8r1 : LO := [oP 23 (.load 1 true (.t 4)),oP 24 (.call 44 [(.t 23)]),oP 25 (.not (.t 24))]
def c8r2 : LO := [oP 26 (.call 18 []),oM 8 26]
def c8r3 : LO := [oP 27 (.load 1 true (.t 4)),oM 28 1,oP 29 (.call 46 [(.t 27), (.t 28)]),oP 30 (.load 1 true (.t 4)),oM 31 2,oP 32 (.call 46 [(.t 30), (.t 31)]),oP 33 (.load 1 true (.t 4)),oM 34 3,oP 35 (.call 46 [(.t 33), (.t 34)]),oP 9 (.alloc [(.full [])]),oP 10 (.alloc [(.full [])]),oP 11 (.alloc [(.full [])]),⟨none, none, .store 1 (.t 9) (.t 29)⟩,⟨none, none, .store 1 (.t 10) (.t 32)⟩,⟨none, none, .store 1 (.t 11) (.t 35)⟩]
def c8r4 : LO := [oP 37 (.load 1 true (.t 9)),oP 38 (.load 1 true (.t 10)),oP 39 (.call 21 [(.t 37), (.t 38)]),oM 36 39,oP 40 (.ext (.t 36) 0),oP 41 (.ext (.t 36) 1),oP 12 (.alloc [(.full [])]),⟨none, none, .store 1 (.t 12) (.t 40)⟩,oM 13 41]
def c8r5 : LO := [oP 43 (.load 1 true (.t 10)),oP 44 (.load 1 true (.t 9)),oP 45 (.call 21 [(.t 43), (.t 44)]),oM 42 45,oP 46 (.ext (.t 42) 0),oP 47 (.ext (.t 42) 1),oP 14 (.alloc [(.full [])]),⟨none, none, .store 1 (.t 14) (.t 46)⟩,oM 15 47]
def c8r6 : LO := [oP 49 (.load 1 true (.t 10)),oP 50 (.load 1 true (.t 11)),oP 51 (.call 21 [(.t 49), (.t 50)]),oM 48 51,oP 52 (.ext (.t 48) 0),oP 53 (.ext (.t 48) 1),oP 16 (.alloc [(.full [])]),⟨none, none, .store 1 (.t 16) (.t 52)⟩,oM 17 53]
def c8r7 : LO := [oM 54 13,oP 55 (.cmp .neq (.t 54) (nI 0)),oM 56 55,oH 57 56 false 15,oG 58 56 false (.cmp .neq (.t 57) (nI 0)),oP 59 (.pick (.t 56) bT (.t 58)),oM 60 59,oH 61 60 false 17,oG 62 60 false (.cmp .neq (.t 61) (nI 0)),oP 63 (.pick (.t 60) bT (.t 62)),oM 64 63,oG 65 64 false (.load 1 true (.t 12)),oG 66 64 false (.load 1 true (.t 14)),oG 67 64 false (.call 27 [(.t 65), (.t 66)]),oG 68 64 false (.not (.t 67)),oP 69 (.pick (.t 64) bT (.t 68)),oM 70 69,oG 71 70 false (.load 1 true (.t 12)),oG 72 70 false (.load 1 true (.t 4)),oH 73 70 false 1,oH 74 70 false 2,oG 75 70 false (.bits .or (.t 73) (.t 74)),oG 76 70 false (.call 46 [(.t 72), (.t 75)]),oG 77 70 false (.call 27 [(.t 71), (.t 76)]),oG 78 70 false (.not (.t 77)),oP 79 (.pick (.t 70) bT (.t 78)),oM 80 79,oG 81 80 false (.load 1 true (.t 16)),oG 82 80 false (.load 1 true (.t 4)),oH 83 80 false 2,oH 84 80 false 3,oG 85 80 false (.bits .or (.t 83) (.t 84)),oG 86 80 false (.call 46 [(.t 82), (.t 85)]),oG 87 80 false (.call 27 [(.t 81), (.t 86)]),oG 88 80 false (.not (.t 87)),oP 89 (.pick (.t 80) bT (.t 88))]
def c8r8 : LO := [oP 8 (.mov bF)]
def c8r9 : LO := [oP 91 (.load 1 true (.t 12)),oP 92 (.load 1 true (.t 11)),oP 93 (.call 21 [(.t 91), (.t 92)]),oM 90 93,oP 94 (.ext (.t 90) 0),oP 95 (.ext (.t 90) 1),oP 18 (.alloc [(.full [])]),⟨none, none, .store 1 (.t 18) (.t 94)⟩,oM 13 95]
def c8r10 : LO := [oP 97 (.load 1 true (.t 9)),oP 98 (.load 1 true (.t 16)),oP 99 (.call 21 [(.t 97), (.t 98)]),oM 96 99,oP 100 (.ext (.t 96) 0),oP 101 (.ext (.t 96) 1),oP 19 (.alloc [(.full [])]),⟨none, none, .store 1 (.t 19) (.t 100)⟩,oM 15 101]
def c8r11 : LO := [oP 103 (.load 1 true (.t 4)),oP 104 (.load 1 true (.t 4)),oP 105 (.call 21 [(.t 103), (.t 104)]),oM 102 105,oP 106 (.ext (.t 102) 0),oP 107 (.ext (.t 102) 1),oP 20 (.alloc [(.full [])]),⟨none, none, .store 1 (.t 20) (.t 106)⟩,oM 17 107]
def c8r12 : LO := [oP 109 (.load 1 true (.t 4)),oP 110 (.load 1 true (.t 9)),oP 111 (.call 21 [(.t 109), (.t 110)]),oM 108 111,oP 112 (.ext (.t 108) 0),oP 113 (.ext (.t 108) 1),oP 21 (.alloc [(.full [])]),⟨none, none, .store 1 (.t 21) (.t 112)⟩,oM 22 113]
def c8r13 : LO := [oM 114 13,oP 115 (.cmp .eql (.t 114) (nI 0)),oM 116 115,oH 117 116 true 15,oG 118 116 true (.cmp .eql (.t 117) (nI 0)),oP 119 (.pick (.t 116) (.t 118) bF),oM 120 119,oG 121 120 true (.load 1 true (.t 18)),oG 122 120 true (.load 1 true (.t 19)),oG 123 120 true (.call 27 [(.t 121), (.t 122)]),oP 124 (.pick (.t 120) (.t 123) bF),oM 125 124,oH 126 125 true 17,oG 127 125 true (.cmp .eql (.t 126) (nI 0)),oP 128 (.pick (.t 125) (.t 127) bF),oM 129 128,oG 130 129 true (.load 1 true (.t 20)),oG 131 129 true (.load 1 true (.t 4)),oG 132 129 true (.call 27 [(.t 130), (.t 131)]),oP 133 (.pick (.t 129) (.t 132) bF),oM 134 133,oH 135 134 true 22,oG 136 134 true (.cmp .eql (.t 135) (nI 0)),oP 137 (.pick (.t 134) (.t 136) bF),oM 138 137,oG 139 138 true (.load 1 true (.t 21)),oG 140 138 true (.load 1 true (.t 4)),oG 141 138 true (.call 27 [(.t 139), (.t 140)]),oP 142 (.pick (.t 138) (.t 141) bF),oM 143 142,oG 144 143 true (.call 18 []),oP 145 (.pick (.t 143) (.t 144) bF),oM 8 145]
def f8 : FRow := ⟨(sR c8r0 (.seq (sR c8r1 (.cond (.t 25) (sR c8r2 .ret) .skip)) (.seq (.reg 3 c8r3) (.seq (.reg 1 c8r4) (.seq (.reg 1 c8r5) (.seq (.reg 1 c8r6) (.seq (sR c8r7 (.cond (.t 89) (sR c8r8 .ret) .skip)) (.seq (.reg 1 c8r9) (.seq (.reg 1 c8r10) (.seq (.reg 1 c8r11) (.seq (.reg 1 c8r12) (sR c8r13 .ret)))))))))))), [.tmp 8], 146⟩
theorem okf8 : f8.Ok Tryz.prog 8 := ⟨_, _, Tryz.func8, rfl, by kernel_rfl, by kernel_rfl, by kernel_rfl⟩
end Go.Proofs.YtdlfkbpddfeenaaGreatDoor.Sk
namespace Go.Proofs.YtdlfkbpddfeenaaGreatDoor.Sk
open Go Go.E Go.E.Sm
set_option maxRecDepth 10000
theorem l8 {A : List Ent} {p q r : Nat} (hp : p < 2 ^ 32) (hq : q < 2 ^ 32) (hr : r < 2 ^ 32) : E.Fn Tryz.prog 8 [ssn A, .int .u32 p, .int .u32 q, .int .u32 r] [.bool true] := by
 refine fn_of_row okf8 ?_;simp only [FRow.start, f8, c8r0, c8r1, ssn, SV.cells, go_sem, Nat.reduceAdd, Nat.reduceSub, true_implies];refine callK_of (by simp only [ssn, go_sem]) (k44 (L := A)) (.inl rfl) ?_
 by_cases hA : ckS A = 0
 case neg =>
  rw [decide_eq_false hA];simp only [c8r2, go_sem, true_implies];refine wk ?_;simp only [go_sem, true_implies]
 rw [decide_eq_true hA];have hoA := ckS_zero.1 hA;have hA30 : A.length <= 30 := by have := hoA.len; omega
 have j1 : ∀ x y : Nat, E.Fn Tryz.prog 21 [ssn (smL A x), ssn (smL A y)] [ssn (smL A (x ||| y)), .int .i64 0] := fun x y => fn_eq k21 (by rw [join_sm hoA])
 have j2 : E.Fn Tryz.prog 21 [ssn A, ssn A] [ssn A, .int .i64 0] := fn_eq k21 (by rw [join_own hoA (List.Sublist.refl A)])
 have j3 : E.Fn Tryz.prog 21 [ssn A, ssn (smL A p)] [ssn A, .int .i64 0] := fn_eq k21 (by rw [join_own hoA sm_sub])
 have hpq := Nat.or_lt_two_pow hp hq;have hqr := Nat.or_lt_two_pow hq hr;simp only [c8r3, go_sem, true_implies];refine callK_of (by simp only [ssn, go_sem]) (k46 hp hA30) (.inr (by simp only [ssn, go_sem]; exact .inl trivial)) ?_
 simp only [go_sem];refine callK_of (by simp only [ssn, go_sem]) (k46 hq hA30) (.inr (by simp only [ssn, go_sem]; exact .inl trivial)) ?_
 simp only [go_sem];refine callK_of (by simp only [ssn, go_sem]) (k46 hr hA30) (.inr (by simp only [ssn, go_sem]; exact .inl trivial)) ?_
 simp only [ssn, spl_one, c8r4, go_sem, Nat.reduceAdd, true_implies];refine callK_of (by simp only [ssn, go_sem]) (j1 p q) (.inr (by simp only [ssn, go_sem]; exact .inl trivial)) ?_
 simp only [ssn, spl_one, c8r5, go_sem, Nat.reduceAdd, true_implies];refine callK_of (by simp only [ssn, go_sem]) (j1 q p) (.inr (by simp only [ssn, go_sem]; exact .inl trivial)) ?_
 simp only [ssn, spl_one, c8r6, go_sem, Nat.reduceAdd, true_implies];refine callK_of (by simp only [ssn, go_sem]) (j1 q r) (.inr (by simp only [ssn, go_sem]; exact .inl trivial)) ?_
 have hcomm : smL A (q ||| p) = smL A (p ||| q) := by rw [Nat.or_comm]
 rw [hcomm];simp only [ssn, spl_one, c8r7, go_sem, Nat.reduceAdd, true_implies];refine callK_of (by simp only [ssn, go_sem]) (k27t (l := smL A (p ||| q))) (.inl rfl) ?_
 simp only [bit_or hp hq, go_sem];refine callK_of (by simp only [ssn, go_sem]) (k46 hpq hA30) (.inr (by simp only [ssn, go_sem]; exact .inl trivial)) ?_
 simp only [ssn, go_sem];refine callK_of (by simp only [ssn, go_sem]) (k27t (l := smL A (p ||| q))) (.inl rfl) ?_
 simp only [bit_or hq hr, go_sem];refine callK_of (by simp only [ssn, go_sem]) (k46 hqr hA30) (.inr (by simp only [ssn, go_sem]; exact .inl trivial)) ?_
 simp only [ssn, go_sem];refine callK_of (by simp only [ssn, go_sem]) (k27t (l := smL A (q ||| r))) (.inl rfl) ?_
 simp only [c8r9, go_sem, Nat.reduceAdd, true_implies];refine callK_of (by simp only [ssn, go_sem]) (j1 (p ||| q) r) (.inr (by simp only [ssn, go_sem]; exact .inl trivial)) ?_
 simp only [ssn, spl_one, c8r10, go_sem, Nat.reduceAdd, true_implies];refine callK_of (by simp only [ssn, go_sem]) (j1 p (q ||| r)) (.inr (by simp only [ssn, go_sem]; exact .inl trivial)) ?_
 rw [Nat.or_assoc];simp only [ssn, spl_one, c8r11, go_sem, Nat.reduceAdd, true_implies];refine callK_of (by simp only [ssn, go_sem]) j2 (.inr (by simp only [ssn, go_sem]; exact .inl trivial)) ?_
 simp only [ssn, spl_one, c8r12, go_sem, Nat.reduceAdd, true_implies];refine callK_of (by simp only [ssn, go_sem]) j3 (.inr (by simp only [ssn, go_sem]; exact .inl trivial)) ?_
 simp only [ssn, spl_one, c8r13, go_sem, Nat.reduceAdd, true_implies];refine callK_of (by simp only [ssn, go_sem]) (k27t (l := smL A (p ||| (q ||| r)))) (.inl rfl) ?_
 simp only [go_sem];refine callK_of (by simp only [ssn, go_sem]) (k27t (l := A)) (.inl rfl) ?_
 simp only [go_sem];refine callK_of (by simp only [ssn, go_sem]) (k27t (l := A)) (.inl rfl) ?_
 simp only [go_sem];refine wk ?_;simp only [go_sem, true_implies]
theorem l8i {A : List Ent} {p q r : Int} (hp : 0 <= p /\ p < 4294967296) (hq : 0 <= q /\ q < 4294967296) (hr : 0 <= r /\ r < 4294967296) : E.Fn Tryz.prog 8 [ssn A, .int .u32 p, .int .u32 q, .int .u32 r] [.bool true] := by
 have h := l8 (A := A) (p := p.toNat) (q := q.toNat) (r := r.toNat) (by omega) (by omega) (by omega)
 rw [show ((p.toNat : Nat) : Int) = p by omega, show ((q.toNat : Nat) : Int) = q by omega, show ((r.toNat : Nat) : Int) = r by omega] at h
 exact h
end Go.Proofs.YtdlfkbpddfeenaaGreatDoor.Sk
namespace Go.Proofs.YtdlfkbpddfeenaaGreatDoor.Sk
open Go Go.E
def c9r0 : LO := [oP 2 (.boxS (.t 0)),oP 3 (.boxS (.t 1)),oP 4 (.mov bF)]
def c9r1 : LO := [oP 12 (.load 1 true (.t 2)),oP 13 (.call 44 [(.t 12)]),oP 14 (.not (.t 13)),oM 15 14,oG 16 15 false (.load 1 true (.t 3)),oG 17 15 false (.call 44 [(.t 16)]),oG 18 15 false (.not (.t 17)),oP 19 (.pick (.t 15) bT (.t 18))]
def c9r2 : LO := [oP 20 (.call 18 []),oM 4 20]
def c9r3 : LO := [oP 22 (.load 1 true (.t 2)),oP 23 (.load 1 true (.t 3)),oP 24 (.call 21 [(.t 22), (.t 23)]),oM 21 24,oP 25 (.ext (.t 21) 0),oP 26 (.ext (.t 21) 1),oP 5 (.alloc [(.full [])]),⟨none, none, .store 1 (.t 5) (.t 25)⟩,oM 6 26]
def c9r4 : LO := [oP 28 (.load 1 true (.t 2)),oP 29 (.call 28 [(.t 28)]),oM 27 29,oP 30 (.ext (.t 27) 0),oP 31 (.ext (.t 27) 1),oM 7 30,oM 8 31]
def c9r5 : LO := [oM 32 8,oP 33 (.cmp .neq (.t 32) (nI 0)),oM 34 33,oH 35 34 false 7,oG 36 34 false (.len false (.t 35)),oG 37 34 false (.cmp .neq (.t 36) (nI 5)),oP 38 (.pick (.t 34) bT (.t 37))]
def c9r6 : LO := [oP 4 (.mov bF)]
def c9r7 : LO := [oP 40 (.load 1 true (.t 3)),oM 41 7,oP 42 (.call 32 [(.t 40), (.t 41)]),oM 39 42,oP 43 (.ext (.t 39) 0),oP 44 (.ext (.t 39) 1),oP 9 (.alloc [(.full [])]),⟨none, none, .store 1 (.t 9) (.t 43)⟩,oM 10 44]
def c9r8 : LO := [oM 45 10,oP 46 (.cmp .neq (.t 45) (nI 0)),oM 47 46,oG 48 47 false (.fieldAddr 0 (.t 9)),oG 49 47 false (.load 1 false (.t 48)),oG 50 47 false (.len false (.t 49)),oG 51 47 false (.fieldAddr 0 (.t 3)),oG 52 47 false (.load 1 false (.t 51)),oG 53 47 false (.len false (.t 52)),oG 54 47 false (.cmp .gtr (.t 50) (.t 53)),oP 55 (.pick (.t 47) bT (.t 54)),oM 56 55,oG 57 56 false (.load 1 true (.t 9)),oG 58 56 false (.call 26 [(.t 57)]),oG 59 56 false (.cmp .neq (.t 58) (nI 0)),oP 60 (.pick (.t 56) bT (.t 59))]
def c9r9 : LO := [oP 4 (.mov bF)]
def c9r10 : LO := [oM 61 6,oP 62 (.cmp .neq (.t 61) (nI 0))]
def c9r11 : LO := [oM 63 6,oP 64 (.cmp .eql (.t 63) (nI 15)),oM 65 64,oH 66 65 false 6,oG 67 65 false (.cmp .eql (.t 66) (nI 6)),oP 68 (.pick (.t 65) bT (.t 67)),oM 69 68,oG 70 69 true (.call 18 []),oP 71 (.pick (.t 69) (.t 70) bF),oM 4 71]
def c9r12 : LO := [oP 73 (.load 1 true (.t 2)),oP 74 (.load 1 true (.t 9)),oP 75 (.call 21 [(.t 73), (.t 74)]),oM 72 75,oP 76 (.ext (.t 72) 0),oP 77 (.ext (.t 72) 1),oP 11 (.alloc [(.full [])]),⟨none, none, .store 1 (.t 11) (.t 76)⟩,oM 6 77]
def c9r13 : LO := [oM 78 6,oP 79 (.cmp .eql (.t 78) (nI 0)),oM 80 79,oG 81 80 true (.load 1 true (.t 11)),oG 82 80 true (.load 1 true (.t 5)),oG 83 80 true (.call 27 [(.t 81), (.t 82)]),oP 84 (.pick (.t 80) (.t 83) bF),oM 85 84,oG 86 85 true (.call 18 []),oP 87 (.pick (.t 85) (.t 86) bF),oM 4 87]
def f9 : FRow := ⟨(sR c9r0 (.seq (sR c9r1 (.cond (.t 19) (sR c9r2 .ret) .skip)) (.seq (.reg 1 c9r3) (sR c9r4 (.seq (sR c9r5 (.cond (.t 38) (sR c9r6 .ret) .skip)) (.seq (.reg 1 c9r7) (.seq (sR c9r8 (.cond (.t 60) (sR c9r9 .ret) .skip)) (.seq (sR c9r10 (.cond (.t 62) (sR c9r11 .ret) .skip)) (.seq (.reg 1 c9r12) (sR c9r13 .ret)))))))))), [.tmp 4], 88⟩
theorem okf9 : f9.Ok Tryz.prog 9 := ⟨_, _, Tryz.func9, rfl, by kernel_rfl, by kernel_rfl, by kernel_rfl⟩
end Go.Proofs.YtdlfkbpddfeenaaGreatDoor.Sk
namespace Go.Proofs.YtdlfkbpddfeenaaGreatDoor.Sk
open Go Go.E Go.E.Sm
set_option maxRecDepth 10000
theorem l9 {A B : List Ent} : E.Fn Tryz.prog 9 [ssn A, ssn B] [.bool true] := by
 refine fn_of_row okf9 ?_;simp only [FRow.start, f9, c9r0, c9r1, ssn, SV.cells, go_sem, Nat.reduceAdd, Nat.reduceSub, true_implies];refine callK_of (by simp only [ssn, go_sem]) (k44 (L := A)) (.inl rfl) ?_
 by_cases hA : ckS A = 0
 case neg =>
  rw [decide_eq_false hA];simp only [c9r2, go_sem, true_implies];refine wk ?_;simp only [go_sem, true_implies]
 rw [decide_eq_true hA];simp only [go_sem];refine callK_of (by simp only [ssn, go_sem]) (k44 (L := B)) (.inl rfl) ?_
 by_cases hB : ckS B = 0
 case neg =>
  rw [decide_eq_false hB];simp only [c9r2, go_sem, true_implies];refine wk ?_;simp only [go_sem, true_implies]
 rw [decide_eq_true hB];have oA := ckS_zero.1 hA;have oB := ckS_zero.1 hB;have hX := ckS_zero.2 (ok_sub oB (snc_sub (ms := mksI A)));have hXl : (snc (mksI A) B).length <= B.length := (snc_sub (ms := mksI A)).length_le;have h28 : E.Fn Tryz.prog 28 [ssn A] [ints (mksI A), .int .i64 0] := fn_eq k28 (by rw [hA, if_pos rfl]; rfl)
 have h32 : E.Fn Tryz.prog 32 [ssn B, ints (mksI A)] [ssn (snc (mksI A) B), .int .i64 0] := fn_eq k32 (by rw [ckK_mks oA oB, if_pos rfl])
 have h26 : E.Fn Tryz.prog 26 [ssn (snc (mksI A) B)] [.int .i64 0] := fn_eq k26 (by rw [hX])
 have hml : (mksI A).length = 5 := rfl;have hsync := sync oA oB;have hcode := join_code oA oB;have hjok := join_ok oA oB;generalize mksI A = ms at *;generalize snc ms B = X at *;simp only [c9r3, go_sem, true_implies];refine callK_of (by simp only [ssn, go_sem]) (k21 (A := A) (B := B)) (.inr (by simp only [ssn, go_sem]; exact .inl trivial)) ?_
 simp only [ssn, spl_one, c9r4, go_sem, true_implies];refine callK_of (by simp only [ssn, go_sem]) h28 (.inr (by simp only [ssn, go_sem]; exact .inl trivial)) ?_
 simp only [c9r5, ints, go_sem, true_implies];intro _;refine ⟨fun _ => ?_, fun h => absurd (by omega) h⟩
 simp only [c9r7, go_sem];refine callK_of (by simp only [ssn, go_sem]; rfl) h32 (.inr (by simp only [ssn, go_sem]; exact .inl rfl)) ?_
 simp only [ssn, spl_one, c9r8, ents, go_sem, Nat.reduceAdd, Nat.reduceLeDiff, true_implies];refine ⟨fun h => absurd h (by omega), fun _ => ?_⟩
 refine callK_of (by simp only [ssn, ents, go_sem]) h26 (.inl rfl) ?_
 simp only [go_sem, Nat.reduceAdd];intro _
 rcases hcode with ⟨h1, h2, h3⟩ | h1 | h1
 ·rw [h1, hjok h2 h3]
  have h21 : E.Fn Tryz.prog 21 [ssn A, ssn X] [ssn (jn A B), .int .i64 0] := fn_eq k21 (by rw [hsync h2 h3])
  simp only [c9r10, c9r12, go_sem, Nat.reduceAdd, true_implies];refine callK_of (by simp only [ssn, ents, go_sem]) h21 (.inr (by simp only [ssn, ents, go_sem]; exact .inl trivial)) ?_
  simp only [ssn, spl_one, c9r13, go_sem, Nat.reduceAdd, true_implies];refine callK_of (by simp only [ssn, ents, go_sem]) (k27t (l := jn A B)) (.inl rfl) ?_
  simp only [go_sem];refine wk ?_;simp only [go_sem, true_implies]
 ·rw [h1]
  simp only [c9r10, c9r11, go_sem, Nat.reduceAdd, true_implies];refine ⟨fun h => absurd h (by decide), fun _ => ?_⟩
  refine wk ?_;simp only [go_sem, true_implies]
 ·rw [h1]
  simp only [c9r10, c9r11, go_sem, Nat.reduceAdd, true_implies];refine ⟨fun h => absurd h (by decide), fun _ => ⟨fun h => absurd h (by decide), fun _ => ?_⟩⟩
  refine wk ?_;simp only [go_sem, true_implies]
end Go.Proofs.YtdlfkbpddfeenaaGreatDoor.Sk
namespace Go.Proofs.YtdlfkbpddfeenaaGreatDoor.Sk
open Go Go.E
def coT (L : List Ent) (m : Int) : Nat -> Int
 | 0 => 0
 | j + 1 => coT L m j + match fnd L m ((j + 1 : Nat) : Int) with
  | some e => if e.k = 1 /\ lft L m ((j + 1 : Nat) : Int) = false then e.a else 0
  | none => 0
theorem nx_sum {s : St} {e : Ent} : (nxS s e).h + (nxS s e).b + (nxS s e).p + (nxS s e).r = s.h + s.b + s.p + s.r + if e.k = 1 then e.a else 0 := by
 unfold nxS
 by_cases hr : rfs s e = true
 ·rw [if_pos hr]
  have : ¬ e.k = 1 := by
   unfold rfs at hr;rw [decide_eq_true_eq] at hr;omega
  rw [if_neg this];simp only;omega
 ·rw [if_neg hr]
  by_cases h1 : e.k = 1
  ·rw [if_pos h1, if_pos h1]; simp only; omega
  ·rw [if_neg h1, if_neg h1]
   by_cases h2 : e.k = 2
   ·rw [if_pos h2]; simp only; omega
   ·rw [if_neg h2]
    by_cases h3 : e.k = 3
    ·rw [if_pos h3]; simp only; omega
    ·rw [if_neg h3]
     by_cases h4 : e.k = 4
     ·rw [if_pos h4]; simp only; omega
     ·rw [if_neg h4]; omega
theorem co_sum {L : List Ent} {m : Int} : ∀ j : Nat, coT L m j = (stT L m j).h + (stT L m j).b + (stT L m j).p + (stT L m j).r
 | 0 => rfl
 | j + 1 => by
  rw [coT, stT, co_sum j]
  cases hl : lft L m ((j + 1 : Nat) : Int) with
  | true =>
   rw [if_pos rfl]
   cases fnd L m ((j + 1 : Nat) : Int) with
   | none => simp
   | some e => simp
  | false =>
   rw [if_neg (by simp)]
   cases fnd L m ((j + 1 : Nat) : Int) with
   | none => simp
   | some e =>
    simp only [and_true];rw [nx_sum]
theorem co_bd {L : List Ent} {m : Int} (hok : OkS L) : ∀ j : Nat, 0 <= coT L m j /\ coT L m j <= 100 * (j : Int)
 | 0 => ⟨Int.le_refl _, Int.le_refl _⟩
 | j + 1 => by
  have ih := co_bd (m := m) hok j;rw [coT]
  cases hf : fnd L m ((j + 1 : Nat) : Int) with
  | none => simp only; omega
  | some e =>
   have he := hok.ent e (fnd_some hf).1;have := he.a0; have := he.a100;simp only
   split <;> omega
theorem nx_f {s : St} {e : Ent} : (nxS s e).f = s.f \/ (nxS s e).f = s.f ++ [e.n] := by
 unfold nxS
 split
 ·exact .inr rfl
 ·split
  ·exact .inl rfl
  ·split
   ·exact .inl rfl
   ·split
    ·exact .inl rfl
    ·split
     ·exact .inl rfl
     ·exact .inl rfl
theorem rf_spec {L : List Ent} {m : Int} : ∀ j : Nat, (stT L m j).f.Pairwise (· < ·) /\ ∀ x ∈ (stT L m j).f, 1 <= x /\ x <= j
 | 0 => ⟨List.Pairwise.nil, fun x hx => by cases hx⟩
 | j + 1 => by
  obtain ⟨h1, h2⟩ := rf_spec (L := L) (m := m) j;have hs : (stT L m j).f.Pairwise (· < ·) /\ ∀ x ∈ (stT L m j).f, 1 <= x /\ x <= ((j + 1 : Nat) : Int) := ⟨h1, fun x hx => by have := h2 x hx; omega⟩
  rw [stT]
  split
  ·exact hs
  ·split
   ·rename_i e he
    obtain ⟨_, _, hn⟩ := fnd_some he
    rcases nx_f (s := stT L m j) (e := e) with h | h
    ·rw [h]; exact hs
    ·rw [h]
     refine ⟨List.pairwise_append.2 ⟨h1, List.pairwise_singleton _ _, fun x hx y hy => ?_⟩, fun x hx => ?_⟩
     ·rw [List.mem_singleton.1 hy, hn]
      have := h2 x hx; omega
     ·rcases List.mem_append.1 hx with hx | hx
      ·exact hs.2 x hx
      ·rw [List.mem_singleton.1 hx, hn]; omega
   ·exact hs
theorem rf_at {L : List Ent} {m : Int} {k : Nat} {x : Int} (h : (stL L m).f[k]? = some x) : 1 <= x /\ x <= mark L m /\ ∀ y, 0 < k -> (stL L m).f[k - 1]? = some y -> y < x := by
 obtain ⟨h1, h2⟩ := rf_spec (L := L) (m := m) (mark L m);obtain ⟨h3, h4⟩ := h2 x (List.mem_of_getElem? h);refine ⟨h3, h4, fun y hk hy => ?_⟩
 obtain ⟨l1, e1⟩ := List.getElem?_eq_some_iff.1 h;obtain ⟨l2, e2⟩ := List.getElem?_eq_some_iff.1 hy;rw [<- e1, <- e2];exact List.pairwise_iff_getElem.1 h1 _ _ l2 l1 (by omega)
def c10r0 : LO := [oP 1 (.boxS (.t 0)),oP 2 (.mov bF)]
def c10r1 : LO := [oP 14 (.load 1 true (.t 1)),oP 15 (.call 44 [(.t 14)]),oP 16 (.not (.t 15))]
def c10r2 : LO := [oP 17 (.call 18 []),oM 2 17]
def c10r3 : LO := [oP 3 (.mov (nI 0))]
def c10r4 : LO := [oP 4 (.mov (nI 0))]
def c10r5 : LO := [oM 18 4,oP 19 (.cmp .leq (.t 18) (nI 4))]
def c10r6 : LO := [oP 23 (.load 1 true (.t 1)),oM 24 4,oP 25 (.call 35 [(.t 23), (.t 24)]),oM 22 25,oP 26 (.ext (.t 22) 0),oP 27 (.ext (.t 22) 1),oP 5 (.alloc [(.s (.int .i64 0)), (.s (.int .i64 0)), (.s (.int .i64 0)), (.s (.int .i64 0)), (.s (.int .i64 0)), (.full [])]),⟨none, none, .store 6 (.t 5) (.t 26)⟩,oM 6 27]
def c10r7 : LO := [oM 28 6,oP 29 (.cmp .neq (.t 28) (nI 0)),oM 30 29,oG 31 30 false (.fieldAddr 0 (.t 5)),oG 32 30 false (.load 1 false (.t 31)),oG 33 30 false (.cmp .lss (.t 32) (nI 0)),oP 34 (.pick (.t 30) bT (.t 33)),oM 35 34,oG 36 35 false (.fieldAddr 1 (.t 5)),oG 37 35 false (.load 1 false (.t 36)),oG 38 35 false (.cmp .lss (.t 37) (nI 0)),oP 39 (.pick (.t 35) bT (.t 38)),oM 40 39,oG 41 40 false (.fieldAddr 2 (.t 5)),oG 42 40 false (.load 1 false (.t 41)),oG 43 40 false (.cmp .lss (.t 42) (nI 0)),oP 44 (.pick (.t 40) bT (.t 43)),oM 45 44,oG 46 45 false (.fieldAddr 3 (.t 5)),oG 47 45 false (.load 1 false (.t 46)),oG 48 45 false (.cmp .lss (.t 47) (nI 0)),oP 49 (.pick (.t 45) bT (.t 48)),oM 50 49,oG 51 50 false (.fieldAddr 4 (.t 5)),oG 52 50 false (.load 1 false (.t 51)),oG 53 50 false (.cmp .lss (.t 52) (nI 0)),oP 54 (.pick (.t 50) bT (.t 53)),oM 55 54,oG 56 55 false (.fieldAddr 0 (.t 5)),oG 57 55 false (.load 1 false (.t 56)),oG 58 55 false (.cmp .gtr (.t 57) (nI 3000)),oP 59 (.pick (.t 55) bT (.t 58)),oM 60 59,oG 61 60 false (.fieldAddr 1 (.t 5)),oG 62 60 false (.load 1 false (.t 61)),oG 63 60 false (.cmp .gtr (.t 62) (nI 3000)),oP 64 (.pick (.t 60) bT (.t 63)),oM 65 64,oG 66 65 false (.fieldAddr 2 (.t 5)),oG 67 65 false (.load 1 false (.t 66)),oG 68 65 false (.cmp .gtr (.t 67) (nI 3000)),oP 69 (.pick (.t 65) bT (.t 68)),oM 70 69,oG 71 70 false (.fieldAddr 3 (.t 5)),oG 72 70 false (.load 1 false (.t 71)),oG 73 70 false (.cmp .gtr (.t 72) (nI 3000)),oP 74 (.pick (.t 70) bT (.t 73)),oM 75 74,oG 76 75 false (.fieldAddr 4 (.t 5)),oG 77 75 false (.load 1 false (.t 76)),oG 78 75 false (.cmp .gtr (.t 77) (nI 3000)),oP 79 (.pick (.t 75) bT (.t 78))]
def c10r8 : LO := [oP 2 (.mov bF)]
def c10r9 : LO := [oP 7 (.mov (nI 0))]
def c10r10 : LO := [oP 8 (.mov (nI 1))]
def c10r11 : LO := [oM 80 8,oP 81 (.load 1 true (.t 1)),oM 82 4,oP 83 (.call 47 [(.t 81), (.t 82)]),oP 84 (.cmp .leq (.t 80) (.t 83))]
def c10r12 : LO := [oP 88 (.load 1 true (.t 1)),oM 89 4,oM 90 8,oP 91 (.call 48 [(.t 88), (.t 89), (.t 90)]),oM 87 91,oP 92 (.ext (.t 87) 0),oP 93 (.ext (.t 87) 1),oP 9 (.alloc [(.s (.int .i64 0)), (.s (.int .i64 0)), (.s (.int .i64 0)), (.s (.int .i64 0))]),⟨none, none, .store 4 (.t 9) (.t 92)⟩,oM 10 93]
def c10r13 : LO := [oF 94 2 9,oL 95 94,oP 96 (.cmp .eql (.t 95) (nI 1)),oM 97 96,oG 98 97 true (.load 1 true (.t 1)),oH 99 97 true 4,oH 100 97 true 8,oG 101 97 true (.call 49 [(.t 98), (.t 99), (.t 100)]),oG 102 97 true (.not (.t 101)),oP 103 (.pick (.t 97) (.t 102) bF)]
def c10r14 : LO := [oM 104 7,oF 105 3 9,oL 106 105,oP 107 (.arith .add (.t 104) (.t 106)),oM 7 107]
def c10r15 : LO := [oM 85 8,oP 86 (.arith .add (.t 85) (nI 1)),oM 8 86]
def c10l16 : ACode := (.seq (sR c10r11 (.cond (.t 84) .skip (.exit 2))) (.seq (.block 3 (.seq (.reg 1 c10r12) (sR c10r13 (.cond (.t 103) (rG c10r14) .skip)))) (rG c10r15)))
def c10l16m : List Bool := zF<|zT<|zF<|zT<|zT<|zT<|zF<|zT<|zT<|z8<|z8<|z8<|z8<|z8<|z8<|z8<|z8<|z8<|z8<|z8<|z8<|z8<|z8<|z8<|z8<|z8<|z8<|z8<|z8<|z8<|zF<|zF<|zF<|zF<|zF<|[]
def c10r17 : LO := [oP 11 (.mov (nI 0))]
def c10r18 : LO := [oM 108 11,oF 109 5 5,oL 110 109,oN 111 110,oP 112 (.cmp .lss (.t 108) (.t 111))]
def c10r19 : LO := [oF 115 5 5,oL 116 115,oM 117 11,oI 118 116 117,oL 119 118,oP 120 (.cmp .lss (.t 119) (nI 1)),oM 121 120,oG 122 121 false (.fieldAddr 5 (.t 5)),oG 123 121 false (.load 1 false (.t 122)),oH 124 121 false 11,oG 125 121 false (.idxA 1 (.t 123) (.t 124)),oG 126 121 false (.load 1 false (.t 125)),oG 127 121 false (.load 1 true (.t 1)),oH 128 121 false 4,oG 129 121 false (.call 47 [(.t 127), (.t 128)]),oG 130 121 false (.cmp .gtr (.t 126) (.t 129)),oP 131 (.pick (.t 121) bT (.t 130)),oM 132 131,oH 133 132 false 11,oG 134 132 false (.cmp .gtr (.t 133) (nI 0)),oH 135 132 false 134,oG 136 135 true (.fieldAddr 5 (.t 5)),oG 137 135 true (.load 1 false (.t 136)),oH 138 135 true 11,oG 139 135 true (.idxA 1 (.t 137) (.t 138)),oG 140 135 true (.load 1 false (.t 139)),oG 141 135 true (.fieldAddr 5 (.t 5)),oG 142 135 true (.load 1 false (.t 141)),oH 143 135 true 11,oG 144 135 true (.arith .sub (.t 143) (nI 1)),oG 145 135 true (.idxA 1 (.t 142) (.t 144)),oG 146 135 true (.load 1 false (.t 145)),oG 147 135 true (.cmp .leq (.t 140) (.t 146)),oG 148 132 false (.pick (.t 135) (.t 147) bF),oP 149 (.pick (.t 132) bT (.t 148))]
def c10r20 : LO := [oP 2 (.mov bF)]
def c10r21 : LO := [oM 113 11,oP 114 (.arith .add (.t 113) (nI 1)),oM 11 114]
def c10l22 : ACode := (.seq (sR c10r18 (.cond (.t 112) .skip (.exit 4))) (.seq (.block 5 (sR c10r19 (.cond (.t 149) (sR c10r20 .ret) .skip))) (rG c10r21)))
def c10l22m : List Bool := zF<|zT<|zF<|zT<|zT<|zT<|zF<|zT<|zF<|zF<|zF<|zT<|z8<|z8<|z8<|z8<|z8<|z8<|z8<|z8<|z8<|z8<|z8<|z8<|z8<|z8<|z8<|z8<|z8<|z8<|z8<|z8<|z8<|zF<|zF<|[]
def c10r23 : LO := [oM 150 7,oF 151 1 5,oL 152 151,oF 153 2 5,oL 154 153,oP 155 (.arith .add (.t 152) (.t 154)),oF 156 3 5,oL 157 156,oP 158 (.arith .add (.t 155) (.t 157)),oF 159 4 5,oL 160 159,oP 161 (.arith .add (.t 158) (.t 160)),oP 162 (.cmp .neq (.t 150) (.t 161))]
def c10r24 : LO := [oP 2 (.mov bF)]
def c10r25 : LO := [oM 163 3,oF 164 2 5,oL 165 164,oP 166 (.arith .add (.t 163) (.t 165)),oM 3 166]
def c10r26 : LO := [oM 20 4,oP 21 (.arith .add (.t 20) (nI 1)),oM 4 21]
def c10l27 : ACode := (.seq (sR c10r5 (.cond (.t 19) .skip (.exit 0))) (.seq (.block 1 (.seq (.reg 1 c10r6) (.seq (sR c10r7 (.cond (.t 79) (sR c10r8 .ret) .skip)) (sR c10r9 (.seq (sR c10r10 (.block 2 (.loop c10l16m [] c10l16))) (.seq (sR c10r17 (.block 4 (.loop c10l22m [] c10l22))) (.seq (sR c10r23 (.cond (.t 162) (sR c10r24 .ret) .skip)) (rG c10r25)))))))) (rG c10r26)))
def c10l27m : List Bool := zF<|zT<|zF<|zT<|zT<|z8<|z8<|z8<|z8<|z8<|z8<|z8<|z8<|z8<|z8<|z8<|z8<|z8<|z8<|z8<|z8<|z8<|z8<|z8<|z8<|z8<|z8<|zF<|[]
def c10r28 : LO := [oP 168 (.load 1 true (.t 1)),oP 169 (.call 37 [(.t 168)]),oM 167 169,oP 170 (.ext (.t 167) 0),oP 171 (.ext (.t 167) 1),oM 12 170,oM 13 171]
def c10r29 : LO := [oM 172 13,oP 173 (.cmp .eql (.t 172) (nI 0)),oM 174 173,oH 175 174 true 12,oH 176 174 true 3,oG 177 174 true (.cmp .eql (.t 175) (.t 176)),oP 178 (.pick (.t 174) (.t 177) bF),oM 179 178,oG 180 179 true (.call 18 []),oP 181 (.pick (.t 179) (.t 180) bF),oM 2 181]
def f10 : FRow := ⟨(sR c10r0 (.seq (sR c10r1 (.cond (.t 16) (sR c10r2 .ret) .skip)) (sR c10r3 (.seq (sR c10r4 (.block 0 (.loop c10l27m [] c10l27))) (sR c10r28 (sR c10r29 .ret)))))), [.tmp 2], 182⟩
theorem okf10 : f10.Ok Tryz.prog 10 := ⟨_, _, Tryz.func10, rfl, by kernel_rfl, by kernel_rfl, by kernel_rfl⟩
end Go.Proofs.YtdlfkbpddfeenaaGreatDoor.Sk
namespace Go.Proofs.YtdlfkbpddfeenaaGreatDoor.Sk
open Go Go.E Go.E.Sm
set_option maxRecDepth 10000
theorem l10 {A : List Ent} : E.Fn Tryz.prog 10 [ssn A] [.bool true] := by
 refine fn_of_row okf10 ?_;simp only [FRow.start, f10, c10r0, c10r1, ssn, SV.cells, go_sem, Nat.reduceSub, true_implies];refine callK_of (by simp only [ssn, go_sem]) (k44 (L := A)) (.inl rfl) ?_
 by_cases hA : ckS A = 0
 case neg =>
  rw [decide_eq_false hA];simp only [c10r2, go_sem, true_implies];refine wk ?_;simp only [go_sem, true_implies]
 rw [decide_eq_true hA];have oA := ckS_zero.1 hA
 have r : ∀ i : Nat, i < 5 -> E.Fn Tryz.prog 35 [ssn A, .int .i64 i] [stV (stL A i), .int .i64 0] := fun i hi => by
  have hck : ckM A i = 0 := by unfold ckM; rw [if_neg (by simp [hA]), if_pos (by omega)]
  exact fn_eq k35 (by rw [hck, if_pos rfl])
 simp only [c10r3, c10r4, go_sem, true_implies]
 refine loop_rule (fun k τ => ∃ i : Nat, k = 5 - i /\ i <= 5 /\
  τ = ⟨(aN::(.s (.ptr [ents A]))::aN::(aI (tkT A i))::(aI i)::aN::aZ176), []⟩) 5 rfl ?_ ?_
 ·simp only [c10l27m, go_sem]
  exact ⟨0, rfl, by decide, rfl⟩
 rintro I k τ ⟨i, rfl, hi, rfl⟩ hI;simp only [c10l27, c10r5, go_sem, ↓reduceIte, true_implies];refine ⟨fun hlt => ?_, fun hge => ?_⟩
 case refine_2 =>
  have hi5 : i = 5 := by omega
  subst hi5;simp only [c10r28, go_sem];refine callK_of (by simp only [ssn, go_sem]) (k37 (L := A)) (.inl rfl) ?_
  rw [hA, if_pos rfl];simp only [c10r29, go_sem, true_implies];refine wk ?_;simp only [go_sem, true_implies]
 have hi5 : i < 5 := by omega
 have bd := stL_bd (m := i) oA;have c0 := bd.c0; have h0 := bd.h0; have b0 := bd.b0; have p0 := bd.p0; have r0 := bd.r0;have c1 := bd.c1; have h1 := bd.h1; have b1 := bd.b1; have p1 := bd.p1; have r1 := bd.r1; have f1 := bd.f1;have tb := tkT_bd oA (i := i);have mk := mark_spec (m := (i : Int)) fun e he => (oA.ent e he).n30
 have hco := co_sum (L := A) (m := i) (mark A i);have hrf := fun k x => rf_at (L := A) (m := i) (k := k) (x := x)
 simp only [c10r6, go_sem];refine callK_of (by simp only [ssn, go_sem]) (r i hi5) (.inr (by simp only [ssn, go_sem]; exact .inl trivial)) ?_
 change coT A i (mark A i) = (stL A i).h + (stL A i).b + (stL A i).p + (stL A i).r at hco
 have htk := tkT_succ (L := A) (i := i);generalize stL A i = s at *;have q1 : (s.c < 0) = False := eq_false (by omega)
 have q2 : (s.h < 0) = False := eq_false (by omega)
 have q3 : (s.b < 0) = False := eq_false (by omega)
 have q4 : (s.p < 0) = False := eq_false (by omega)
 have q5 : (s.r < 0) = False := eq_false (by omega)
 have q6 : (3000 < s.c) = False := eq_false (by omega)
 have q7 : (3000 < s.h) = False := eq_false (by omega)
 have q8 : (3000 < s.b) = False := eq_false (by omega)
 have q9 : (3000 < s.p) = False := eq_false (by omega)
 have q10 : (3000 < s.r) = False := eq_false (by omega)
 simp only [stV, splice, c10r7, q1, q2, q3, q4, q5, q6, q7, q8, q9, q10, c10r9, c10r10, go_sem, Nat.reduceAdd, true_implies]
 refine loop_rule (fun k τ => ∃ j : Nat, k = mark A i - j /\ j <= mark A i /\
  τ = ⟨(aN::(.s (.ptr [ents A]))::aN::(aI (tkT A i))::(aI i)::(.loc 0 0)::aN::(aI (coT A i j))::(aI ((j + 1 : Nat) : Int))::aN::aN::aN::aN::aN::aZ168), [.obj [aI s.c, aI s.h, aI s.b, aI s.p, aI s.r, .s (ints s.f)]]⟩) (mark A i) rfl ?_ ?_
 ·simp only [c10l16m, go_sem, ↓reduceIte, reduceCtorEq, Nat.reduceLeDiff]
  exact ⟨0, rfl, Nat.zero_le _, rfl⟩
 rintro I2 k2 τ2 ⟨j, rfl, hj, rfl⟩ hI2;have cb := co_bd (m := (i : Int)) oA j;simp only [c10l16, c10r11, go_sem];refine callK_of (by simp only [ssn, go_sem]) (k47 (m := (i : Int)) oA) (.inl rfl) ?_
 simp only [go_sem, ↓reduceIte, true_implies];refine ⟨fun hlt2 => ?_, fun hge2 => ?_⟩
 ·have hj1 : j + 1 <= mark A i := by omega
  have hh := mk.1 (j + 1) (by omega) hj1
  obtain ⟨e, he⟩ : ∃ e, fnd A i ((j + 1 : Nat) : Int) = some e := Option.isSome_iff_exists.1 hh;have hoe := oA.ent e (fnd_some he).1;have a0 := hoe.a0; have a1 := hoe.a100;have h48 := k48 (L := A) (m := i) (n := ((j + 1 : Nat) : Int));rw [he] at h48;have hcs : coT A i (j + 1) = coT A i j + if e.k = 1 /\ lft A i ((j + 1 : Nat) : Int) = false then e.a else 0 := by rw [coT, he]
  simp only [c10r12, go_sem];refine callK_of (by simp only [ssn, go_sem]) h48 (.inl rfl) ?_
  simp only [Option.getD_some, Option.isSome_some];simp only [ent, spl4, c10r13, go_sem, Nat.reduceAdd, true_implies];refine ⟨fun hk => ?_, fun hk => ?_⟩
  ·refine callK_of (by simp only [ssn, go_sem]) (k49 (m := (i : Int)) (n := ((j + 1 : Nat) : Int)) oA) (.inl rfl) ?_
   cases hl : lft A i ((j + 1 : Nat) : Int) with
   | true =>
    rw [hl, if_neg (by simp)] at hcs
    simp only [c10r15, c10l16m, go_sem, ↓reduceIte, reduceCtorEq, Nat.reduceAdd, Nat.reduceLeDiff, true_implies];refine ⟨inR_small (by omega) (by omega), hI2 (mark A i - (j + 1)) _ (by omega) ⟨j + 1, rfl, hj1, ?_⟩⟩
    rw [hcs, Int.add_zero]; rfl
   | false =>
    rw [hl, if_pos ⟨hk, rfl⟩] at hcs;simp only [c10r14, c10r15, c10l16m, go_sem, ↓reduceIte, reduceCtorEq, Nat.reduceAdd, Nat.reduceLeDiff, true_implies];refine ⟨inR_small (by omega) (by omega), inR_small (by omega) (by omega), hI2 (mark A i - (j + 1)) _ (by omega) ⟨j + 1, rfl, hj1, ?_⟩⟩
    rw [hcs]; rfl
  ·rw [if_neg (fun h => hk h.1)] at hcs
   simp only [c10r15, c10l16m, go_sem, ↓reduceIte, reduceCtorEq, Nat.reduceLeDiff, true_implies];refine ⟨inR_small (by omega) (by omega), hI2 (mark A i - (j + 1)) _ (by omega) ⟨j + 1, rfl, hj1, ?_⟩⟩
   rw [hcs, Int.add_zero]; rfl
 have hje : j = mark A i := by omega
 subst hje;simp only [c10r17, go_sem, true_implies]
 refine loop_rule (fun k τ => ∃ q : Nat, k = s.f.length - q /\ q <= s.f.length /\
  τ = ⟨(aN::(.s (.ptr [ents A]))::aN::(aI (tkT A i))::(aI i)::(.loc 0 0)::aN::(aI (coT A i (mark A i)))::aN::aN::aN::(aI q)::aN::aN::aZ168), [.obj [aI s.c, aI s.h, aI s.b, aI s.p, aI s.r, .s (ints s.f)]]⟩) s.f.length rfl ?_ ?_
 ·simp only [c10l22m, go_sem, ↓reduceIte, reduceCtorEq, Nat.reduceLeDiff]
  exact ⟨0, rfl, Nat.zero_le _, rfl⟩
 rintro I3 k3 τ3 ⟨q, rfl, hq, rfl⟩ hI3;simp only [c10l22, c10r18, ints, go_sem, ↓reduceIte];refine fun _ => ⟨fun hlt3 => ?_, fun hge3 => ?_⟩
 ·have hx : s.f[q]? = some s.f[q] := List.getElem?_eq_getElem hlt3
  obtain ⟨x1, x2, x3⟩ := hrf q s.f[q] hx;generalize s.f[q] = x at hx x1 x2 x3;have hxm : (s.f.map (SV.int .i64))[q]? = some (.int .i64 x) := by rw [List.getElem?_map, hx]; rfl
  have z1 : (x < 1) = False := eq_false (by omega)
  have z2 : ((mark A i : Int) < x) = False := eq_false (by omega)
  simp only [c10r19, Int.toNat_natCast, hxm, z1, go_sem];refine callK_of (by simp only [ssn, go_sem]) (k47 (m := (i : Int)) oA) (.inl rfl) ?_
  simp only [z2, hx, go_sem, true_implies];refine ⟨fun hq0 => ?_, fun hq0 => ?_⟩
  ·have hy : s.f[q - 1]? = some (s.f[q - 1]'(by omega)) := List.getElem?_eq_getElem _
   have hyx := x3 _ (by omega) hy
   generalize s.f[q - 1]'(by omega) = y at hy hyx
   have hym : (s.f.map (SV.int .i64))[q - 1]? = some (.int .i64 y) := by rw [List.getElem?_map, hy]; rfl
   have ht : ((q : Int) - 1).toNat = q - 1 := by omega
   have z3 : (x <= y) = False := eq_false (by omega)
   refine ⟨inR_i64 (by omega) (by omega), by omega, ?_⟩
   simp only [ht, hy, z3, go_sem, true_implies];simp only [c10r21, c10l22m, go_sem, ↓reduceIte, reduceCtorEq, Nat.reduceLeDiff, true_implies];exact ⟨inR_small (by omega) (by omega), hI3 (s.f.length - (q + 1)) _ (by omega) ⟨q + 1, rfl, by omega, rfl⟩⟩
  ·simp only [c10r21, c10l22m, go_sem, ↓reduceIte, reduceCtorEq, Nat.reduceLeDiff, true_implies]
   exact ⟨inR_small (by omega) (by omega), hI3 (s.f.length - (q + 1)) _ (by omega) ⟨q + 1, rfl, by omega, rfl⟩⟩
 ·simp only [c10r23, go_sem, true_implies]
  refine ⟨inR_small (by omega) (by omega), inR_small (by omega) (by omega), inR_small (by omega) (by omega), fun _ => ?_, fun h => absurd hco h⟩
  simp only [c10r25, c10r26, c10l27m, go_sem, true_implies];exact ⟨inR_small (by omega) (by omega), inR_small (by omega) (by omega), hI (5 - (i + 1)) _ (by omega) ⟨i + 1, rfl, by omega, by rw [htk]; rfl⟩⟩
end Go.Proofs.YtdlfkbpddfeenaaGreatDoor.Sk
namespace Go.Proofs.YtdlfkbpddfeenaaGreatDoor.Sk
open Go Go.E
def c11r0 : LO := [oP 2 (.boxS (.t 0)),oP 3 (.boxS (.t 1)),oP 4 (.mov bF)]
def c11r1 : LO := [oP 15 (.load 1 true (.t 2)),oP 16 (.call 44 [(.t 15)]),oP 17 (.not (.t 16))]
def c11r2 : LO := [oP 18 (.call 18 []),oM 4 18]
def c11r3 : LO := [oP 20 (.load 1 true (.t 2)),oP 21 (.load 4 true (.t 3)),oP 22 (.call 19 [(.t 20), (.t 21)]),oM 19 22,oP 23 (.ext (.t 19) 0),oP 24 (.ext (.t 19) 1),oP 5 (.alloc [(.full [])]),⟨none, none, .store 1 (.t 5) (.t 23)⟩,oM 6 24]
def c11r4 : LO := [oM 25 6,oP 26 (.cmp .neq (.t 25) (nI 0))]
def c11r5 : LO := [oP 28 (.load 1 true (.t 2)),oP 29 (.load 4 true (.t 3)),oP 30 (.call 20 [(.t 28), (.t 29)]),oM 27 30,oP 31 (.ext (.t 27) 0),oP 32 (.ext (.t 27) 1),oP 7 (.alloc [(.full [])]),⟨none, none, .store 1 (.t 7) (.t 31)⟩,oM 8 32]
def c11r6 : LO := [oM 33 6,oM 34 8,oP 35 (.cmp .eql (.t 33) (.t 34)),oM 36 35,oG 37 36 true (.call 18 []),oP 38 (.pick (.t 36) (.t 37) bF),oM 4 38]
def c11r7 : LO := [oP 39 (.load 1 true (.t 5)),oP 40 (.call 44 [(.t 39)]),oP 41 (.not (.t 40)),oM 42 41,oG 43 42 false (.load 4 true (.t 3)),oG 44 42 false (.call 24 [(.t 43)]),oG 45 42 false (.cmp .neq (.t 44) (nI 0)),oP 46 (.pick (.t 42) bT (.t 45))]
def c11r8 : LO := [oP 4 (.mov bF)]
def c11r9 : LO := [oP 48 (.load 1 true (.t 2)),oP 49 (.call 28 [(.t 48)]),oM 47 49,oP 50 (.ext (.t 47) 0),oP 51 (.ext (.t 47) 1),oM 9 50,oM 10 51]
def c11r10 : LO := [oP 53 (.load 1 true (.t 5)),oP 54 (.call 28 [(.t 53)]),oM 52 54,oP 55 (.ext (.t 52) 0),oP 56 (.ext (.t 52) 1),oM 11 55,oM 12 56]
def c11r11 : LO := [oM 57 10,oP 58 (.cmp .neq (.t 57) (nI 0)),oM 59 58,oH 60 59 false 12,oG 61 59 false (.cmp .neq (.t 60) (nI 0)),oP 62 (.pick (.t 59) bT (.t 61)),oM 63 62,oH 64 63 false 9,oG 65 63 false (.len false (.t 64)),oG 66 63 false (.cmp .neq (.t 65) (nI 5)),oP 67 (.pick (.t 63) bT (.t 66)),oM 68 67,oH 69 68 false 11,oG 70 68 false (.len false (.t 69)),oH 71 68 false 9,oG 72 68 false (.len false (.t 71)),oG 73 68 false (.cmp .neq (.t 70) (.t 72)),oP 74 (.pick (.t 68) bT (.t 73))]
def c11r12 : LO := [oP 4 (.mov bF)]
def c11r13 : LO := [oP 13 (.mov (nI 0))]
def c11r14 : LO := [oM 75 13,oM 76 9,oN 77 76,oP 78 (.cmp .lss (.t 75) (.t 77))]
def c11r15 : LO := [oM 81 11,oM 82 13,oI 83 81 82,oL 84 83,oM 85 9,oM 86 13,oI 87 85 86,oL 88 87,oP 89 (.cmp .lss (.t 84) (.t 88)),oM 90 89,oH 91 90 false 11,oH 92 90 false 13,oG 93 90 false (.idxA 1 (.t 91) (.t 92)),oG 94 90 false (.load 1 false (.t 93)),oH 95 90 false 9,oH 96 90 false 13,oG 97 90 false (.idxA 1 (.t 95) (.t 96)),oG 98 90 false (.load 1 false (.t 97)),oG 99 90 false (.cmp .gtr (.t 94) (.t 98)),oH 100 90 false 99,oH 101 100 true 13,oG 102 100 true (.fieldAddr 0 (.t 3)),oG 103 100 true (.load 1 false (.t 102)),oG 104 100 true (.cmp .neq (.t 101) (.t 103)),oG 105 90 false (.pick (.t 100) (.t 104) bF),oP 106 (.pick (.t 90) bT (.t 105))]
def c11r16 : LO := [oP 4 (.mov bF)]
def c11r17 : LO := [oM 79 13,oP 80 (.arith .add (.t 79) (nI 1)),oM 13 80]
def c11l18 : ACode := (.seq (sR c11r14 (.cond (.t 78) .skip (.exit 0))) (.seq (.block 1 (sR c11r15 (.cond (.t 106) (sR c11r16 .ret) .skip))) (rG c11r17)))
def c11l18m : List Bool := zF<|zF<|zT<|zT<|zF<|zT<|zF<|zF<|zF<|zT<|zF<|zT<|zF<|zT<|z8<|z8<|z8<|z8<|z8<|z8<|z8<|z8<|z8<|z8<|z8<|z8<|z8<|zF<|zF<|zF<|zF<|zF<|zF<|zF<|[]
def c11r19 : LO := [oF 107 0 3,oL 108 107,oM 14 108]
def c11r20 : LO := [oM 109 9,oM 110 14,oI 111 109 110,oL 112 111,oM 113 11,oM 114 14,oI 115 113 114,oL 116 115,oP 117 (.cmp .eql (.t 112) (.t 116))]
def c11r21 : LO := [oP 14 (.mov (nI (-1)))]
def c11r22 : LO := [oP 118 (.load 1 true (.t 2)),oP 119 (.load 1 true (.t 5)),oM 120 14,oP 121 (.call 45 [(.t 118), (.t 119), (.t 120)]),oM 122 121,oG 123 122 true (.call 18 []),oP 124 (.pick (.t 122) (.t 123) bF),oM 4 124]
def f11 : FRow := ⟨(sR c11r0 (.seq (sR c11r1 (.cond (.t 17) (sR c11r2 .ret) .skip)) (.seq (.reg 1 c11r3) (.seq (sR c11r4 (.cond (.t 26) (.seq (.reg 1 c11r5) (sR c11r6 .ret)) .skip)) (.seq (sR c11r7 (.cond (.t 46) (sR c11r8 .ret) .skip)) (sR c11r9 (sR c11r10 (.seq (sR c11r11 (.cond (.t 74) (sR c11r12 .ret) .skip)) (.seq (sR c11r13 (.block 0 (.loop c11l18m [] c11l18))) (sR c11r19 (.seq (sR c11r20 (.cond (.t 117) (rG c11r21) .skip)) (sR c11r22 .ret)))))))))))), [.tmp 4], 125⟩
theorem okf11 : f11.Ok Tryz.prog 11 := ⟨_, _, Tryz.func11, rfl, by kernel_rfl, by kernel_rfl, by kernel_rfl⟩
end Go.Proofs.YtdlfkbpddfeenaaGreatDoor.Sk
namespace Go.Proofs.YtdlfkbpddfeenaaGreatDoor.Sk
open Go Go.E Go.E.Sm
set_option maxRecDepth 10000
theorem mks_11 {A : List Ent} {i : Nat} (hA : OkS A) (h : i < 5) : (mksI A)[i]? = some (mark A i : Int) := by
 have : i = 0 \/ i = 1 \/ i = 2 \/ i = 3 \/ i = 4 := by omega
 rcases this with rfl | rfl | rfl | rfl | rfl <;> exact congrArg some (scn_mark hA)
theorem l11 {A : List Ent} {e : Ent} : E.Fn Tryz.prog 11 [ssn A, ent e] [.bool true] := by
 refine fn_of_row okf11 ?_;simp only [FRow.start, f11, c11r0, c11r1, ssn, ent, SV.cells, go_sem, Nat.reduceAdd, Nat.reduceSub, true_implies];refine callK_of (by simp only [ssn, go_sem]) (k44 (L := A)) (.inl rfl) ?_
 by_cases hA : ckS A = 0
 case neg =>
  rw [decide_eq_false hA];simp only [c11r2, go_sem, true_implies];refine wk ?_;simp only [go_sem, true_implies]
 rw [decide_eq_true hA];have oA := ckS_zero.1 hA;simp only [c11r3, go_sem, Nat.reduceAdd, true_implies];refine callK_of (by simp only [ssn, ent, go_sem]) (k19 (A := A) (e := e)) (.inr (by simp only [ssn, ent, go_sem]; exact .inl trivial)) ?_
 have hps := put_spec oA (e := e);have hk20 := k20 (A := A) (e := e);generalize putR A e = R at *;obtain ⟨X, er⟩ := R;simp only at hps hk20;simp only [ssn, spl_one, c11r4, go_sem, true_implies];refine ⟨fun he => ?_, fun hne => ?_⟩
 case refine_2 =>
  simp only [c11r5, go_sem, Nat.reduceAdd];refine callK_of (by simp only [ssn, ent, go_sem]) hk20 (.inr (by simp only [ssn, ent, go_sem]; exact .inl trivial)) ?_
  simp only [ssn, spl_one, c11r6, go_sem, Nat.reduceAdd, true_implies];refine wk ?_;simp only [go_sem, true_implies]
 subst he;obtain ⟨oX, hE, hmem⟩ := hps rfl;clear hps hk20;have hX := ckS_zero.2 oX;have hsub : ∀ x ∈ A, x ∈ X := fun x hx => (hmem x).2 (.inl hx)
 simp only [c11r7, go_sem];refine callK_of (by simp only [ssn, ents, go_sem]) (k44 (L := X)) (.inl rfl) ?_
 rw [decide_eq_true hX];simp only [go_sem, Nat.reduceAdd];refine callK_of (by simp only [ent, go_sem]) (k24 (e := e)) (.inl rfl) ?_
 rw [hE];simp only [c11r9, go_sem, true_implies];have hoe := ckE_zero.1 hE;have m0 := hoe.m0; have m4 := hoe.m4;have h28 : E.Fn Tryz.prog 28 [ssn A] [ints (mksI A), .int .i64 0] := fn_eq k28 (by rw [hA, if_pos rfl]; rfl)
 have h28x : E.Fn Tryz.prog 28 [ssn X] [ints (mksI X), .int .i64 0] := fn_eq k28 (by rw [hX, if_pos rfl]; rfl)
 have hml : (mksI A).length = 5 := rfl;have hmlx : (mksI X).length = 5 := rfl;have hget : ∀ i : Nat, i < 5 -> ((mksI A).map (SV.int .i64))[i]? = some (.int .i64 (mark A i)) := fun i hi => by rw [List.getElem?_map, mks_11 oA hi]; rfl
 have hgetx : ∀ i : Nat, i < 5 -> ((mksI X).map (SV.int .i64))[i]? = some (.int .i64 (mark X i)) := fun i hi => by rw [List.getElem?_map, mks_11 oX hi]; rfl
 have hq : (mksI A)[e.m.toNat]? = some (mark A e.m : Int) := by rw [mks_11 oA (by omega), Int.toNat_of_nonneg m0]
 have hqx : (mksI X)[e.m.toNat]? = some (mark X e.m : Int) := by rw [mks_11 oX (by omega), Int.toNat_of_nonneg m0]
 generalize mksI A = ms at *;generalize mksI X = ns at *;refine callK_of (by simp only [ssn, ents, go_sem]) h28 (.inr (by simp only [ssn, ents, go_sem]; exact .inl trivial)) ?_
 simp only [c11r10, go_sem, true_implies];refine callK_of (by simp only [ssn, ents, go_sem]) h28x (.inr (by simp only [ssn, ents, go_sem]; exact .inl trivial)) ?_
 simp only [c11r11, ints, hml, hmlx, go_sem, true_implies];refine ⟨fun _ _ => ?_, fun h => absurd rfl h⟩
 have hmm := fun i : Nat => mark_le oA oX hsub (m := (i : Int))
 have hms := fun i : Nat => mark_same oA oX hmem (m := (i : Int))
 simp only [c11r13, go_sem, true_implies]
 refine loop_rule (fun k τ => ∃ i : Nat, k = 5 - i /\ i <= 5 /\
  τ = ⟨(aN::aN::(.s (.ptr [ents A]))::(.s (.ptr [.int .i64 e.m, .int .i64 e.n, .int .i64 e.k, .int .i64 e.a]))::aN::(.loc 0 0)::aN::aN::aN::(.s (ints ms))::aN::(.s (ints ns))::aN::(aI i)::aN::aN::aN::aN::aN::aN::aN::aZ104), [.obj [.s (ents X)]]⟩) 5 rfl ?_ ?_
 ·simp only [c11l18m, ints, go_sem, ↓reduceIte, reduceCtorEq, Nat.reduceLeDiff]
  exact ⟨0, rfl, by decide, rfl⟩
 rintro I k τ ⟨i, rfl, hi, rfl⟩ hI;simp only [c11l18, c11r14, ints, hml, go_sem, ↓reduceIte];refine fun _ => ⟨fun hlt => ?_, fun hge => ?_⟩
 ·have hi5 : i < 5 := by omega
  have z1 : ((mark X i : Int) < (mark A i : Int)) = False := eq_false (by have := hmm i; omega)
  simp only [c11r15, Int.toNat_natCast, hget i hi5, hgetx i hi5, z1, go_sem, Nat.reduceAdd, Nat.reduceLeDiff, true_implies];refine ⟨fun h => ⟨fun _ => ?_, fun hne => absurd (hms i hne) (by omega)⟩, fun h => ?_⟩
  all_goals
   simp only [c11r17, c11l18m, go_sem, ↓reduceIte, reduceCtorEq, Nat.reduceLeDiff, true_implies];exact ⟨inR_small (by omega) (by omega), hI (5 - (i + 1)) _ (by omega) ⟨i + 1, rfl, by omega, rfl⟩⟩
 ·simp only [c11r19, c11r20, hq, hqx, go_sem, Nat.reduceAdd, Nat.reduceLeDiff, true_implies]
  refine ⟨m0, m0, fun heq => ?_, fun hne => ?_⟩
  ·simp only [c11r21, c11r22, go_sem, Int.reduceNeg, true_implies]
   refine callK_of (by simp only [ssn, go_sem, Int.reduceNeg]) (k45t (but := -1) oA oX fun i _ _ => ?_) (.inl rfl) ?_
   ·refine st_same oA oX hsub ?_
    by_cases h : (i : Int) = e.m
    ·rw [h]; exact Int.ofNat.inj heq
    ·exact hms i h
   simp only [go_sem, Int.reduceNeg];refine wk ?_;simp only [go_sem, Int.reduceNeg, true_implies]
  ·simp only [c11r22, go_sem]
   refine callK_of (by simp only [ssn, go_sem]) (k45t oA oX fun i _ h => st_same oA oX hsub (hms i h)) (.inl rfl) ?_
   simp only [go_sem];refine wk ?_;simp only [go_sem, true_implies]
end Go.Proofs.YtdlfkbpddfeenaaGreatDoor.Sk
namespace Go.Proofs.YtdlfkbpddfeenaaGreatDoor.Sk
open Go Go.E
def sm0 (e : Ent) : Ent := { e with m := 0 }
theorem stT_ext {A X : List Ent} {m k : Int} {t : Nat} (hf : ∀ j : Nat, j < t -> (fnd A m ((j + 1 : Nat) : Int)).map sm0 = (fnd X k ((j + 1 : Nat) : Int)).map sm0)
  (hl : ∀ j : Nat, j < t -> lft A m ((j + 1 : Nat) : Int) = lft X k ((j + 1 : Nat) : Int)) : stT A m t = stT X k t := by
 have key : ∀ j : Nat, j <= t -> stT A m j = stT X k j := by
  intro j
  induction j with
  | zero => intro _; rfl
  | succ j ih =>
   intro hj;have h1 := hf j (by omega)
   simp only [stT];rw [hl j (by omega), ih (by omega)]
   cases ha : fnd A m ((j + 1 : Nat) : Int) <;> cases hx : fnd X k ((j + 1 : Nat) : Int) <;> rw [ha, hx] at h1
   ·exact absurd h1 (by simp)
   ·exact absurd h1 (by simp)
   ·rename_i x y
    simp only [Option.map_some, Option.some.injEq] at h1
    have : nxS (stT X k j) x = nxS (stT X k j) y := by
     show nxS (stT X k j) (sm0 x) = nxS (stT X k j) (sm0 y)
     rw [h1]
    simp only [this]
 exact key t (Nat.le_refl _)
theorem lft_ext {A X : List Ent} {m k n : Int} (hm : mark A m = mark X k) (h : ∀ j : Nat, j < mark A m -> (fnd A m ((j + 1 : Nat) : Int)).map sm0 = (fnd X k ((j + 1 : Nat) : Int)).map sm0) : lft A m n = lft X k n := by
 have key : ∀ j : Nat, j < mark A m -> (match fnd A m ((j + 1 : Nat) : Int) with | some e => decide (e.k = 5 /\ e.a = n) | none => false) = (match fnd X k ((j + 1 : Nat) : Int) with | some e => decide (e.k = 5 /\ e.a = n) | none => false) := fun j hj => by
  have h1 := h j hj
  cases ha : fnd A m ((j + 1 : Nat) : Int) <;> cases hx : fnd X k ((j + 1 : Nat) : Int) <;> rw [ha, hx] at h1
  ·exact absurd h1 (by simp)
  ·exact absurd h1 (by simp)
  ·rename_i x y
   simp only [Option.map_some, Option.some.injEq, sm0, Ent.mk.injEq] at h1;simp only [h1.2.2.1, h1.2.2.2]
 unfold lft;rw [<- hm, Bool.eq_iff_iff, List.any_eq_true, List.any_eq_true];constructor
 ·rintro ⟨j, hj, he⟩
  exact ⟨j, hj, (key j (List.mem_range.1 hj)).symm.trans he⟩
 ·rintro ⟨j, hj, he⟩
  exact ⟨j, hj, (key j (List.mem_range.1 hj)).trans he⟩
theorem stL_ext {A X : List Ent} {m k : Int} (hm : mark A m = mark X k) (h : ∀ j : Nat, j < mark A m -> (fnd A m ((j + 1 : Nat) : Int)).map sm0 = (fnd X k ((j + 1 : Nat) : Int)).map sm0) : stL A m = stL X k := by
 unfold stL;rw [<- hm];exact stT_ext h fun j _ => lft_ext hm h
theorem fnd_iff {X : List Ent} (h : X.Pairwise Bef) {m n : Int} {y : Ent} : fnd X m n = some y ↔ y ∈ X /\ y.m = m /\ y.n = n :=
 ⟨fnd_some, fun ⟨h1, h2, h3⟩ => by rw [<- h2, <- h3]; exact fnd_mem h h1⟩
theorem fnd_ext {A X : List Ent} (hA : A.Pairwise Bef) (hX : X.Pairwise Bef) {m n : Int} (h : ∀ y : Ent, y.m = m -> y.n = n -> (y ∈ A ↔ y ∈ X)) : fnd A m n = fnd X m n := by
 cases ha : fnd A m n with
 | some y =>
  obtain ⟨h1, h2, h3⟩ := fnd_some ha;exact ((fnd_iff hX).2 ⟨(h y h2 h3).1 h1, h2, h3⟩).symm
 | none =>
  cases hx : fnd X m n with
  | none => rfl
  | some y =>
   obtain ⟨h1, h2, h3⟩ := fnd_some hx;rw [(fnd_iff hA).2 ⟨(h y h2 h3).2 h1, h2, h3⟩] at ha
   cases ha
theorem has_fnd {A X : List Ent} {m k n j : Int} (h : fnd A m n = fnd X k j) : has A m n = has X k j := by unfold has; rw [h]
theorem mark_ext {A X : List Ent} (oA : OkS A) (oX : OkS X) {m k : Int} (h : ∀ j : Nat, has A m (j : Int) = has X k (j : Int)) : mark A m = mark X k := by
 have hX : ∀ e ∈ X, e.n <= 30 := fun e he => (oX.ent e he).n30
 have s := mark_spec (m := k) hX;exact mark_eq (fun e he => (oA.ent e he).n30) (fun j h1 h2 => by rw [h]; exact s.1 j h1 h2) (by rw [h]; exact s.2.1)
theorem taken {A : List Ent} {i n : Int} {last : Ent} (oA : OkS A) (hl : A.length < 24) (h0 : 0 <= i) (h4 : i <= 4) (hn : grt A i = n) (hf : fnd A i n = some last) (hm : (mark A i : Int) = n) (hk : last.k ≠ 5) (h30 : n < 30) :
  ∃ X, putR A ⟨i, n + 1, 5, n⟩ = (X, 0) /\ OkS X /\ OkS (A.filter fun x => decide (x ≠ last)) /\ ∀ j : Int, stL X j = stL (A.filter fun x => decide (x ≠ last)) j := by
 obtain ⟨hlA, hlm, hln⟩ := fnd_some hf;have hol := oA.ent last hlA;have h1n : 1 <= n := by rw [<- hln]; exact hol.n1
 have hE : ckE ⟨i, n + 1, 5, n⟩ = 0 := ckE_zero.2 ⟨h0, h4, by simp only; omega, by simp only; omega, by simp only; omega, by simp only; omega, by simp, by simp, by simp, fun _ => ⟨h1n, by simp only; omega⟩⟩
 have hno : fnd A i (n + 1) = none := by
  cases hh : fnd A i (n + 1) with
  | none => rfl
  | some y =>
   have := grt_max (L := A) (m := i) (n := n + 1) (by unfold has; rw [hh]; rfl)
   omega
 have hput := putR_new (ckS_zero.2 oA) hE (e := ⟨i, n + 1, 5, n⟩) hno hl;have hmem : ∀ x, x ∈ ins ⟨i, n + 1, 5, n⟩ A ↔ x = ⟨i, n + 1, 5, n⟩ \/ x ∈ A := fun x => mem_ins hno
 have oX : OkS (ins ⟨i, n + 1, 5, n⟩ A) := ⟨by rw [ins_len hno]; omega, fun e he => by
  rcases (hmem e).1 he with rfl | he
  ·exact ckE_zero.1 hE
  ·exact oA.ent e he, ins_ord oA.ord⟩
 generalize ins ⟨i, n + 1, 5, n⟩ A = X at *;have oL : OkS (A.filter fun x => decide (x ≠ last)) := ⟨Nat.le_trans (List.length_filter_le _ _) oA.len, fun e he => oA.ent e (List.mem_filter.1 he).1, oA.ord.filter _⟩
 have hmemL : ∀ x, x ∈ A.filter (fun x => decide (x ≠ last)) ↔ x ∈ A /\ x ≠ last := fun x => by rw [List.mem_filter, decide_eq_true_eq]
 generalize A.filter (fun x => decide (x ≠ last)) = Y at *
 refine ⟨X, hput, oX, oL, fun j => ?_⟩
 by_cases hj : j = i
 ·subst hj
  have hbA : ∀ e ∈ A, e.n <= 30 := fun e he => (oA.ent e he).n30
  have sA := mark_spec (m := j) hbA
  have fX : ∀ t : Int, t <= n -> fnd X j t = fnd A j t := fun t ht => fnd_ext oX.ord oA.ord fun y h1 h2 => by
   rw [hmem];exact ⟨fun h => h.resolve_left fun e => by subst e; simp only at h2; omega, .inr⟩
  have fY : ∀ t : Int, t < n -> fnd Y j t = fnd A j t := fun t ht => fnd_ext oL.ord oA.ord fun y h1 h2 => by
   rw [hmemL];exact ⟨fun h => h.1, fun h => ⟨h, fun e => by subst e; omega⟩⟩
  have fXn : fnd X j (n + 1) = some ⟨j, n + 1, 5, n⟩ := (fnd_iff oX.ord).2 ⟨(hmem _).2 (.inl rfl), rfl, rfl⟩
  have fYn : fnd Y j n = none := fnd_none.2 fun y hy ⟨h1, h2⟩ => by
   obtain ⟨h3, h4⟩ := (hmemL y).1 hy;have := fnd_mem oA.ord h3;rw [h1, h2, hf] at this;exact h4 (Option.some.inj this).symm
  have nX : ∀ t : Int, n + 1 < t -> has X j t = false := fun t ht => by
   rw [has_no, fnd_none];intro y hy ⟨h1, h2⟩
   rcases (hmem y).1 hy with rfl | hy
   ·simp only at h2; omega
   ·have := grt_max (has_iff.2 ⟨y, hy, h1, rfl⟩); omega
  obtain ⟨N, hN⟩ : ∃ N : Nat, n = ((N + 1 : Nat) : Int) := ⟨(n - 1).toNat, by omega⟩
  have mX : mark X j = N + 2 := mark_eq (fun e he => (oX.ent e he).n30) (fun t h1 h2 => by
   by_cases e : t = N + 2
   ·rw [e, show ((N + 2 : Nat) : Int) = n + 1 by omega]; unfold has; rw [fXn]; rfl
   ·rw [has_fnd (fX t (by omega))]; exact sA.1 t h1 (by omega)) (nX _ (by omega))
  have mY : mark Y j = N := mark_eq (fun e he => (oL.ent e he).n30) (fun t h1 h2 => by
   rw [has_fnd (fY t (by omega))]; exact sA.1 t h1 (by omega)) (by rw [<- hN, has_no]; exact fYn)
  have lX : ∀ t : Int, lft X j t = (decide (t = n) || lft Y j t) := fun t => by
   unfold lft;rw [mX, mY, List.range_succ, List.range_succ, List.any_append, List.any_append, List.any_cons, List.any_nil, List.any_cons, List.any_nil, Bool.or_false, Bool.or_false, show ((N + 1 + 1 : Nat) : Int) = n + 1 by omega, <- hN, fXn, fX n (by omega), hf]
   simp only [hk, false_and, decide_false, Bool.or_false, true_and];rw [Bool.or_comm];have e1 : decide (n = t) = decide (t = n) := by rw [decide_eq_decide]; exact ⟨Eq.symm, Eq.symm⟩
   rw [e1]
   congr 1
   rw [Bool.eq_iff_iff, List.any_eq_true, List.any_eq_true];constructor
   ·rintro ⟨q, hq, he⟩
    refine ⟨q, hq, ?_⟩;have := List.mem_range.1 hq;rw [fX _ (by omega)] at he
    rw [fY _ (by omega)]; exact he
   ·rintro ⟨q, hq, he⟩
    refine ⟨q, hq, ?_⟩;have := List.mem_range.1 hq;rw [fY _ (by omega)] at he
    rw [fX _ (by omega)]; exact he
  unfold stL;rw [mX, mY, show N + 2 = (N + 1) + 1 from rfl, stT, stT];rw [show ((N + 1 + 1 : Nat) : Int) = n + 1 by omega, <- hN, lX, lX, fXn]
  simp only [decide_true, Bool.true_or, if_true]
  have hst : stT X j N = stT Y j N := stT_ext (fun q hq => by rw [fX _ (by omega), fY _ (by omega)]) fun q hq => by
   rw [lX, decide_eq_false (by omega), Bool.false_or]
  rw [hst]
  split
  ·rfl
  ·simp [nxS, rfs]
 ·have hXA : ∀ t : Int, fnd X j t = fnd A j t := fun t => fnd_ext oX.ord oA.ord fun y h1 h2 => by
   rw [hmem];exact ⟨fun h => h.resolve_left fun e => by subst e; exact hj h1.symm, .inr⟩
  have hYA : ∀ t : Int, fnd Y j t = fnd A j t := fun t => fnd_ext oL.ord oA.ord fun y h1 h2 => by
   rw [hmemL];exact ⟨fun h => h.1, fun h => ⟨h, fun e => by subst e; exact hj (h1.symm.trans hlm)⟩⟩
  exact stL_ext (mark_ext oX oL fun t => has_fnd ((hXA t).trans (hYA t).symm)) fun t _ => by rw [hXA, hYA]
def mvE (k : Int) (e : Ent) : Ent := { e with m := k }
theorem apart_x {A : List Ent} {i : Int} (oA : OkS A) : OkS (A.filter fun e => decide (e.m = i)) /\ stL (A.filter fun e => decide (e.m = i)) i = stL A i := by
 have oX : OkS (A.filter fun e => decide (e.m = i)) := ⟨Nat.le_trans (List.length_filter_le _ _) oA.len, fun e he => oA.ent e (List.mem_filter.1 he).1, oA.ord.filter _⟩
 have hf : ∀ t : Int, fnd (A.filter fun e => decide (e.m = i)) i t = fnd A i t := fun t => fnd_ext oX.ord oA.ord fun y h1 h2 => by
  rw [List.mem_filter, decide_eq_true_eq];exact ⟨fun h => h.1, fun h => ⟨h, h1⟩⟩
 exact ⟨oX, stL_ext (mark_ext oX oA fun t => has_fnd (hf t)) fun t _ => by rw [hf]⟩
theorem apart_y {A : List Ent} {i k : Int} (oA : OkS A) (h0 : 0 <= k) (h4 : k <= 4) : OkS ((A.filter fun e => decide (e.m = i)).map (mvE k)) /\ stL ((A.filter fun e => decide (e.m = i)).map (mvE k)) k = stL A i /\ mark ((A.filter fun e => decide (e.m = i)).map (mvE k)) k = mark A i := by
 have hord : (A.filter fun e => decide (e.m = i)).Pairwise fun x y => x.n < y.n := by
  refine List.Pairwise.imp_of_mem (fun {x y} hx hy hb => ?_) (oA.ord.filter fun e => decide (e.m = i))
  have h1 := (List.mem_filter.1 hx).2;have h2 := (List.mem_filter.1 hy).2;rw [decide_eq_true_eq] at h1 h2;unfold Bef at hb;omega
 have oY : OkS ((A.filter fun e => decide (e.m = i)).map (mvE k)) := by
  refine ⟨by rw [List.length_map]; exact Nat.le_trans (List.length_filter_le _ _) oA.len, fun e he => ?_, ?_⟩
  ·obtain ⟨x, hx, rfl⟩ := List.mem_map.1 he
   have o := oA.ent x (List.mem_filter.1 hx).1;exact ⟨h0, h4, o.n1, o.n30, o.a0, o.a100, o.k1, o.k5, o.am, o.bk⟩
  ·rw [List.pairwise_map]
   exact hord.imp fun h => .inr ⟨rfl, h⟩
 have hf : ∀ t : Int, (fnd ((A.filter fun e => decide (e.m = i)).map (mvE k)) k t).map sm0 = (fnd A i t).map sm0 := fun t => by
  cases ha : fnd A i t with
  | some y =>
   obtain ⟨h1, h2, h3⟩ := fnd_some ha;rw [(fnd_iff oY.ord (m := k) (n := t) (y := mvE k y)).2 ⟨List.mem_map.2 ⟨y, List.mem_filter.2 ⟨h1, by simpa using h2⟩, rfl⟩, rfl, h3⟩]
   rfl
  | none =>
   cases hy : fnd ((A.filter fun e => decide (e.m = i)).map (mvE k)) k t with
   | none => rfl
   | some y =>
    obtain ⟨h1, h2, h3⟩ := fnd_some hy;obtain ⟨x, hx, rfl⟩ := List.mem_map.1 h1;obtain ⟨h5, h6⟩ := List.mem_filter.1 hx;rw [(fnd_iff oA.ord (m := i) (n := t) (y := x)).2 ⟨h5, by simpa using h6, h3⟩] at ha
    cases ha
 have hm : mark ((A.filter fun e => decide (e.m = i)).map (mvE k)) k = mark A i := mark_ext oY oA fun t => by
  have := hf t;unfold has
  cases h1 : fnd ((A.filter fun e => decide (e.m = i)).map (mvE k)) k t <;> cases h2 : fnd A i t <;> rw [h1, h2] at this <;> first | rfl | exact absurd this (by simp)
 exact ⟨oY, stL_ext hm fun t _ => hf _, hm⟩
def c12r0 : LO := [oP 2 (.boxS (.t 0)),oP 4 (.mov bF)]
def c12r1 : LO := [oP 13 (.load 1 true (.t 2)),oP 14 (.call 44 [(.t 13)]),oP 15 (.not (.t 14)),oM 16 15,oG 17 16 false (.fieldAddr 0 (.t 2)),oG 18 16 false (.load 1 false (.t 17)),oG 19 16 false (.len false (.t 18)),oG 20 16 false (.cmp .geq (.t 19) (nI 24)),oP 21 (.pick (.t 16) bT (.t 20))]
def c12r2 : LO := [oP 22 (.call 18 []),oM 4 22]
def c12r3 : LO := [oM 23 1,oP 24 (.conv .i64 (.t 23)),oP 25 (.div .rem (.t 24) (nI 5)),oM 5 25]
def c12r4 : LO := [oP 26 (.load 1 true (.t 2)),oM 27 5,oP 28 (.call 50 [(.t 26), (.t 27)]),oM 6 28]
def c12r5 : LO := [oP 30 (.load 1 true (.t 2)),oM 31 5,oM 32 6,oP 33 (.call 48 [(.t 30), (.t 31), (.t 32)]),oM 29 33,oP 34 (.ext (.t 29) 0),oP 35 (.ext (.t 29) 1),oP 7 (.alloc [(.s (.int .i64 0)), (.s (.int .i64 0)), (.s (.int .i64 0)), (.s (.int .i64 0))]),⟨none, none, .store 4 (.t 7) (.t 34)⟩,oM 8 35]
def c12r6 : LO := [oM 36 8,oP 37 (.not (.t 36)),oM 38 37,oG 39 38 false (.load 1 true (.t 2)),oH 40 38 false 5,oG 41 38 false (.call 47 [(.t 39), (.t 40)]),oH 42 38 false 6,oG 43 38 false (.cmp .neq (.t 41) (.t 42)),oP 44 (.pick (.t 38) bT (.t 43)),oM 45 44,oG 46 45 false (.fieldAddr 2 (.t 7)),oG 47 45 false (.load 1 false (.t 46)),oG 48 45 false (.cmp .eql (.t 47) (nI 5)),oP 49 (.pick (.t 45) bT (.t 48)),oM 50 49,oH 51 50 false 6,oG 52 50 false (.cmp .geq (.t 51) (nI 30)),oP 53 (.pick (.t 50) bT (.t 52))]
def c12r7 : LO := [oP 54 (.call 18 []),oM 4 54]
def c12r8 : LO := [oP 9 (.alloc [(.full [])])]
def c12r9 : LO := [oP 10 (.mov (nI 0))]
def c12r10 : LO := [oM 55 10,oF 56 0 2,oL 57 56,oN 58 57,oP 59 (.cmp .lss (.t 55) (.t 58))]
def c12r11 : LO := [oF 62 0 2,oL 63 62,oM 64 10,oP 65 (.idxA 4 (.t 63) (.t 64)),oP 66 (.load 4 true (.t 65)),oP 67 (.load 4 true (.t 7)),oP 68 (.eql true [(.int .i64), (.int .i64), (.int .i64), (.int .i64)] true (.t 66) (.t 67))]
def c12r12 : LO := [oF 69 0 9,oL 70 69,oF 71 0 2,oL 72 71,oM 73 10,oP 74 (.idxA 4 (.t 72) (.t 73)),oP 75 (.load 4 true (.t 74)),oP 76 (.buildSl 4 1 (.agg [(.int .i64 0), (.int .i64 0), (.int .i64 0), (.int .i64 0)]) [(0, (.t 75))]),oP 77 (.append 4 32 (.t 70) (.t 76)),oF 78 0 9,⟨none, none, .store 1 (.t 78) (.t 77)⟩]
def c12r13 : LO := [oM 60 10,oP 61 (.arith .add (.t 60) (nI 1)),oM 10 61]
def c12l14 : ACode := (.seq (sR c12r10 (.cond (.t 59) .skip (.exit 0))) (.seq (.block 1 (sR c12r11 (.cond (.t 68) (.reg 1 c12r12) .skip))) (rG c12r13)))
def c12l14m : List Bool := zF<|zF<|zT<|zF<|zF<|zT<|zT<|zT<|zF<|zT<|zT<|z8<|z8<|z8<|z8<|z8<|z8<|z8<|z8<|z8<|z8<|z8<|zF<|zF<|zF<|zF<|[]
def c12r15 : LO := [oP 80 (.load 1 true (.t 2)),oM 81 5,oM 82 6,oP 83 (.arith .add (.t 82) (nI 1)),oM 84 6,oP 85 (.call 51 [(.t 81), (.t 83), (nI 5), (.t 84)]),oP 86 (.call 19 [(.t 80), (.t 85)]),oM 79 86,oP 87 (.ext (.t 79) 0),oP 88 (.ext (.t 79) 1),oP 11 (.alloc [(.full [])]),⟨none, none, .store 1 (.t 11) (.t 87)⟩,oM 12 88]
def c12r16 : LO := [oM 89 12,oP 90 (.cmp .eql (.t 89) (nI 0)),oM 91 90,oG 92 91 true (.load 1 true (.t 11)),oG 93 91 true (.call 44 [(.t 92)]),oP 94 (.pick (.t 91) (.t 93) bF),oM 95 94,oG 96 95 true (.load 1 true (.t 11)),oG 97 95 true (.load 1 true (.t 9)),oG 98 95 true (.call 45 [(.t 96), (.t 97), (nI (-1))]),oP 99 (.pick (.t 95) (.t 98) bF),oM 100 99,oG 101 100 true (.call 18 []),oP 102 (.pick (.t 100) (.t 101) bF),oM 4 102]
def f12 : FRow := ⟨(sR c12r0 (.seq (sR c12r1 (.cond (.t 21) (sR c12r2 .ret) .skip)) (sR c12r3 (sR c12r4 (.seq (.reg 1 c12r5) (.seq (sR c12r6 (.cond (.t 53) (sR c12r7 .ret) .skip)) (.seq (.reg 1 c12r8) (.seq (sR c12r9 (.block 0 (.loop c12l14m [(9, some 0, 3)] c12l14))) (.seq (.reg 1 c12r15) (sR c12r16 .ret)))))))))), [.tmp 4], 103⟩
theorem okf12 : f12.Ok Tryz.prog 12 := ⟨_, _, Tryz.func12, rfl, by kernel_rfl, by kernel_rfl, by kernel_rfl⟩
end Go.Proofs.YtdlfkbpddfeenaaGreatDoor.Sk
namespace Go.Proofs.YtdlfkbpddfeenaaGreatDoor.Sk
open Go Go.E Go.E.Sm
set_option maxRecDepth 10000
theorem ne_take {A : List Ent} {l : Ent} {i : Nat} {x : Ent} (hx : A[i]? = some x) : (A.take (i + 1)).filter (fun e => decide (e ≠ l)) = if x ≠ l then (A.take i).filter (fun e => decide (e ≠ l)) ++ [x] else (A.take i).filter fun e => decide (e ≠ l) := by
 rw [take_snoc hx, List.filter_append]
 by_cases h : x ≠ l
 ·rw [if_pos h, List.filter_cons_of_pos (by simpa using h)]; rfl
 ·rw [if_neg h, List.filter_cons_of_neg (by simpa using h), List.filter_nil, List.append_nil]
theorem l12 {A : List Ent} {b : Nat} (hb : b < 256) : E.Fn Tryz.prog 12 [ssn A, .int .u8 b] [.bool true] := by
 refine fn_of_row okf12 ?_;simp only [FRow.start, f12, c12r0, c12r1, ssn, SV.cells, go_sem, Nat.reduceAdd, Nat.reduceSub, true_implies];refine callK_of (by simp only [ssn, go_sem]) (k44 (L := A)) (.inl rfl) ?_
 by_cases hA : ckS A = 0
 case neg =>
  rw [decide_eq_false hA];simp only [c12r2, go_sem, true_implies];refine wk ?_;simp only [go_sem, true_implies]
 rw [decide_eq_true hA];have oA := ckS_zero.1 hA;simp only [ents, go_sem, Nat.reduceLeDiff];intro _;refine ⟨fun h => ?_, fun hl24 => ?_⟩
 ·simp only [c12r2, go_sem]
  refine wk ?_;simp only [go_sem, true_implies]
 have et : (b : Int).tmod 5 = ((b % 5 : Nat) : Int) := by rw [Int.tmod_eq_emod_of_nonneg (by omega)]; omega
 simp only [c12r3, et, go_sem, true_implies];refine ⟨inR_small (by omega) (by omega), by decide, ?_⟩
 generalize hi : b % 5 = i;have hi5 : i < 5 := by rw [<- hi]; exact Nat.mod_lt _ (by decide)
 clear hi et;have h48 := k48 (L := A) (m := i) (n := grt A i);have htk := fun l h1 h2 h3 h4 => taken (A := A) (i := i) (n := grt A i) (last := l) oA (by omega) (by omega) (by omega) rfl h1 h2 h3 h4
 have hgb := grt_bd (m := (i : Int)) oA;have h50 := k50 (L := A) (m := (i : Int));generalize grt A i = n at *;simp only [c12r4, go_sem];refine callK_of (by simp only [ssn, ents, go_sem]) h50 (.inl rfl) ?_
 simp only [c12r5, go_sem, true_implies];refine callK_of (by simp only [ssn, ents, go_sem]) h48 (.inl rfl) ?_
 cases hf : fnd A i n with
 | none =>
  simp only [Option.getD_none, Option.isSome_none];simp only [ent, e0, spl4, c12r6, c12r7, go_sem, Nat.reduceAdd, true_implies];refine wk ?_;simp only [go_sem, true_implies]
 | some last =>
  simp only [Option.getD_some, Option.isSome_some];simp only [ent, spl4, c12r6, go_sem, Nat.reduceAdd, true_implies];refine callK_of (by simp only [ssn, ents, go_sem]) (k47 (m := (i : Int)) oA) (.inl rfl) ?_
  simp only [go_sem, true_implies];refine ⟨fun hm => ⟨fun hk => ?_, fun hk => ⟨fun h30 => ?_, fun h30 => ?_⟩⟩, fun hm => ?_⟩
  case' refine_1 =>
   simp only [c12r7, go_sem]
  case' refine_2 =>
   simp only [c12r7, go_sem]
  case' refine_4 =>
   simp only [c12r7, go_sem]
  case refine_3 =>
   obtain ⟨X, x1, x2, x3, x4⟩ := htk last hf hm hk (by omega)
   have h51 := k51 (e := ⟨i, n + 1, 5, n⟩);have h19 : E.Fn Tryz.prog 19 [ssn A, ent ⟨i, n + 1, 5, n⟩] [ssn X, .int .i64 0] := fn_eq k19 (by rw [x1])
   have hX := ckS_zero.2 x2;have h44 : E.Fn Tryz.prog 44 [ssn X] [.bool true] := fn_eq (k44 (L := X)) (by rw [decide_eq_true hX])
   have h45 := k45t (but := -1) x2 x3 fun i _ _ => x4 i
   simp only [c12r8, c12r9, go_sem, Nat.reduceAdd, true_implies]
   refine loop_rule (fun k τ => ∃ i2 : Nat, k = A.length - i2 /\ i2 <= A.length /\
    τ = ⟨(aN::aN::(.s (.ptr [.slice (A.map ent)]))::aN::aN::(aI i)::(aI n)::(.loc 0 0)::aN::(.loc 1 0)::(aI i2)::aN::aN::aN::aN::aZ88), [.obj [aI last.m, aI last.n, aI last.k, aI last.a], .obj [.sl 2 0 ((A.take i2).filter fun e => decide (e ≠ last)).length 4 false], .row (flE ((A.take i2).filter fun e => decide (e ≠ last)))]⟩) A.length rfl ?_ ?_
   ·simp only [c12l14m, go_sem]
    exact ⟨0, rfl, Nat.zero_le _, rfl⟩
   rintro I k τ ⟨j, rfl, hj, rfl⟩ hI;have hsl := List.length_filter_le (fun e : Ent => decide (e ≠ last)) (A.take j)
   rw [List.length_take] at hsl;simp only [c12l14, c12r10, go_sem, ↓reduceIte, Nat.reduceAdd, Nat.reduceLeDiff];refine fun _ => ⟨fun hlt => ?_, fun hge => ?_⟩
   ·have hx : A[j]? = some A[j] := List.getElem?_eq_getElem hlt
    generalize A[j] = x at hx;have hst := ne_take (l := last) hx;simp only [c12r11, hx, ent_cells, go_sem, Nat.reduceAdd, Nat.reduceLeDiff, true_implies];refine ⟨fun he => ?_, fun hne => ?_⟩
    ·have hxl : x = last := ent_inj.1 he
     rw [if_neg (by simp [hxl])] at hst
     simp only [c12r13, c12l14m, go_sem, true_implies];exact ⟨inR_small (by omega) (by omega), hI (A.length - (j + 1)) _ (by omega) ⟨j + 1, rfl, by omega, by rw [hst]; rfl⟩⟩
    ·have hxl : x ≠ last := fun e => hne (by rw [e])
     rw [if_pos hxl] at hst;simp only [c12r12, hx, ent_cells, go_sem, Nat.reduceAdd, Nat.reduceLeDiff, Nat.reduceMul];refine ⟨by decide, by decide, rfl, four_cells, four_cells, by rw [flE_len]; omega, by omega, by omega, ?_⟩
     simp only [spl_one, Nat.reduceBEq, Bool.false_eq_true, beq_self_eq_true, c12r13, c12l14m, flE_snoc, go_sem, ↓reduceIte, Nat.reduceAdd, true_implies];refine ⟨inR_small (by omega) (by omega), hI (A.length - (j + 1)) _ (by omega) ⟨j + 1, rfl, by omega, ?_⟩⟩
     rw [hst, List.length_append]; rfl
   ·have hje : j = A.length := by omega
    subst hje;rw [List.take_length];simp only [c12r15, go_sem];refine ⟨inR_small (by omega) (by omega), ?_⟩
    refine callK_of rfl h51 (.inr (by simp only [ent, go_sem]; exact .inl trivial)) ?_
    simp only [ent, go_sem];refine callK_of (by simp only [ssn, ents, ent, go_sem]) h19 (.inr (by simp only [ssn, ents, ent, go_sem]; exact .inl trivial)) ?_
    simp only [ssn, spl_one, c12r16, go_sem, Nat.reduceAdd, Int.reduceNeg, true_implies];refine callK_of (by simp only [ssn, ents, go_sem]) h44 (.inl rfl) ?_
    simp only [go_sem, Int.reduceNeg];refine callK_of (by simp only [ssn, ents, slice_ents rfl, go_sem, Int.reduceNeg]) h45 (.inl rfl) ?_
    simp only [go_sem];refine wk ?_;simp only [go_sem, true_implies]
  all_goals
   refine wk ?_;simp only [go_sem, true_implies]
theorem l12i {A : List Ent} {n : Int} (hn : 0 <= n /\ n < 256) : E.Fn Tryz.prog 12 [ssn A, .int .u8 n] [.bool true] := by
 have h := l12 (A := A) (b := n.toNat) (by omega)
 rw [show ((n.toNat : Nat) : Int) = n by omega] at h
 exact h
theorem at_take {A : List Ent} {m : Int} {i : Nat} {x : Ent} (hx : A[i]? = some x) : (A.take (i + 1)).filter (fun e => decide (e.m = m)) = if x.m = m then (A.take i).filter (fun e => decide (e.m = m)) ++ [x] else (A.take i).filter fun e => decide (e.m = m) := by
 rw [take_snoc hx, List.filter_append]
 by_cases h : x.m = m
 ·rw [if_pos h, List.filter_cons_of_pos (by simpa using h)]; rfl
 ·rw [if_neg h, List.filter_cons_of_neg (by simpa using h), List.filter_nil, List.append_nil]
theorem k52 {A : List Ent} {m : Int} (hA : A.length <= 30) : E.Fn Tryz.prog 52 [ssn A, .int .i64 m] [ssn (A.filter fun e => decide (e.m = m))] := by
 refine fn_of_row okf52 ?_;simp only [FRow.start, f52, c52r0, c52r1, c52r2, ssn, SV.cells, go_sem, Nat.reduceAdd, Nat.reduceSub, true_implies]
 refine loop_rule (fun k τ => ∃ i : Nat, k = A.length - i /\ i <= A.length /\
  τ = ⟨(aN::(aI m)::(.s (.ptr [.slice (A.map ent)]))::aN::(.loc 0 0)::(.loc 1 0)::(aI i)::aN::aN::aZ24), [.obj [.full []], .obj [.sl 2 0 ((A.take i).filter fun e => decide (e.m = m)).length 4 false], .row (flE ((A.take i).filter fun e => decide (e.m = m)))]⟩) A.length rfl ?_ ?_
 ·simp only [c52l7m, ents, go_sem]
  exact ⟨0, rfl, Nat.zero_le _, rfl⟩
 rintro I k τ ⟨i, rfl, hi, rfl⟩ hI;have hsl := List.length_filter_le (fun e : Ent => decide (e.m = m)) (A.take i)
 rw [List.length_take] at hsl;simp only [c52l7, c52r3, go_sem, ↓reduceIte, Nat.reduceAdd, Nat.reduceLeDiff];intro hmx;refine ⟨fun hlt => ?_, fun hge => ?_⟩
 ·have hx : A[i]? = some A[i] := List.getElem?_eq_getElem hlt
  generalize A[i] = x at hx;have hst := at_take (m := m) hx;simp only [c52r4, hx, ent_cells, go_sem, Nat.reduceAdd, Nat.reduceLeDiff, true_implies];refine ⟨fun hm => ?_, fun hm => ?_⟩
  ·rw [if_pos hm] at hst
   simp only [c52r5, hx, ent_cells, go_sem, Nat.reduceAdd, Nat.reduceLeDiff, Nat.reduceMul];refine ⟨by decide, by decide, rfl, four_cells, four_cells, by rw [flE_len]; omega, by omega, by omega, ?_⟩
   simp only [spl_one, Nat.reduceBEq, Bool.false_eq_true, beq_self_eq_true, c52r6, c52l7m, flE_snoc, go_sem, ↓reduceIte, Nat.reduceAdd, true_implies];refine ⟨inR_small (by omega) (by omega), hI (A.length - (i + 1)) _ (by omega) ⟨i + 1, rfl, by omega, ?_⟩⟩
   rw [hst, List.length_append]; rfl
  ·rw [if_neg hm] at hst
   simp only [c52r6, c52l7m, go_sem, true_implies];refine ⟨inR_small (by omega) (by omega), hI (A.length - (i + 1)) _ (by omega) ⟨i + 1, rfl, by omega, ?_⟩⟩
   rw [hst]; rfl
 ·have hi2 : i = A.length := by omega
  subst hi2;rw [List.take_length];simp only [c52r8, spl_one, slice_ents rfl, go_sem, true_implies]
end Go.Proofs.YtdlfkbpddfeenaaGreatDoor.Sk
namespace Go.Proofs.YtdlfkbpddfeenaaGreatDoor.Sk
open Go Go.E
def c13r0 : LO := [oP 3 (.boxS (.t 0)),oP 6 (.mov bF)]
def c13r1 : LO := [oP 23 (.load 1 true (.t 3)),oP 24 (.call 44 [(.t 23)]),oP 25 (.not (.t 24))]
def c13r2 : LO := [oP 26 (.call 18 []),oM 6 26]
def c13r3 : LO := [oM 27 1,oP 28 (.conv .i64 (.t 27)),oP 29 (.div .rem (.t 28) (nI 5)),oM 30 2,oP 31 (.conv .i64 (.t 30)),oP 32 (.div .rem (.t 31) (nI 5)),oM 7 29,oM 8 32]
def c13r4 : LO := [oP 33 (.load 1 true (.t 3)),oM 34 7,oP 35 (.call 52 [(.t 33), (.t 34)]),oP 9 (.alloc [(.full [])]),⟨none, none, .store 1 (.t 9) (.t 35)⟩]
def c13r5 : LO := [oP 10 (.alloc [(.full [])])]
def c13r6 : LO := [oP 11 (.mov (nI 0))]
def c13r7 : LO := [oM 36 11,oF 37 0 9,oL 38 37,oN 39 38,oP 40 (.cmp .lss (.t 36) (.t 39))]
def c13r8 : LO := [oF 43 0 9,oL 44 43,oM 45 11,oP 46 (.idxA 4 (.t 44) (.t 45)),oP 47 (.load 4 true (.t 46)),oP 12 (.alloc [(.s (.int .i64 0)), (.s (.int .i64 0)), (.s (.int .i64 0)), (.s (.int .i64 0))]),⟨none, none, .store 4 (.t 12) (.t 47)⟩]
def c13r9 : LO := [oM 48 8,oF 49 0 12,⟨none, none, .store 1 (.t 49) (.t 48)⟩]
def c13r10 : LO := [oF 50 0 10,oL 51 50,oP 52 (.load 4 true (.t 12)),oP 53 (.buildSl 4 1 (.agg [(.int .i64 0), (.int .i64 0), (.int .i64 0), (.int .i64 0)]) [(0, (.t 52))]),oP 54 (.append 4 32 (.t 51) (.t 53)),oF 55 0 10,⟨none, none, .store 1 (.t 55) (.t 54)⟩]
def c13r11 : LO := [oM 41 11,oP 42 (.arith .add (.t 41) (nI 1)),oM 11 42]
def c13l12 : ACode := (.seq (sR c13r7 (.cond (.t 40) .skip (.exit 0))) (.seq (.block 1 (.seq (.reg 1 c13r8) (sR c13r9 (.reg 1 c13r10)))) (rG c13r11)))
def c13l12m : List Bool := zF<|zF<|zF<|zT<|zF<|zF<|zF<|zT<|zT<|zT<|zT<|zT<|z8<|z8<|z8<|z8<|z8<|z8<|z8<|z8<|z8<|z8<|z8<|z8<|z8<|z8<|z8<|zF<|zF<|zF<|zF<|[]
def c13r13 : LO := [oP 57 (.load 1 true (.t 3)),oM 58 7,oP 59 (.call 35 [(.t 57), (.t 58)]),oM 56 59,oP 60 (.ext (.t 56) 0),oP 61 (.ext (.t 56) 1),oP 13 (.alloc [(.s (.int .i64 0)), (.s (.int .i64 0)), (.s (.int .i64 0)), (.s (.int .i64 0)), (.s (.int .i64 0)), (.full [])]),⟨none, none, .store 6 (.t 13) (.t 60)⟩,oM 14 61]
def c13r14 : LO := [oP 63 (.load 1 true (.t 9)),oM 64 7,oP 65 (.call 35 [(.t 63), (.t 64)]),oM 62 65,oP 66 (.ext (.t 62) 0),oP 67 (.ext (.t 62) 1),oP 15 (.alloc [(.s (.int .i64 0)), (.s (.int .i64 0)), (.s (.int .i64 0)), (.s (.int .i64 0)), (.s (.int .i64 0)), (.full [])]),⟨none, none, .store 6 (.t 15) (.t 66)⟩,oM 16 67]
def c13r15 : LO := [oP 69 (.load 1 true (.t 10)),oM 70 8,oP 71 (.call 35 [(.t 69), (.t 70)]),oM 68 71,oP 72 (.ext (.t 68) 0),oP 73 (.ext (.t 68) 1),oP 17 (.alloc [(.s (.int .i64 0)), (.s (.int .i64 0)), (.s (.int .i64 0)), (.s (.int .i64 0)), (.s (.int .i64 0)), (.full [])]),⟨none, none, .store 6 (.t 17) (.t 72)⟩,oM 18 73]
def c13r16 : LO := [oP 75 (.load 1 true (.t 3)),oP 76 (.call 28 [(.t 75)]),oM 74 76,oP 77 (.ext (.t 74) 0),oP 78 (.ext (.t 74) 1),oM 19 77,oM 20 78]
def c13r17 : LO := [oP 80 (.load 1 true (.t 10)),oP 81 (.call 28 [(.t 80)]),oM 79 81,oP 82 (.ext (.t 79) 0),oP 83 (.ext (.t 79) 1),oM 21 82,oM 22 83]
def c13r18 : LO := [oM 84 14,oP 85 (.cmp .neq (.t 84) (nI 0)),oM 86 85,oH 87 86 false 16,oG 88 86 false (.cmp .neq (.t 87) (nI 0)),oP 89 (.pick (.t 86) bT (.t 88)),oM 90 89,oH 91 90 false 18,oG 92 90 false (.cmp .neq (.t 91) (nI 0)),oP 93 (.pick (.t 90) bT (.t 92)),oM 94 93,oH 95 94 false 20,oG 96 94 false (.cmp .neq (.t 95) (nI 0)),oP 97 (.pick (.t 94) bT (.t 96)),oM 98 97,oH 99 98 false 22,oG 100 98 false (.cmp .neq (.t 99) (nI 0)),oP 101 (.pick (.t 98) bT (.t 100)),oM 102 101,oH 103 102 false 19,oG 104 102 false (.len false (.t 103)),oG 105 102 false (.cmp .neq (.t 104) (nI 5)),oP 106 (.pick (.t 102) bT (.t 105)),oM 107 106,oH 108 107 false 21,oG 109 107 false (.len false (.t 108)),oH 110 107 false 19,oG 111 107 false (.len false (.t 110)),oG 112 107 false (.cmp .neq (.t 109) (.t 111)),oP 113 (.pick (.t 107) bT (.t 112))]
def c13r19 : LO := [oP 6 (.mov bF)]
def c13r20 : LO := [oP 114 (.load 6 true (.t 13)),oP 115 (.load 6 true (.t 15)),oP 116 (.call 39 [(.t 114), (.t 115)]),oM 117 116,oG 118 117 true (.load 6 true (.t 13)),oG 119 117 true (.load 6 true (.t 17)),oG 120 117 true (.call 39 [(.t 118), (.t 119)]),oP 121 (.pick (.t 117) (.t 120) bF),oM 122 121,oH 123 122 true 19,oH 124 122 true 7,oG 125 122 true (.idxA 1 (.t 123) (.t 124)),oG 126 122 true (.load 1 false (.t 125)),oH 127 122 true 21,oH 128 122 true 8,oG 129 122 true (.idxA 1 (.t 127) (.t 128)),oG 130 122 true (.load 1 false (.t 129)),oG 131 122 true (.cmp .eql (.t 126) (.t 130)),oP 132 (.pick (.t 122) (.t 131) bF),oM 133 132,oG 134 133 true (.call 18 []),oP 135 (.pick (.t 133) (.t 134) bF),oM 6 135]
def f13 : FRow := ⟨(sR c13r0 (.seq (sR c13r1 (.cond (.t 25) (sR c13r2 .ret) .skip)) (sR c13r3 (.seq (.reg 1 c13r4) (.seq (.reg 1 c13r5) (.seq (sR c13r6 (.block 0 (.loop c13l12m [(10, some 0, 3)] c13l12))) (.seq (.reg 1 c13r13) (.seq (.reg 1 c13r14) (.seq (.zap 10 0 (.reg 1 c13r15)) (sR c13r16 (sR c13r17 (.seq (sR c13r18 (.cond (.t 113) (sR c13r19 .ret) .skip)) (sR c13r20 .ret))))))))))))), [.tmp 6], 136⟩
theorem okf13 : f13.Ok Tryz.prog 13 := ⟨_, _, Tryz.func13, rfl, by kernel_rfl, by kernel_rfl, by kernel_rfl⟩
end Go.Proofs.YtdlfkbpddfeenaaGreatDoor.Sk
namespace Go.Proofs.YtdlfkbpddfeenaaGreatDoor.Sk
open Go Go.E Go.E.Sm
set_option maxRecDepth 10000
theorem mks_of {A : List Ent} {i : Nat} (hA : OkS A) (h : i < 5) : (mksI A)[i]? = some (mark A i : Int) := by
 have : i = 0 \/ i = 1 \/ i = 2 \/ i = 3 \/ i = 4 := by omega
 rcases this with rfl | rfl | rfl | rfl | rfl <;> exact congrArg some (scn_mark hA)
theorem spl4a {a b c d x : LV} : splice [a, b, c, d] 0 [x] = [x, b, c, d] := rfl
theorem l13 {A : List Ent} {b c : Nat} (hb : b < 256) (hc : c < 256) : E.Fn Tryz.prog 13 [ssn A, .int .u8 b, .int .u8 c] [.bool true] := by
 refine fn_of_row okf13 ?_;simp only [FRow.start, f13, c13r0, c13r1, ssn, SV.cells, go_sem, Nat.reduceAdd, Nat.reduceSub, true_implies];refine callK_of (by simp only [ssn, go_sem]) (k44 (L := A)) (.inl rfl) ?_
 by_cases hA : ckS A = 0
 case neg =>
  rw [decide_eq_false hA];simp only [c13r2, go_sem, true_implies];refine wk ?_;simp only [go_sem, true_implies]
 rw [decide_eq_true hA];have oA := ckS_zero.1 hA;have h24 := oA.len;have et : (b : Int).tmod 5 = ((b % 5 : Nat) : Int) := by rw [Int.tmod_eq_emod_of_nonneg (by omega)]; omega
 have et2 : (c : Int).tmod 5 = ((c % 5 : Nat) : Int) := by rw [Int.tmod_eq_emod_of_nonneg (by omega)]; omega
 simp only [c13r3, et, et2, go_sem, true_implies];refine ⟨inR_small (by omega) (by omega), by decide, inR_small (by omega) (by omega), by decide, ?_⟩
 generalize hi : b % 5 = i;generalize hk : c % 5 = k;have hi5 : i < 5 := by rw [<- hi]; exact Nat.mod_lt _ (by decide)
 have hk5 : k < 5 := by rw [<- hk]; exact Nat.mod_lt _ (by decide)
 clear hi hk et et2;have hx := apart_x (A := A) (i := (i : Int)) oA;have hy := apart_y (A := A) (i := (i : Int)) (k := (k : Int)) oA (by omega) (by omega)
 have hxl := List.length_filter_le (fun e : Ent => decide (e.m = (i : Int))) A
 have r : ∀ (L : List Ent) (i : Nat), OkS L -> i < 5 -> E.Fn Tryz.prog 35 [ssn L, .int .i64 i] [stV (stL L i), .int .i64 0] := fun L i hL hi => by
  have hck : ckM L i = 0 := by unfold ckM; rw [if_neg (by simp [ckS_zero.2 hL]), if_pos (by omega)]
  exact fn_eq k35 (by rw [hck, if_pos rfl])
 have m : ∀ L : List Ent, OkS L -> E.Fn Tryz.prog 28 [ssn L] [ints (mksI L), .int .i64 0] := fun L hL => fn_eq k28 (by rw [ckS_zero.2 hL, if_pos rfl]; rfl)
 simp only [c13r4, go_sem];refine callK_of (by simp only [ssn, go_sem]) (k52 (A := A) (m := (i : Int)) (by omega)) (.inr (by simp only [ssn, go_sem]; exact .inl trivial)) ?_
 generalize A.filter (fun e => decide (e.m = (i : Int))) = X at *
 simp only [ssn, spl_one, c13r5, c13r6, go_sem, Nat.reduceAdd, true_implies]
 refine loop_rule (fun q τ => ∃ j : Nat, q = X.length - j /\ j <= X.length /\
  τ = ⟨(aN::aN::aN::(.s (.ptr [ents A]))::aN::aN::aN::(aI i)::(aI k)::(.loc 0 0)::(.loc 1 0)::(aI j)::aN::aN::aN::aN::aZ120), [.obj [.s (ents X)], .obj [.sl 2 0 j 4 false], .row (flE ((X.take j).map (mvE k)))]⟩) X.length rfl ?_ ?_
 ·simp only [c13l12m, ents, go_sem]
  exact ⟨0, rfl, Nat.zero_le _, rfl⟩
 rintro I q τ ⟨j, rfl, hj, rfl⟩ hI;simp only [c13l12, c13r7, ents, go_sem, ↓reduceIte, Nat.reduceAdd];refine fun _ => ⟨fun hlt => ?_, fun hge => ?_⟩
 ·have hxj : X[j]? = some X[j] := List.getElem?_eq_getElem hlt
  generalize X[j] = x at hxj;have hst : (X.take (j + 1)).map (mvE k) = (X.take j).map (mvE k) ++ [mvE k x] := by rw [take_snoc hxj, List.map_append]; rfl
  have hsl : ((X.take j).map (mvE k)).length = j := by rw [List.length_map, List.length_take]; omega
  simp only [c13r8, hxj, ent_cells, spl4, c13r9, c13r10, spl4a, go_sem, Nat.reduceAdd, Nat.reduceLeDiff, Nat.reduceMul, true_implies];refine ⟨by decide, by decide, rfl, four_cells, four_cells, by rw [flE_len, hsl]; omega, by omega, by omega, ?_⟩
  have hfl := flE_snoc (l := (X.take j).map (mvE k)) (e := mvE k x);simp only [spl_one, Nat.reduceBEq, Bool.false_eq_true, beq_self_eq_true, c13r11, c13l12m, go_sem, ↓reduceIte, Nat.reduceAdd, true_implies];refine ⟨inR_small (by omega) (by omega), hI (X.length - (j + 1)) _ (by omega) ⟨j + 1, rfl, by omega, ?_⟩⟩
  rw [hst, <- flE_snoc]; rfl
 ·have hje : j = X.length := by omega
  subst hje;rw [List.take_length];simp only [c13r13, go_sem];refine callK_of (by simp only [ssn, ents, go_sem]) (r A i oA hi5) (.inr (by simp only [ssn, ents, go_sem]; exact .inl trivial)) ?_
  simp only [stV, splice, c13r14, go_sem, Nat.reduceAdd, true_implies];refine callK_of (by simp only [ssn, ents, go_sem]) (r X i hx.1 hi5) (.inr (by simp only [ssn, ents, go_sem]; exact .inl trivial)) ?_
  have hro : rowOf 0 X.length 4 (flE (X.map (mvE (k : Int)))) = some ((X.map (mvE (k : Int))).map ent) := by
   have := row_app (l := X.map (mvE (k : Int))) (zs := [])
   rwa [List.append_nil, List.length_map] at this
  simp only [stV, splice, c13r15, go_sem, Nat.reduceAdd, true_implies];refine ⟨_, hro, ?_⟩;have hyk := r _ k hy.1 hk5;have hmy := m _ hy.1;rw [hy.2.1] at hyk;have oY := hy.1;have hmk := hy.2.2;rw [hx.2];generalize X.map (mvE (k : Int)) = Y at *;refine callK_of (by simp only [ssn, ents, go_sem]) hyk (.inr (by simp only [ssn, ents, go_sem]; exact .inl trivial)) ?_
  have hml : (mksI A).length = 5 := rfl;have hmly : (mksI Y).length = 5 := rfl;have hmA := m A oA;have hgA := mks_of (i := i) oA hi5;have hgY := mks_of (i := k) oY hk5;rw [hmk] at hgY;generalize mksI A = ms at *;generalize mksI Y = ns at *;simp only [stV, splice, c13r16, go_sem, Nat.reduceAdd, true_implies];refine callK_of (by simp only [ssn, ents, go_sem]) hmA (.inr (by simp only [ssn, ents, go_sem]; exact .inl trivial)) ?_
  simp only [c13r17, go_sem, Nat.reduceAdd, true_implies];refine callK_of (by simp only [ssn, ents, go_sem]) hmy (.inr (by simp only [ssn, ents, go_sem]; exact .inl trivial)) ?_
  simp only [c13r18, ints, hml, hmly, go_sem, Nat.reduceAdd, true_implies];refine ⟨fun _ _ => ?_, fun h => absurd rfl h⟩
  simp only [c13r20, go_sem, Nat.reduceAdd];refine callK_of (by simp only [stV, ints, go_sem]) (k39t (s := stL A i)) (.inl rfl) ?_
  simp only [go_sem, Nat.reduceAdd];refine callK_of (by simp only [stV, ints, go_sem]) (k39t (s := stL A i)) (.inl rfl) ?_
  simp only [Int.toNat_natCast, hgA, hgY, go_sem];refine wk ?_;simp only [go_sem, true_implies]
theorem l13i {A : List Ent} {n q : Int} (hn : 0 <= n /\ n < 256) (hq : 0 <= q /\ q < 256) : E.Fn Tryz.prog 13 [ssn A, .int .u8 n, .int .u8 q] [.bool true] := by
 have h := l13 (A := A) (b := n.toNat) (c := q.toNat) (by omega) (by omega)
 rw [show ((n.toNat : Nat) : Int) = n by omega, show ((q.toNat : Nat) : Int) = q by omega] at h
 exact h
end Go.Proofs.YtdlfkbpddfeenaaGreatDoor.Sk
namespace Go.Proofs.YtdlfkbpddfeenaaGreatDoor.Sk
open Go Go.E
def c15r0 : LO := [oP 2 (.boxS (.t 0)),oP 4 (.mov bF)]
def c15r1 : LO := [oP 14 (.load 1 true (.t 2)),oP 15 (.call 44 [(.t 14)]),oP 16 (.not (.t 15)),oM 17 16,oG 18 17 false (.fieldAddr 0 (.t 2)),oG 19 17 false (.load 1 false (.t 18)),oG 20 17 false (.len false (.t 19)),oG 21 17 false (.cmp .geq (.t 20) (nI 24)),oP 22 (.pick (.t 17) bT (.t 21))]
def c15r2 : LO := [oP 23 (.call 18 []),oM 4 23]
def c15r3 : LO := [oM 24 1,oP 25 (.conv .i64 (.t 24)),oP 26 (.div .rem (.t 25) (nI 5)),oM 5 26]
def c15r4 : LO := [oP 28 (.load 1 true (.t 2)),oM 29 5,oP 30 (.call 30 [(.t 28), (.t 29)]),oM 27 30,oP 31 (.ext (.t 27) 0),oP 32 (.ext (.t 27) 1),oM 6 31,oM 7 32]
def c15r5 : LO := [oP 34 (.load 1 true (.t 2)),oP 35 (.call 28 [(.t 34)]),oM 33 35,oP 36 (.ext (.t 33) 0),oP 37 (.ext (.t 33) 1),oM 8 36,oM 9 37]
def c15r6 : LO := [oM 38 7,oP 39 (.cmp .neq (.t 38) (nI 0)),oM 40 39,oH 41 40 false 9,oG 42 40 false (.cmp .neq (.t 41) (nI 0)),oP 43 (.pick (.t 40) bT (.t 42)),oM 44 43,oH 45 44 false 8,oG 46 44 false (.len false (.t 45)),oG 47 44 false (.cmp .neq (.t 46) (nI 5)),oP 48 (.pick (.t 44) bT (.t 47))]
def c15r7 : LO := [oP 4 (.mov bF)]
def c15r8 : LO := [oM 49 6,oN 50 49,oP 51 (.cmp .eql (.t 50) (nI 0))]
def c15r9 : LO := [oM 52 8,oM 53 5,oI 54 52 53,oL 55 54,oP 56 (.load 1 true (.t 2)),oM 57 5,oP 58 (.call 50 [(.t 56), (.t 57)]),oP 59 (.cmp .eql (.t 55) (.t 58)),oM 60 59,oG 61 60 true (.call 18 []),oP 62 (.pick (.t 60) (.t 61) bF),oM 4 62]
def c15r10 : LO := [oM 63 8,oM 64 5,oI 65 63 64,oL 66 65,oM 67 6,oP 68 (.idxA 1 (.t 67) (nI 0)),oL 69 68,oP 70 (.arith .sub (.t 69) (nI 1)),oP 71 (.cmp .neq (.t 66) (.t 70)),oM 72 71,oH 73 72 false 8,oH 74 72 false 5,oG 75 72 false (.idxA 1 (.t 73) (.t 74)),oG 76 72 false (.load 1 false (.t 75)),oG 77 72 false (.cmp .lss (.t 76) (nI 0)),oP 78 (.pick (.t 72) bT (.t 77)),oM 79 78,oH 80 79 false 8,oH 81 79 false 5,oG 82 79 false (.idxA 1 (.t 80) (.t 81)),oG 83 79 false (.load 1 false (.t 82)),oG 84 79 false (.cmp .geq (.t 83) (nI 30)),oP 85 (.pick (.t 79) bT (.t 84))]
def c15r11 : LO := [oP 4 (.mov bF)]
def c15r12 : LO := [oP 87 (.load 1 true (.t 2)),oM 88 5,oM 89 6,oP 90 (.idxA 1 (.t 89) (nI 0)),oL 91 90,oP 92 (.call 51 [(.t 88), (.t 91), (nI 2), (nI 0)]),oP 93 (.call 19 [(.t 87), (.t 92)]),oM 86 93,oP 94 (.ext (.t 86) 0),oP 95 (.ext (.t 86) 1),oP 10 (.alloc [(.full [])]),⟨none, none, .store 1 (.t 10) (.t 94)⟩,oM 11 95]
def c15r13 : LO := [oM 96 11,oP 97 (.cmp .neq (.t 96) (nI 0)),oM 98 97,oG 99 98 false (.load 1 true (.t 10)),oG 100 98 false (.call 44 [(.t 99)]),oG 101 98 false (.not (.t 100)),oP 102 (.pick (.t 98) bT (.t 101))]
def c15r14 : LO := [oP 4 (.mov bF)]
def c15r15 : LO := [oP 104 (.load 1 true (.t 10)),oP 105 (.call 28 [(.t 104)]),oM 103 105,oP 106 (.ext (.t 103) 0),oP 107 (.ext (.t 103) 1),oM 12 106,oM 7 107]
def c15r16 : LO := [oP 109 (.load 1 true (.t 10)),oM 110 5,oP 111 (.call 30 [(.t 109), (.t 110)]),oM 108 111,oP 112 (.ext (.t 108) 0),oP 113 (.ext (.t 108) 1),oM 13 112,oM 9 113]
def c15r17 : LO := [oM 114 7,oP 115 (.cmp .eql (.t 114) (nI 0)),oM 116 115,oH 117 116 true 9,oG 118 116 true (.cmp .eql (.t 117) (nI 0)),oP 119 (.pick (.t 116) (.t 118) bF),oM 120 119,oH 121 120 true 12,oG 122 120 true (.len false (.t 121)),oH 123 120 true 8,oG 124 120 true (.len false (.t 123)),oG 125 120 true (.cmp .eql (.t 122) (.t 124)),oP 126 (.pick (.t 120) (.t 125) bF),oM 127 126,oH 128 127 true 12,oH 129 127 true 5,oG 130 127 true (.idxA 1 (.t 128) (.t 129)),oG 131 127 true (.load 1 false (.t 130)),oH 132 127 true 8,oH 133 127 true 5,oG 134 127 true (.idxA 1 (.t 132) (.t 133)),oG 135 127 true (.load 1 false (.t 134)),oG 136 127 true (.cmp .gtr (.t 131) (.t 135)),oP 137 (.pick (.t 127) (.t 136) bF),oM 138 137,oH 139 138 true 13,oH 140 138 true 6,oG 141 138 true (.slice 1 (.t 140) (some (nI 1)) none none),oG 142 138 true (.call 34 [(.t 139), (.t 141)]),oP 143 (.pick (.t 138) (.t 142) bF),oM 144 143,oG 145 144 true (.call 18 []),oP 146 (.pick (.t 144) (.t 145) bF),oM 4 146]
def f15 : FRow := ⟨(sR c15r0 (.seq (sR c15r1 (.cond (.t 22) (sR c15r2 .ret) .skip)) (sR c15r3 (sR c15r4 (sR c15r5 (.seq (sR c15r6 (.cond (.t 48) (sR c15r7 .ret) .skip)) (.seq (sR c15r8 (.cond (.t 51) (sR c15r9 .ret) .skip)) (.seq (sR c15r10 (.cond (.t 85) (sR c15r11 .ret) .skip)) (.seq (.reg 1 c15r12) (.seq (sR c15r13 (.cond (.t 102) (sR c15r14 .ret) .skip)) (sR c15r15 (sR c15r16 (sR c15r17 .ret))))))))))))), [.tmp 4], 147⟩
theorem okf15 : f15.Ok Tryz.prog 15 := ⟨_, _, Tryz.func15, rfl, by kernel_rfl, by kernel_rfl, by kernel_rfl⟩
end Go.Proofs.YtdlfkbpddfeenaaGreatDoor.Sk
namespace Go.Proofs.YtdlfkbpddfeenaaGreatDoor.Sk
open Go Go.E Go.E.Sm
set_option maxRecDepth 10000
theorem mks_get {A : List Ent} {i : Nat} (hA : OkS A) (h : i < 5) : (mksI A)[i]? = some (mark A i : Int) := by
 have : i = 0 \/ i = 1 \/ i = 2 \/ i = 3 \/ i = 4 := by omega
 rcases this with rfl | rfl | rfl | rfl | rfl <;> exact congrArg some (scn_mark hA)
theorem l15 {A : List Ent} {b : Nat} (hb : b < 256) : E.Fn Tryz.prog 15 [ssn A, .int .u8 b] [.bool true] := by
 refine fn_of_row okf15 ?_;simp only [FRow.start, f15, c15r0, c15r1, ssn, SV.cells, go_sem, Nat.reduceAdd, Nat.reduceSub, true_implies];refine callK_of (by simp only [ssn, go_sem]) (k44 (L := A)) (.inl rfl) ?_
 by_cases hA : ckS A = 0
 case neg =>
  rw [decide_eq_false hA];simp only [c15r2, go_sem, true_implies];refine wk ?_;simp only [go_sem, true_implies]
 rw [decide_eq_true hA];have oA := ckS_zero.1 hA;simp only [ents, go_sem, Nat.reduceLeDiff];intro _;refine ⟨fun h => ?_, fun h => ?_⟩
 ·simp only [c15r2, go_sem]
  refine wk ?_;simp only [go_sem, true_implies]
 have et : (b : Int).tmod 5 = ((b % 5 : Nat) : Int) := by rw [Int.tmod_eq_emod_of_nonneg (by omega)]; omega
 simp only [c15r3, et, go_sem, true_implies];refine ⟨inR_small (by omega) (by omega), by decide, ?_⟩
 generalize hi : b % 5 = i;have hi5 : i < 5 := by rw [<- hi]; exact Nat.mod_lt _ (by decide)
 clear hi et;have hck : ckM A i = 0 := by unfold ckM; rw [if_neg (by simp [hA]), if_pos (by omega)]
 have h30 : E.Fn Tryz.prog 30 [ssn A, .int .i64 i] [ints (gap A i), .int .i64 0] := fn_eq k30 (by rw [hck, if_pos rfl, gap_eq oA])
 have h28 : E.Fn Tryz.prog 28 [ssn A] [ints (mksI A), .int .i64 0] := fn_eq k28 (by rw [hA, if_pos rfl]; rfl)
 have hget := mks_get (i := i) oA hi5;have hml : (mksI A).length = 5 := rfl;have hgl : (mksI A).map (SV.int .i64) = (mksI A).map (SV.int .i64) := rfl;have hn := gap_none (m := i) oA;have hf := fun g gs => gap_first (m := i) (g := g) (gs := gs) oA
 have hp := fun g gs => gap_put (m := i) (g := g) (gs := gs) oA (by omega) (by omega) (by omega)
 generalize mksI A = ms at *;generalize gap A i = G at *;have hgm : (ms.map (SV.int .i64))[i]? = some (.int .i64 (mark A i)) := by rw [List.getElem?_map, hget]; rfl
 simp only [c15r4, go_sem];refine callK_of (by simp only [ssn, ents, go_sem]) h30 (.inr (by simp only [ssn, ents, go_sem]; exact .inl trivial)) ?_
 simp only [c15r5, go_sem, true_implies];refine callK_of (by simp only [ssn, ents, go_sem]) h28 (.inr (by simp only [ssn, ents, go_sem]; exact .inl trivial)) ?_
 simp only [c15r6, ints, hml, go_sem, true_implies];intro _;refine ⟨fun _ => ?_, fun h => absurd rfl h⟩
 cases G with
 | nil =>
  have hn0 := hn rfl;simp only [c15r8, c15r9, Int.toNat_natCast, hgm, go_sem];intro _;refine ⟨fun _ => ?_, fun h => absurd rfl h⟩
  refine callK_of (by simp only [ssn, ents, go_sem]) (k50 (L := A) (m := (i : Int))) (.inl rfl) ?_
  simp only [go_sem, true_implies];refine ⟨fun _ => ?_, fun h => absurd hn0 h⟩
  refine wk ?_;simp only [go_sem, true_implies]
 | cons g gs =>
  obtain ⟨f1, f2, f3, f4⟩ := hf g gs rfl;obtain ⟨X, x1, x2, x3, x4⟩ := hp g gs rfl;simp only [c15r8, c15r10, Int.toNat_natCast, hgm, go_sem, Int.reduceToNat, true_implies];intro _;refine ⟨fun h => absurd h (by omega), fun _ => ?_⟩
  have hb30 := grt_bd (m := (i : Int)) oA;refine ⟨inR_small (by omega) (by omega), fun _ => ⟨fun h => absurd h (by omega), fun _ => ⟨fun h => absurd h (by omega), fun _ => ?_⟩⟩, fun h => absurd f1 h⟩
  have h19 : E.Fn Tryz.prog 19 [ssn A, ent ⟨i, g, 2, 0⟩] [ssn X, .int .i64 0] := fn_eq k19 (by rw [x1])
  have hX := ckS_zero.2 x2;have hckX : ckM X i = 0 := by unfold ckM; rw [if_neg (by simp [hX]), if_pos (by omega)]
  have h44 : E.Fn Tryz.prog 44 [ssn X] [.bool true] := fn_eq (k44 (L := X)) (by rw [decide_eq_true hX])
  have h28x : E.Fn Tryz.prog 28 [ssn X] [ints (mksI X), .int .i64 0] := fn_eq k28 (by rw [hX, if_pos rfl]; rfl)
  have h30x : E.Fn Tryz.prog 30 [ssn X, .int .i64 i] [ints gs, .int .i64 0] := fn_eq k30 (by rw [hckX, if_pos rfl, gap_eq x2, x4])
  have hgetx := mks_get (i := i) x2 hi5;have hmlx : (mksI X).length = 5 := rfl;generalize mksI X = mx at *;have hgx : (mx.map (SV.int .i64))[i]? = some (.int .i64 (mark X i)) := by rw [List.getElem?_map, hgetx]; rfl
  simp only [c15r12, go_sem, Int.reduceToNat];refine callK_of (by simp only [go_sem]) (k51 (e := ⟨i, g, 2, 0⟩)) (.inr (by simp only [go_sem]; exact .inl trivial)) ?_
  simp only [ent, go_sem];refine callK_of (by simp only [ssn, ents, ent, go_sem]) h19 (.inr (by simp only [ssn, ents, ent, go_sem]; exact .inl trivial)) ?_
  simp only [ssn, spl_one, c15r13, go_sem, true_implies];refine callK_of (by simp only [ssn, ents, go_sem]) h44 (.inl rfl) ?_
  simp only [c15r15, go_sem, true_implies];refine callK_of (by simp only [ssn, ents, go_sem]) h28x (.inr (by simp only [ssn, ents, go_sem]; exact .inl trivial)) ?_
  simp only [c15r16, go_sem, true_implies];refine callK_of (by simp only [ssn, ents, go_sem]) h30x (.inr (by simp only [ssn, ents, go_sem]; exact .inl trivial)) ?_
  simp only [c15r17, ints, hml, hmlx, hgm, hgx, Int.toNat_natCast, go_sem, ↓reduceIte, Nat.reduceLeDiff, Int.reduceLE, Int.reduceToNat, true_implies];refine ⟨fun _ => ⟨.inr fun e he => ?_, ?_⟩, fun h => absurd x3 h⟩
  ·rcases List.mem_cons.1 he with rfl | he
   ·rfl
   ·obtain ⟨z, _, rfl⟩ := List.mem_map.1 he; rfl
  rw [show gs.length + 1 - 1 = (gs.map (SV.int .i64)).length by simp, List.take_length]
  refine callK_of (by simp only [go_sem]; rfl) (k34t (l := gs)) (.inl rfl) ?_
  simp only [go_sem];refine wk ?_;simp only [go_sem]
theorem l15i {A : List Ent} {n : Int} (hn : 0 <= n /\ n < 256) : E.Fn Tryz.prog 15 [ssn A, .int .u8 n] [.bool true] := by
 have h := l15 (A := A) (b := n.toNat) (by omega)
 rw [show ((n.toNat : Nat) : Int) = n by omega] at h
 exact h
end Go.Proofs.YtdlfkbpddfeenaaGreatDoor.Sk
