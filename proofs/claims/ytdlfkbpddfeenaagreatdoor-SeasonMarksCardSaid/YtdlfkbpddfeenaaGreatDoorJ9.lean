/- The code of a law in the value semantics. -/
import Derived.Test.YtdlfkbpddfeenaaGreatDoorJ8

set_option linter.all false

namespace Go.Proofs.YtdlfkbpddfeenaaGreatDoor.Sk
open Go Go.E
def c3r0 : LO := [oP 3 (.boxS (.t 0)),oP 4 (.boxS (.t 1)),oP 5 (.boxS (.t 2)),oP 6 (.mov bF)]
def c3r1 : LO := [oP 15 (.load 1 true (.t 3)),oP 16 (.call 17 [(.t 15)]),oM 17 16,oG 18 17 false (.load 1 true (.t 4)),oG 19 17 false (.call 17 [(.t 18)]),oP 20 (.pick (.t 17) bT (.t 19))]
def c3r2 : LO := [oP 21 (.call 18 []),oM 6 21]
def c3r3 : LO := [oP 23 (.load 1 true (.t 3)),oP 24 (.load 4 true (.t 5)),oP 25 (.call 19 [(.t 23), (.t 24)]),oM 22 25,oP 26 (.ext (.t 22) 0),oP 27 (.ext (.t 22) 1),oP 7 (.alloc [(.full [])]),⟨none, none, .store 1 (.t 7) (.t 26)⟩,oM 8 27]
def c3r4 : LO := [oP 29 (.load 1 true (.t 3)),oP 30 (.load 4 true (.t 5)),oP 31 (.call 20 [(.t 29), (.t 30)]),oM 28 31,oP 32 (.ext (.t 28) 0),oP 33 (.ext (.t 28) 1),oP 9 (.alloc [(.full [])]),⟨none, none, .store 1 (.t 9) (.t 32)⟩,oM 10 33]
def c3r5 : LO := [oP 35 (.load 1 true (.t 3)),oP 36 (.load 1 true (.t 4)),oP 37 (.call 21 [(.t 35), (.t 36)]),oM 34 37,oP 38 (.ext (.t 34) 0),oP 39 (.ext (.t 34) 1),oP 11 (.alloc [(.full [])]),⟨none, none, .store 1 (.t 11) (.t 38)⟩,oM 12 39]
def c3r6 : LO := [oP 41 (.load 1 true (.t 3)),oP 42 (.load 1 true (.t 4)),oP 43 (.call 22 [(.t 41), (.t 42)]),oM 40 43,oP 44 (.ext (.t 40) 0),oP 45 (.ext (.t 40) 1),oP 13 (.alloc [(.full [])]),⟨none, none, .store 1 (.t 13) (.t 44)⟩,oM 14 45]
def c3r7 : LO := [oP 46 (.load 4 true (.t 5)),oP 47 (.call 23 [(.t 46)]),oP 48 (.load 4 true (.t 5)),oP 49 (.call 24 [(.t 48)]),oP 50 (.cmp .eql (.t 47) (.t 49)),oM 51 50,oG 52 51 true (.load 1 true (.t 3)),oG 53 51 true (.call 25 [(.t 52)]),oG 54 51 true (.load 1 true (.t 3)),oG 55 51 true (.call 26 [(.t 54)]),oG 56 51 true (.cmp .eql (.t 53) (.t 55)),oP 57 (.pick (.t 51) (.t 56) bF),oM 58 57,oG 59 58 true (.load 1 true (.t 7)),oG 60 58 true (.load 1 true (.t 9)),oG 61 58 true (.call 27 [(.t 59), (.t 60)]),oP 62 (.pick (.t 58) (.t 61) bF),oM 63 62,oH 64 63 true 8,oH 65 63 true 10,oG 66 63 true (.cmp .eql (.t 64) (.t 65)),oP 67 (.pick (.t 63) (.t 66) bF),oM 68 67,oG 69 68 true (.load 1 true (.t 11)),oG 70 68 true (.load 1 true (.t 13)),oG 71 68 true (.call 27 [(.t 69), (.t 70)]),oP 72 (.pick (.t 68) (.t 71) bF),oM 73 72,oH 74 73 true 12,oH 75 73 true 14,oG 76 73 true (.cmp .eql (.t 74) (.t 75)),oP 77 (.pick (.t 73) (.t 76) bF),oM 78 77,oG 79 78 true (.call 18 []),oP 80 (.pick (.t 78) (.t 79) bF),oM 6 80]
def f3 : FRow := ⟨(sR c3r0 (.seq (sR c3r1 (.cond (.t 20) (sR c3r2 .ret) .skip)) (.seq (.reg 1 c3r3) (.seq (.reg 1 c3r4) (.seq (.reg 1 c3r5) (.seq (.reg 1 c3r6) (sR c3r7 .ret))))))), [.tmp 6], 81⟩
theorem okf3 : f3.Ok Tryz.prog 3 := ⟨_, _, Tryz.func3, rfl, by kernel_rfl, by kernel_rfl, by kernel_rfl⟩
end Go.Proofs.YtdlfkbpddfeenaaGreatDoor.Sk
namespace Go.Proofs.YtdlfkbpddfeenaaGreatDoor.Sk
open Go Go.E Go.E.Sm
set_option maxRecDepth 10000
theorem l3 {A B : List Ent} {e : Ent} : E.Fn Tryz.prog 3 [ssn A, ssn B, ent e] [.bool true] := by
 refine fn_of_row okf3 ?_;simp only [FRow.start, f3, c3r0, c3r1, ssn, SV.cells, ent, go_sem, Nat.reduceAdd, Nat.reduceSub, true_implies];refine callK_of (by simp only [ssn, go_sem]) (k17 (L := A)) (.inl rfl) ?_
 simp only [go_sem, true_implies];refine ⟨fun h => ?_, fun h => ?_⟩
 ·simp only [c3r2, go_sem]
  refine wk ?_;simp only [go_sem, true_implies]
 refine callK_of (by simp only [ssn, go_sem]) (k17 (L := B)) (.inl rfl) ?_
 simp only [go_sem, true_implies];refine ⟨fun h => ?_, fun h => ?_⟩
 ·simp only [c3r2, go_sem]
  refine wk ?_;simp only [go_sem, true_implies]
 simp only [c3r3, go_sem, Nat.reduceAdd];refine callK_of (by simp only [ssn, ent, go_sem]) (k19 (A := A) (e := e)) (.inr (by simp only [ssn, ent, go_sem]; exact .inl trivial)) ?_
 simp only [ssn, spl_one, c3r4, go_sem, Nat.reduceAdd, true_implies];refine callK_of (by simp only [ssn, ent, go_sem]) (k20 (A := A) (e := e)) (.inr (by simp only [ssn, ent, go_sem]; exact .inl trivial)) ?_
 simp only [ssn, spl_one, c3r5, go_sem, Nat.reduceAdd, true_implies];refine callK_of (by simp only [ssn, go_sem]) (k21 (A := A) (B := B)) (.inr (by simp only [ssn, go_sem]; exact .inl trivial)) ?_
 simp only [ssn, spl_one, c3r6, go_sem, Nat.reduceAdd, true_implies];refine callK_of (by simp only [ssn, go_sem]) (k22 (A := A) (B := B)) (.inr (by simp only [ssn, go_sem]; exact .inl trivial)) ?_
 simp only [ssn, spl_one, c3r7, go_sem, Nat.reduceAdd, true_implies];refine callK_of (by simp only [ent, go_sem]) (k23 (e := e)) (.inl rfl) ?_
 simp only [go_sem, Nat.reduceAdd];refine callK_of (by simp only [ent, go_sem]) (k24 (e := e)) (.inl rfl) ?_
 simp only [go_sem];refine callK_of (by simp only [ssn, go_sem]) (k25 (L := A)) (.inl rfl) ?_
 simp only [go_sem];refine callK_of (by simp only [ssn, go_sem]) (k26 (L := A)) (.inl rfl) ?_
 simp only [go_sem];refine callK_of (by simp only [ssn, go_sem]) (k27t (l := (putR A e).1)) (.inl rfl) ?_
 simp only [go_sem];refine callK_of (by simp only [ssn, go_sem]) (k27t (l := (joinR A B).1)) (.inl rfl) ?_
 simp only [go_sem];refine wk ?_;simp only [go_sem, true_implies]
end Go.Proofs.YtdlfkbpddfeenaaGreatDoor.Sk
namespace Go.Proofs.YtdlfkbpddfeenaaGreatDoor.Sk
theorem gapT_step {L : List Ent} {m : Int} {a b : Nat} (h1 : 1 <= a) (hab : a <= b) (hno : ∀ j : Nat, a <= j -> j < b -> has L m j = false) : gapT L m b = gapT L m a ++ rngI a b := by
 induction b with
 | zero => omega
 | succ b ih =>
  by_cases h : a = b + 1
  ·subst h; rw [rngI_nil, List.append_nil]
  ·have hb := ih (by omega) fun j h1 h2 => hno j h1 (by omega)
   rw [gapT_succ (by omega), hno b (by omega) (by omega), if_neg (by simp), hb, List.append_assoc]
   rw [show ((b + 1 : Nat) : Int) = (b : Int) + 1 from rfl, rngI_snoc (by omega)]
theorem gapF_T {L : List Ent} {m : Int} : ∀ {zs : List Ent} {nx : Nat}, 1 <= nx -> (∀ z ∈ zs, z ∈ L /\ z.m = m /\ (nx : Int) <= z.n) -> zs.Pairwise (fun x y => x.n < y.n) -> (∀ j : Nat, nx <= j -> has L m j = true -> ∃ z ∈ zs, z.n = j) ->
  ∃ g : Nat, nx <= g /\ gapT L m g = gapT L m nx ++ gapF zs nx /\ (∀ j : Nat, g <= j -> has L m j = false) /\ (g = nx \/ has L m ((g : Int) - 1) = true)
 | [], nx, h1, _, _, h3 => by
  refine ⟨nx, Nat.le_refl _, by rw [gapF, List.append_nil], fun j hj => ?_, .inl rfl⟩
  cases h : has L m (j : Int) with
  | false => rfl
  | true => obtain ⟨z, hz, _⟩ := h3 j hj h; cases hz
 | z :: zs, nx, h1, h2, hp, h3 => by
  obtain ⟨hzL, hzm, hzn⟩ := h2 z (List.mem_cons_self ..);obtain ⟨hp1, hp2⟩ := List.pairwise_cons.1 hp;obtain ⟨b, hb⟩ : ∃ b : Nat, z.n = b := ⟨z.n.toNat, by omega⟩
  have hhas : has L m (b : Int) = true := has_iff.2 ⟨z, hzL, hzm, hb⟩
  have hno : ∀ j : Nat, nx <= j -> j < b -> has L m j = false := fun j hj1 hj2 => by
   cases h : has L m j with
   | false => rfl
   | true =>
    obtain ⟨y, hy, hyn⟩ := h3 j hj1 h
    rcases List.mem_cons.1 hy with rfl | hy
    ·omega
    ·have := hp1 y hy; omega
  obtain ⟨g, g1, g2, g3, g4⟩ := gapF_T (L := L) (m := m) (zs := zs) (nx := b + 1) (by omega) (fun y hy => by
   obtain ⟨q1, q2, _⟩ := h2 y (List.mem_cons_of_mem _ hy);have := hp1 y hy;exact ⟨q1, q2, by omega⟩) hp2 (fun j hj h => by
   obtain ⟨y, hy, hyn⟩ := h3 j (by omega) h
   rcases List.mem_cons.1 hy with rfl | hy
   ·omega
   ·exact ⟨y, hy, hyn⟩)
  refine ⟨g, by omega, ?_, g3, ?_⟩
  ·rw [g2, gapT_succ (by omega), hhas, if_pos rfl, gapT_step h1 (by omega) hno, gapF, hb, List.append_assoc]
   rfl
  ·right
   rcases g4 with rfl | h
   ·rw [show (((b + 1 : Nat) : Int)) - 1 = b from by omega]; exact hhas
   ·exact h
theorem grt_spec {L : List Ent} {m : Int} : ∀ {t : Int}, (∀ e ∈ L, e.m = m -> e.n <= L.foldl (fun t e => if e.m = m then max t e.n else t) t) /\ t <= L.foldl (fun t e => if e.m = m then max t e.n else t) t /\
  (L.foldl (fun t e => if e.m = m then max t e.n else t) t = t \/ ∃ e ∈ L, e.m = m /\ e.n = L.foldl (fun t e => if e.m = m then max t e.n else t) t) := by
 induction L with
 | nil => intro t; exact ⟨by simp, Int.le_refl _, .inl rfl⟩
 | cons x L ih =>
  intro t;rw [List.foldl_cons];obtain ⟨h1, h2, h3⟩ := ih (t := if x.m = m then max t x.n else t);refine ⟨fun e he hm => ?_, ?_, ?_⟩
  ·rcases List.mem_cons.1 he with rfl | he
   ·rw [if_pos hm] at h2 ⊢; omega
   ·exact h1 e he hm
  ·by_cases hx : x.m = m
   ·rw [if_pos hx] at h2 ⊢; omega
   ·rw [if_neg hx] at h2 ⊢; exact h2
  ·rcases h3 with h3 | ⟨e, he, hm, hn⟩
   ·by_cases hx : x.m = m
    ·rw [if_pos hx] at h3 ⊢
     by_cases hc : x.n <= t
     ·left; rw [h3]; omega
     ·right; exact ⟨x, List.mem_cons_self .., hx, by rw [h3]; omega⟩
    ·rw [if_neg hx] at h3 ⊢; left; exact h3
   ·right; exact ⟨e, List.mem_cons_of_mem _ he, hm, hn⟩
theorem gap_eq {L : List Ent} {m : Int} (hok : OkS L) : gapF (atE L m) 1 = gap L m := by
 obtain ⟨g, g1, g2, g3, g4⟩ := gapF_T (L := L) (m := m) (zs := atE L m) (nx := 1) (Nat.le_refl _) (fun z hz => by
  obtain ⟨q1, q2⟩ := List.mem_filter.1 hz;exact ⟨q1, by simpa using q2, (hok.ent z q1).n1⟩) (atE_srt hok.ord) (fun j hj h => by
  obtain ⟨e, he, hm, hn⟩ := has_iff.1 h;exact ⟨e, List.mem_filter.2 ⟨he, by simpa using hm⟩, hn⟩)
 have e1 : gapT L m 1 = [] := by unfold gapT; simp
 rw [e1, List.nil_append] at g2;obtain ⟨s1, s2, s3⟩ := grt_spec (L := L) (m := m) (t := 0)
 change (∀ e ∈ L, e.m = m -> e.n <= grt L m) at s1
 change 0 <= grt L m at s2
 change grt L m = 0 \/ ∃ e ∈ L, e.m = m /\ e.n = grt L m at s3
 rw [gap_T]
 have hup : grt L m < g := by
  rcases s3 with h | ⟨e, he, hm, hn⟩
  ·omega
  ·by_cases hlt : grt L m < g
   ·exact hlt
   ·have := g3 (grt L m).toNat (by omega)
    rw [show (((grt L m).toNat : Nat) : Int) = grt L m from by omega, has_no, fnd_none] at this
    exact absurd ⟨hm, hn⟩ (this e he)
 rcases g4 with rfl | hg
 ·rw [show (grt L m).toNat = 0 from by omega]
  rw [show ((1 : Nat) : Int) = 1 from rfl] at g2;rw [<- g2, e1]; rfl
 ·obtain ⟨e, he, hm, hn⟩ := has_iff.1 hg
  have hle := s1 e he hm;have hg1 : (grt L m).toNat + 1 = g := by omega
  have hpos : 1 <= (grt L m).toNat := by have := (hok.ent e he).n1; omega
  have := gapT_succ (L := L) (m := m) (n := (grt L m).toNat) hpos;rw [hg1, show (((grt L m).toNat : Nat) : Int) = (g : Int) - 1 from by omega, hg, if_pos rfl] at this
  rw [<- this, g2]; rfl
end Go.Proofs.YtdlfkbpddfeenaaGreatDoor.Sk
namespace Go.Proofs.YtdlfkbpddfeenaaGreatDoor.Sk
open Go Go.E
def c4r0 : LO := [oP 3 (.boxS (.t 0)),oP 6 (.mov bF)]
def c4r1 : LO := [oP 19 (.load 1 true (.t 3)),oP 20 (.call 17 [(.t 19)]),oM 21 20,oH 22 21 false 2,oG 23 21 false (.len false (.t 22)),oG 24 21 false (.cmp .gtr (.t 23) (nI 10)),oP 25 (.pick (.t 21) bT (.t 24))]
def c4r2 : LO := [oP 26 (.call 18 []),oM 6 26]
def c4r3 : LO := [oP 28 (.load 1 true (.t 3)),oP 29 (.call 28 [(.t 28)]),oM 27 29,oP 30 (.ext (.t 27) 0),oP 31 (.ext (.t 27) 1),oM 7 30,oM 8 31]
def c4r4 : LO := [oP 33 (.load 1 true (.t 3)),oP 34 (.call 29 [(.t 33)]),oM 32 34,oP 35 (.ext (.t 32) 0),oP 36 (.ext (.t 32) 1),oM 9 35,oM 10 36]
def c4r5 : LO := [oP 38 (.load 1 true (.t 3)),oM 39 1,oP 40 (.call 30 [(.t 38), (.t 39)]),oM 37 40,oP 41 (.ext (.t 37) 0),oP 42 (.ext (.t 37) 1),oM 11 41,oM 12 42]
def c4r6 : LO := [oP 44 (.load 1 true (.t 3)),oM 45 1,oP 46 (.call 31 [(.t 44), (.t 45)]),oM 43 46,oP 47 (.ext (.t 43) 0),oP 48 (.ext (.t 43) 1),oM 13 47,oM 14 48]
def c4r7 : LO := [oP 50 (.load 1 true (.t 3)),oM 51 2,oP 52 (.call 32 [(.t 50), (.t 51)]),oM 49 52,oP 53 (.ext (.t 49) 0),oP 54 (.ext (.t 49) 1),oP 15 (.alloc [(.full [])]),⟨none, none, .store 1 (.t 15) (.t 53)⟩,oM 16 54]
def c4r8 : LO := [oP 56 (.load 1 true (.t 3)),oM 57 2,oP 58 (.call 33 [(.t 56), (.t 57)]),oM 55 58,oP 59 (.ext (.t 55) 0),oP 60 (.ext (.t 55) 1),oP 17 (.alloc [(.full [])]),⟨none, none, .store 1 (.t 17) (.t 59)⟩,oM 18 60]
def c4r9 : LO := [oM 61 7,oM 62 9,oP 63 (.call 34 [(.t 61), (.t 62)]),oM 64 63,oH 65 64 true 8,oH 66 64 true 10,oG 67 64 true (.cmp .eql (.t 65) (.t 66)),oP 68 (.pick (.t 64) (.t 67) bF),oM 69 68,oH 70 69 true 11,oH 71 69 true 13,oG 72 69 true (.call 34 [(.t 70), (.t 71)]),oP 73 (.pick (.t 69) (.t 72) bF),oM 74 73,oH 75 74 true 12,oH 76 74 true 14,oG 77 74 true (.cmp .eql (.t 75) (.t 76)),oP 78 (.pick (.t 74) (.t 77) bF),oM 79 78,oG 80 79 true (.load 1 true (.t 15)),oG 81 79 true (.load 1 true (.t 17)),oG 82 79 true (.call 27 [(.t 80), (.t 81)]),oP 83 (.pick (.t 79) (.t 82) bF),oM 84 83,oH 85 84 true 16,oH 86 84 true 18,oG 87 84 true (.cmp .eql (.t 85) (.t 86)),oP 88 (.pick (.t 84) (.t 87) bF),oM 89 88,oG 90 89 true (.call 18 []),oP 91 (.pick (.t 89) (.t 90) bF),oM 6 91]
def f4 : FRow := ⟨(sR c4r0 (.seq (sR c4r1 (.cond (.t 25) (sR c4r2 .ret) .skip)) (sR c4r3 (sR c4r4 (sR c4r5 (sR c4r6 (.seq (.reg 1 c4r7) (.seq (.reg 1 c4r8) (sR c4r9 .ret))))))))), [.tmp 6], 92⟩
theorem okf4 : f4.Ok Tryz.prog 4 := ⟨_, _, Tryz.func4, rfl, by kernel_rfl, by kernel_rfl, by kernel_rfl⟩
end Go.Proofs.YtdlfkbpddfeenaaGreatDoor.Sk
namespace Go.Proofs.YtdlfkbpddfeenaaGreatDoor.Sk
open Go Go.E Go.E.Sm
set_option maxRecDepth 10000
theorem l4 {A : List Ent} {m : Int} {ms : List Int} : E.Fn Tryz.prog 4 [ssn A, .int .i64 m, ints ms] [.bool true] := by
 refine fn_of_row okf4 ?_;simp only [FRow.start, f4, c4r0, c4r1, ssn, SV.cells, go_sem, Nat.reduceAdd, Nat.reduceSub, true_implies];refine callK_of (by simp only [ssn, go_sem]) (k17 (L := A)) (.inl rfl) ?_
 simp only [ints, go_sem, true_implies];refine ⟨fun h => ?_, fun h _ => ⟨fun h2 => ?_, fun h2 => ?_⟩⟩
 ·simp only [c4r2, go_sem]
  refine wk ?_;simp only [go_sem, true_implies]
 ·simp only [c4r2, go_sem]
  refine wk ?_;simp only [go_sem, true_implies]
 have hk28 := k28 (L := A); have hk29 := k29 (L := A);simp only [c4r3, go_sem];refine callK_of (by simp only [ssn, go_sem]) hk28 (.inr (by simp only [ssn, go_sem]; exact .inl trivial)) ?_
 simp only [c4r4, go_sem, true_implies];refine callK_of (by simp only [ssn, go_sem]) hk29 (.inr (by simp only [ssn, go_sem]; exact .inl trivial)) ?_
 simp only [c4r5, go_sem, true_implies];refine callK_of (by simp only [ssn, go_sem]) (k30 (L := A) (m := m)) (.inr (by simp only [ssn, go_sem]; exact .inl trivial)) ?_
 simp only [c4r6, go_sem, true_implies];refine callK_of (by simp only [ssn, go_sem]) (k31 (L := A) (m := m)) (.inr (by simp only [ssn, go_sem]; exact .inl trivial)) ?_
 simp only [c4r7, go_sem, true_implies];refine callK_of (by simp only [ssn, go_sem]; rfl) (k32 (L := A) (ms := ms)) (.inr (by simp only [ssn, go_sem]; exact .inl rfl)) ?_
 simp only [ssn, spl_one, c4r8, go_sem, true_implies];refine callK_of (by simp only [ssn, go_sem]; rfl) (k33 (L := A) (ms := ms)) (.inr (by simp only [ssn, go_sem]; exact .inl rfl)) ?_
 simp only [ssn, spl_one, c4r9, go_sem, Nat.reduceAdd, true_implies]
 obtain ⟨q, hq⟩ : ∃ q : List Int, SV.slice (if ckS A = 0 then mks A else []) = ints q := by
  by_cases h : ckS A = 0
  ·rw [if_pos h]; exact ⟨[scn 0 A, scn 1 A, scn 2 A, scn 3 A, scn 4 A], rfl⟩
  ·rw [if_neg h]; exact ⟨[], rfl⟩
 rw [hq];refine callK_of (by simp only [go_sem]) (k34t (l := q)) (.inl rfl) ?_
 simp only [go_sem]
 have hg : (if ckM A m = 0 then gapF (atE A m) 1 else []) = (if ckM A m = 0 then gap A m else []) := by
  by_cases h : ckM A m = 0
  ·rw [if_pos h, if_pos h]
   refine gap_eq (ckS_zero.1 ?_);unfold ckM at h
   by_cases hs : ckS A = 0
   ·exact hs
   ·rw [if_pos hs] at h; exact absurd h hs
  ·rw [if_neg h, if_neg h]
 rw [hg];refine callK_of (by simp only [go_sem]) (k34t (l := if ckM A m = 0 then gap A m else [])) (.inl rfl) ?_
 simp only [go_sem];refine callK_of (by simp only [ssn, go_sem]) (k27t (l := if ckK A ms = 0 then snc ms A else [])) (.inl rfl) ?_
 simp only [go_sem];refine wk ?_;simp only [go_sem, true_implies]
end Go.Proofs.YtdlfkbpddfeenaaGreatDoor.Sk
namespace Go.Proofs.YtdlfkbpddfeenaaGreatDoor.Sk
open Go Go.E
def c5r0 : LO := [oP 2 (.boxS (.t 0)),oP 4 (.mov bF)]
def c5r1 : LO := [oP 13 (.load 1 true (.t 2)),oP 14 (.call 17 [(.t 13)])]
def c5r2 : LO := [oP 15 (.call 18 []),oM 4 15]
def c5r3 : LO := [oP 17 (.load 1 true (.t 2)),oM 18 1,oP 19 (.call 35 [(.t 17), (.t 18)]),oM 16 19,oP 20 (.ext (.t 16) 0),oP 21 (.ext (.t 16) 1),oP 5 (.alloc [(.s (.int .i64 0)), (.s (.int .i64 0)), (.s (.int .i64 0)), (.s (.int .i64 0)), (.s (.int .i64 0)), (.full [])]),⟨none, none, .store 6 (.t 5) (.t 20)⟩,oM 6 21]
def c5r4 : LO := [oP 23 (.load 1 true (.t 2)),oM 24 1,oP 25 (.call 36 [(.t 23), (.t 24)]),oM 22 25,oP 26 (.ext (.t 22) 0),oP 27 (.ext (.t 22) 1),oP 7 (.alloc [(.s (.int .i64 0)), (.s (.int .i64 0)), (.s (.int .i64 0)), (.s (.int .i64 0)), (.s (.int .i64 0)), (.full [])]),⟨none, none, .store 6 (.t 7) (.t 26)⟩,oM 8 27]
def c5r5 : LO := [oP 29 (.load 1 true (.t 2)),oP 30 (.call 37 [(.t 29)]),oM 28 30,oP 31 (.ext (.t 28) 0),oP 32 (.ext (.t 28) 1),oM 9 31,oM 10 32]
def c5r6 : LO := [oP 34 (.load 1 true (.t 2)),oP 35 (.call 38 [(.t 34)]),oM 33 35,oP 36 (.ext (.t 33) 0),oP 37 (.ext (.t 33) 1),oM 11 36,oM 12 37]
def c5r7 : LO := [oP 38 (.load 6 true (.t 5)),oP 39 (.load 6 true (.t 7)),oP 40 (.call 39 [(.t 38), (.t 39)]),oM 41 40,oH 42 41 true 6,oH 43 41 true 8,oG 44 41 true (.cmp .eql (.t 42) (.t 43)),oP 45 (.pick (.t 41) (.t 44) bF),oM 46 45,oH 47 46 true 9,oH 48 46 true 11,oG 49 46 true (.cmp .eql (.t 47) (.t 48)),oP 50 (.pick (.t 46) (.t 49) bF),oM 51 50,oH 52 51 true 10,oH 53 51 true 12,oG 54 51 true (.cmp .eql (.t 52) (.t 53)),oP 55 (.pick (.t 51) (.t 54) bF),oM 56 55,oG 57 56 true (.call 18 []),oP 58 (.pick (.t 56) (.t 57) bF),oM 4 58]
def f5 : FRow := ⟨(sR c5r0 (.seq (sR c5r1 (.cond (.t 14) (sR c5r2 .ret) .skip)) (.seq (.reg 1 c5r3) (.seq (.reg 1 c5r4) (sR c5r5 (sR c5r6 (sR c5r7 .ret))))))), [.tmp 4], 59⟩
theorem okf5 : f5.Ok Tryz.prog 5 := ⟨_, _, Tryz.func5, rfl, by kernel_rfl, by kernel_rfl, by kernel_rfl⟩
end Go.Proofs.YtdlfkbpddfeenaaGreatDoor.Sk
namespace Go.Proofs.YtdlfkbpddfeenaaGreatDoor.Sk
open Go Go.E Go.E.Sm
set_option maxRecDepth 10000
theorem l5 {L : List Ent} {m : Int} : E.Fn Tryz.prog 5 [ssn L, .int .i64 m] [.bool true] := by
 refine fn_of_row okf5 ?_;simp only [FRow.start, f5, c5r0, c5r1, ssn, SV.cells, go_sem, Nat.reduceAdd, Nat.reduceSub, true_implies];refine callK_of (by simp only [ssn, go_sem]) (k17 (L := L)) (.inl rfl) ?_
 simp only [go_sem, true_implies];refine ⟨fun h => ?_, fun h => ?_⟩
 ·simp only [c5r2, go_sem]
  refine wk ?_;simp only [go_sem, true_implies]
 simp only [c5r3, go_sem];refine callK_of (by simp only [ssn, go_sem]) (k35 (L := L) (m := m)) (.inr (by simp only [ssn, go_sem]; exact .inl trivial)) ?_
 simp only [stV, splice, c5r4, go_sem, Nat.reduceAdd, true_implies];refine callK_of (by simp only [ssn, go_sem]) (k36 (L := L) (m := m)) (.inr (by simp only [ssn, go_sem]; exact .inl trivial)) ?_
 simp only [stV, splice, c5r5, go_sem, Nat.reduceAdd, true_implies];refine callK_of (by simp only [ssn, go_sem]) (k37 (L := L)) (.inl rfl) ?_
 simp only [c5r6, go_sem, Nat.reduceAdd, true_implies];refine callK_of (by simp only [ssn, go_sem]) (k38 (L := L)) (.inl rfl) ?_
 simp only [c5r7, go_sem, Nat.reduceAdd, true_implies];refine callK_of (by simp only [stV, go_sem]) (k39t (s := if ckM L m = 0 then stL L m else st0)) (.inl rfl) ?_
 simp only [go_sem];refine wk ?_;simp only [go_sem, true_implies]
end Go.Proofs.YtdlfkbpddfeenaaGreatDoor.Sk
namespace Go.Proofs.YtdlfkbpddfeenaaGreatDoor.Sk
open Go Go.E
def c6r0 : LO := [oP 2 (.boxS (.t 0)),oP 4 (.mov bF)]
def c6r1 : LO := [oP 13 (.load 1 true (.t 2)),oP 14 (.call 17 [(.t 13)]),oM 15 14,oH 16 15 false 1,oG 17 15 false (.len true (.t 16)),oG 18 15 false (.cmp .gtr (.t 17) (nI 600)),oP 19 (.pick (.t 15) bT (.t 18))]
def c6r2 : LO := [oP 20 (.call 18 []),oM 4 20]
def c6r3 : LO := [oP 22 (.load 1 true (.t 2)),oP 23 (.call 40 [(.t 22)]),oM 21 23,oP 24 (.ext (.t 21) 0),oP 25 (.ext (.t 21) 1),oM 5 24,oM 6 25]
def c6r4 : LO := [oP 27 (.load 1 true (.t 2)),oP 28 (.call 41 [(.t 27)]),oM 26 28,oP 29 (.ext (.t 26) 0),oP 30 (.ext (.t 26) 1),oM 7 29,oM 8 30]
def c6r5 : LO := [oM 32 1,oP 33 (.call 42 [(.t 32)]),oM 31 33,oP 34 (.ext (.t 31) 0),oP 35 (.ext (.t 31) 1),oP 9 (.alloc [(.full [])]),⟨none, none, .store 1 (.t 9) (.t 34)⟩,oM 10 35]
def c6r6 : LO := [oM 37 1,oP 38 (.call 43 [(.t 37)]),oM 36 38,oP 39 (.ext (.t 36) 0),oP 40 (.ext (.t 36) 1),oP 11 (.alloc [(.full [])]),⟨none, none, .store 1 (.t 11) (.t 39)⟩,oM 12 40]
def c6r7 : LO := [oM 41 5,oM 42 7,oP 43 (.eql false [.str] false (.t 41) (.t 42)),oM 44 43,oH 45 44 true 6,oH 46 44 true 8,oG 47 44 true (.cmp .eql (.t 45) (.t 46)),oP 48 (.pick (.t 44) (.t 47) bF),oM 49 48,oG 50 49 true (.load 1 true (.t 9)),oG 51 49 true (.load 1 true (.t 11)),oG 52 49 true (.call 27 [(.t 50), (.t 51)]),oP 53 (.pick (.t 49) (.t 52) bF),oM 54 53,oH 55 54 true 10,oH 56 54 true 12,oG 57 54 true (.cmp .eql (.t 55) (.t 56)),oP 58 (.pick (.t 54) (.t 57) bF),oM 59 58,oG 60 59 true (.call 18 []),oP 61 (.pick (.t 59) (.t 60) bF),oM 4 61]
def f6 : FRow := ⟨(sR c6r0 (.seq (sR c6r1 (.cond (.t 19) (sR c6r2 .ret) .skip)) (sR c6r3 (sR c6r4 (.seq (.reg 1 c6r5) (.seq (.reg 1 c6r6) (sR c6r7 .ret))))))), [.tmp 4], 62⟩
theorem okf6 : f6.Ok Tryz.prog 6 := ⟨_, _, Tryz.func6, rfl, by kernel_rfl, by kernel_rfl, by kernel_rfl⟩
end Go.Proofs.YtdlfkbpddfeenaaGreatDoor.Sk
namespace Go.Proofs.YtdlfkbpddfeenaaGreatDoor.Sk
open Go Go.E Go.E.Sm
set_option maxRecDepth 10000
theorem l6 {A : List Ent} {l : List UInt8} : E.Fn Tryz.prog 6 [ssn A, .str (bL l)] [.bool true] := by
 refine fn_of_row okf6 ?_;simp only [FRow.start, f6, c6r0, c6r1, ssn, SV.cells, go_sem, Nat.reduceAdd, Nat.reduceSub, true_implies];refine callK_of (by simp only [ssn, go_sem]) (k17 (L := A)) (.inl rfl) ?_
 simp only [bL_size, go_sem, true_implies];refine ⟨fun h => ?_, fun h => ⟨fun h2 => ?_, fun h2 => ?_⟩⟩
 ·simp only [c6r2, go_sem]
  refine wk ?_;simp only [go_sem, true_implies]
 ·simp only [c6r2, go_sem]
  refine wk ?_;simp only [go_sem, true_implies]
 have hl : l.length <= 1000 := by omega
 simp only [c6r3, go_sem];refine callK_of (by simp only [ssn, go_sem]) (k40 (L := A)) (.inl rfl) ?_
 simp only [c6r4, go_sem, true_implies];refine callK_of (by simp only [ssn, go_sem]) (k41 (L := A)) (.inl rfl) ?_
 simp only [c6r5, go_sem, true_implies];refine callK_of (by simp only [go_sem]) (k42 hl) (.inr (by simp only [go_sem]; exact .inl trivial)) ?_
 simp only [ssn, spl_one, c6r6, go_sem, true_implies];refine callK_of (by simp only [go_sem]) (k43 hl) (.inr (by simp only [go_sem]; exact .inl trivial)) ?_
 simp only [ssn, spl_one, c6r7, go_sem, Nat.reduceAdd, true_implies];refine callK_of (by simp only [ssn, go_sem]) (k27t (l := (lodR l).1)) (.inl rfl) ?_
 simp only [go_sem];refine wk ?_;simp only [go_sem, true_implies]
end Go.Proofs.YtdlfkbpddfeenaaGreatDoor.Sk
