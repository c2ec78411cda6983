/- What comes in, as stable values: seasons, entries, lists of numbers. -/
import Derived.Test.YtdlfkbpddfeenaaGreatDoorJ9
import Derived.Lib.SmallJoins
import Derived.ChangeSame

set_option linter.all false

namespace Go.Proofs.YtdlfkbpddfeenaaGreatDoor.Sk
open Go Go.E Go.ChangeShapes Go.Deep
section
variable {H : Type} {enc : TypeId × Value -> H} {w : World} {sp : Nat -> Bool} {held : Bool} {fuel : Nat} {cs : List Value} {x : DataW H × List MemPlace}
theorem cell3 : Tryz.prog.cellsOf 3 = 1 := by kernel_rfl
theorem rel_ints (h : DataW.trod enc Tryz.prog w 0 sp held fuel 37 cs = some x) : ∃ l : List Int, CRel (memOf w) (ints l) cs := by
 obtain ⟨l, h1, _⟩ := rel_slice (e := .int .i64) (G := fun _ => True) Tryz.underlying37 (by rw [cell3]; exact Nat.one_pos) (fun n us y _ hy => by obtain ⟨m, hm, _⟩ := rel_int Tryz.underlying3 hy; exact ⟨m, hm, trivial⟩) h
 exact ⟨l, h1⟩
set_option maxRecDepth 100000 in
theorem rel_ent (h : DataW.trod enc Tryz.prog w 0 sp held fuel 26 cs = some x) : ∃ e : Ent, CRel (memOf w) (ent e) cs := by
 obtain ⟨y0, y1, y2, y3, m, _, hl, h0, h1, h2, h3⟩ := Go.Joins.trod_struct4 Tryz.underlying26 h;have hc : Tryz.prog.cellsOf 26 = 4 := by kernel_rfl
 rw [hc] at hl
 match cs, hl with
 | [c0, c1, c2, c3], _ =>
  simp only [cell3, List.drop_zero, List.drop_succ_cons, List.take_succ_cons, List.take_zero] at h0 h1 h2 h3;obtain ⟨a, r0, _⟩ := rel_int Tryz.underlying3 h0;obtain ⟨b, r1, _⟩ := rel_int Tryz.underlying3 h1;obtain ⟨c, r2, _⟩ := rel_int Tryz.underlying3 h2;obtain ⟨d, r3, _⟩ := rel_int Tryz.underlying3 h3;exact ⟨⟨a, b, c, d⟩, by simp only [ent, CRel]; exact ⟨_, _, rfl, r0, _, _, rfl, r1, _, _, rfl, r2, _, _, rfl, r3, rfl⟩⟩
set_option maxRecDepth 100000 in
theorem rel_ssn (h : DataW.trod enc Tryz.prog w 0 sp held fuel 24 cs = some x) : ∃ L : List Ent, CRel (memOf w) (ssn L) cs := by
 obtain ⟨y0, m, _, hl, h0⟩ := trod_struct1 Tryz.underlying24 h;have hc : Tryz.prog.cellsOf 24 = 1 := by kernel_rfl
 have hc25 : Tryz.prog.cellsOf 22 = 1 := by kernel_rfl
 rw [hc] at hl
 match cs, hl with
 | [c0], _ =>
  simp only [hc25, List.drop_zero, List.take_succ_cons, List.take_zero] at h0;obtain ⟨l, r, _⟩ := rel_slice (e := ent) (G := fun _ => True) Tryz.underlying22 (by rw [show Tryz.prog.cellsOf _ = 4 from by kernel_rfl]; decide) (fun n us y _ hy => by obtain ⟨m, hm⟩ := rel_ent hy; exact ⟨m, hm, trivial⟩) h0
  exact ⟨l, by simp only [ssn, ents, CRel]; exact ⟨_, _, rfl, by simpa only [CRel] using r, rfl⟩⟩
theorem rel_str (h : DataW.trod enc Tryz.prog w 0 sp held fuel 9 cs = some x) : ∃ l : List UInt8, CRel (memOf w) (.str (bL l)) cs := by
 obtain ⟨s, rfl, _⟩ := DataW.trod_string Tryz.underlying9 h;exact ⟨s.data.toList, by simp only [CRel]; rw [show bL s.data.toList = s from by apply ByteArray.ext; simp [bL]]⟩
end
end Go.Proofs.YtdlfkbpddfeenaaGreatDoor.Sk
namespace Go.Proofs.YtdlfkbpddfeenaaGreatDoor.Sk
open Go Go.E
section
variable {H : Type} {enc : TypeId × Value -> H} {w : World} {sp : Nat -> Bool} {held : Bool} {fuel : Nat} {x : DataW H × List MemPlace}
theorem rel_u32 {n : Int} (h : DataW.trod enc Tryz.prog w 0 sp held fuel 59 [.int .u32 n] = some x) : 0 <= n /\ n < 4294967296 := by
 obtain ⟨m, hc, hw⟩ := rel_int Tryz.underlying59 h;simp only [CRel, List.cons.injEq, Value.int.injEq, true_and, and_true] at hc;subst hc;simp only [Lit.wf, Bool.and_eq_true, decide_eq_true_eq] at hw;exact ⟨hw.1, by have := hw.2; simp [IntKind.max, IntKind.signed, IntKind.bits] at this; omega⟩
theorem rel_u8 {n : Int} (h : DataW.trod enc Tryz.prog w 0 sp held fuel 5 [.int .u8 n] = some x) : 0 <= n /\ n < 256 := by
 obtain ⟨m, hc, hw⟩ := rel_int Tryz.underlying5 h;simp only [CRel, List.cons.injEq, Value.int.injEq, true_and, and_true] at hc;subst hc;simp only [Lit.wf, Bool.and_eq_true, decide_eq_true_eq] at hw;exact ⟨hw.1, by have := hw.2; simp [IntKind.max, IntKind.signed, IntKind.bits] at this; omega⟩
end
end Go.Proofs.YtdlfkbpddfeenaaGreatDoor.Sk
namespace Go.Proofs.YtdlfkbpddfeenaaGreatDoor.Sk
open Go Go.E Go.ChangeShapes Go.Deep
section
variable {H : Type} {enc : TypeId × Value -> H} {w : World} {sp : Nat -> Bool} {held : Bool} {fuel : Nat} {cs : List Value} {x : DataW H × List MemPlace}
theorem rel_u8s (h : DataW.trod enc Tryz.prog w 0 sp held fuel 56 cs = some x) : ∃ l : List Int, CRel (memOf w) (.slice (l.map (SV.int .u8))) cs /\ ∀ n ∈ l, 0 <= n /\ n < 256 :=
 rel_slice (e := SV.int .u8) (G := fun n => 0 <= n /\ n < 256) Tryz.underlying56 (by rw [show Tryz.prog.cellsOf _ = 1 from by kernel_rfl]; exact Nat.one_pos) (fun n us y _ hy => by
  obtain ⟨m, hc, hw⟩ := rel_int Tryz.underlying5 hy;refine ⟨m, hc, ?_⟩;simp only [Lit.wf, Bool.and_eq_true, decide_eq_true_eq] at hw;exact ⟨hw.1, by have := hw.2; simp [IntKind.max, IntKind.signed, IntKind.bits] at this; omega⟩) h
end
end Go.Proofs.YtdlfkbpddfeenaaGreatDoor.Sk
