/- What a law's row asks for: behind a call that turned nothing that was there, and answered true. -/
import Derived.Test.YtmcjoahnlbckoaaJ12
import Derived.Test.YtmcjoahnlbckoaaRows
import Derived.ProofKit
import Derived.OpenShut
import Derived.Deep.Strs

set_option linter.all false

namespace Go.Proofs.Ytmcjoahnlbckoaa.Sk
open Go Go.E Go.ChangeShapes Go.WideShapes Go.ChangeAt Go.RowKit
theorem touch_below {w w' : World} (h : E.Touch [] w w') : Below w.heap.size w w' :=
 ⟨h.os, h.tape, h.output, h.size, fun k hk => h.block k hk (by simp [E.Env.has])⟩
theorem trodAll_stays {H : Type} {enc : TypeId × Value -> H} {P : Program} (hl : laidOutB P = true) {W W' : World} (hb : Below W.heap.size W W') :
  ∀ {ts : List TypeId} {vs : List Value} {ds : List (DataW H)} {ps : List MemPlace}, (∀ t ∈ ts, P.readableRec t = true /\ t < P.types.size) ->
   DataW.TrodAll enc P W 0 (fun _ => true) true ts vs ds ps -> (∀ x ∈ ps, x.block < W.heap.size) -> DataW.TrodAll enc P W' 0 (fun b => decide (b < W.heap.size)) true ts vs ds ps
 | [], _, _, _, _, h, _ => by
  obtain ⟨rfl, rfl, rfl⟩ := trodAll_nil h
  exact trodAll_mk0
 | t :: ts, _, _, _, ht, h, hp => by
  obtain ⟨v, vs, d, ds, p, q, rfl, rfl, rfl, h1, h2⟩ := trodAll_cons h
  have ht1 := ht t (by simp)
  exact trodAll_cons_mk (Below.trod hl ht1.1 ht1.2 h1 hb fun x hx => hp x (by simp [hx])) (trodAll_stays hl hb (fun u hu => ht u (by simp [hu])) h2 fun x hx => hp x (by simp [hx]))
theorem law_post {H : Type} {enc : TypeId × Value -> H} {P : Program} (hl : laidOutB P = true) {f : Func} {s : ChangeSpec} {W W' : World} {args : Array Value} {ds : List (DataW H)} {p : List MemPlace} {tb : TypeId}
  (hA : DataW.TrodAll enc P W 0 (fun _ => true) true f.params.toList args.toList ds p) (hz : W.noneFrozen p) (hv : s.vars = []) (hr : f.resultTypes = #[tb]) (htb : P.underlying tb = some .bool)
  (ht : ∀ t ∈ f.params.toList, P.readableRec t = true /\ t < P.types.size) (hs : s.fn H ds = { results := [.lit (.bool true)], args := ds }) (hlt : ∀ x ∈ p, x.block < W.heap.size) (h : E.Touch [] W W') :
  s.post enc P f false true false false W args (.bool true) W' := by
 have hb := touch_below h
 refine ⟨ds, [], p, [], p, [], ⟨p, [], hA, by rw [hv]; rfl, by simp, hz, fun h => by cases h⟩, ?_, ?_, ?_, ?_, fun h => by cases h⟩
 ·rw [hr, List.append_nil, hs]
  exact trodAll_mk1 (shut_bool htb true)
 ·rw [List.append_nil, hs]
  exact trodAll_stays hl hb ht hA hlt
 ·rw [List.append_nil, hs, hv]
  rfl
 ·exact hb.frame _
theorem retOf_true {M : Mem} {xs : List Value} (h : VRelL M [.bool true] xs) : retOf xs = .bool true := by
 obtain ⟨y, ys, rfl, h1, h2⟩ := h
 simp only [VRelL] at h2
 subst h2
 obtain ⟨us, h3, rfl⟩ := h1
 simp only [CRel] at h3
 subst h3
 rfl
end Go.Proofs.Ytmcjoahnlbckoaa.Sk

/- What comes in, as stable values: all that lies in memory when a function is entered. -/
namespace Go.Proofs.Ytmcjoahnlbckoaa.Sk
open Go Go.E
def memOf (w : World) : Mem := ⟨fun b o => w.cell? ⟨b, o, Option.none⟩, fun _ => Option.none⟩
theorem memOf_holds (w : World) : E.Holds (memOf w) w := ⟨fun _ _ _ h => h, fun _ _ h => (by cases h)⟩
theorem mapM_get {α β : Type} {f : α -> Option β} : ∀ (l : List α) (ys : List β), l.mapM f = some ys -> ys.length = l.length /\ ∀ (i : Nat) x, l[i]? = some x -> ∃ y, f x = some y /\ ys[i]? = some y
 | [], ys, h => by
  simp only [List.mapM_nil, Option.pure_def, Option.some.injEq] at h
  subst h
  simp
 | x :: l, ys, h => by
  simp only [List.mapM_cons, Option.pure_def, Option.bind_eq_bind, Option.bind_eq_some_iff, Option.some.injEq] at h
  obtain ⟨y, h1, zs, h2, rfl⟩ := h
  have ih := mapM_get l zs h2
  refine ⟨by simp [ih.1], fun i x' hx => ?_⟩
  cases i with
  | zero => simp only [List.getElem?_cons_zero, Option.some.injEq] at hx; subst hx; exact ⟨y, h1, rfl⟩
  | succ i => simp only [List.getElem?_cons_succ] at hx ⊢; exact ih.2 i x' hx
theorem cells_at {w : World} {base n : Nat} {a : Addr} {us : List Value} (h : w.cells? base a n = some us) : us.length = n /\ (memOf w).At a.block a.off us /\ (0 < n -> a.spot = Option.none) := by
 unfold World.cells? at h
 split at h
 ·obtain ⟨h1, h2⟩ := mapM_get _ _ h
  simp only [List.length_range] at h1
  have h3 : ∀ i, i < n -> w.cell? (a.add i) = us[i]? := fun i hi => by
   obtain ⟨y, h4, h5⟩ := h2 i i (by rw [List.getElem?_range hi])
   rw [h4, h5]
  have hsp : 0 < n -> a.spot = Option.none := fun h0 => by
   have h4 := h3 0 h0
   rw [List.getElem?_eq_getElem (by omega)] at h4
   unfold World.cell? at h4
   simp only [Addr.add, if_true] at h4
   split at h4
   ·split at h4
    ·cases h4
    ·rename_i hn; simpa using hn
   ·cases h4
  refine ⟨h1, fun j v hv => ?_, hsp⟩
  have hj : j < n := by have := (List.getElem?_eq_some_iff.1 hv).1; omega
  have h4 := h3 j hj
  rw [hv] at h4
  simp only [memOf]
  have h5 := hsp (by omega)
  unfold Addr.add at h4
  split at h4
  ·rename_i h6; subst h6
   rw [Nat.add_zero, <- h4]
   congr 1
   cases a
   simp_all
  ·exact h4
 ·cases h
theorem at_append {M : Mem} {b o : Nat} {us vs : List Value} (h : M.At b o us) (k : M.At b (o + us.length) vs) : M.At b o (us ++ vs) := fun j v hv => by
 rw [List.getElem?_append] at hv
 split at hv
 ·exact h j v hv
 ·have := k _ v hv
  rw [show o + us.length + (j - us.length) = o + j by omega] at this
  exact this
theorem rows_rel {α : Type} {M : Mem} {e : α -> SV} {G : α -> Prop} {b sz : Nat} : ∀ (n o : Nat), (∀ i, i < n -> ∃ a us, us.length = sz /\ M.At b (o + i * sz) us /\ CRel M (e a) us /\ G a) ->
  ∃ (vs : List α) (uss : List (List Value)), vs.length = n /\ CRelC M (vs.map e) uss /\ (∀ u ∈ uss, u.length = sz) /\ M.At b o uss.flatten /\ ∀ a ∈ vs, G a
 | 0, o, _ => ⟨[], [], rfl, rfl, by simp, fun j v hv => (by simp at hv), by simp⟩
 | n + 1, o, h => by
  obtain ⟨a, us, h1, h2, h3, h4⟩ := h 0 (by omega)
  obtain ⟨vs, uss, k1, k2, k3, k4, k5⟩ := rows_rel n (o + sz) fun i hi => by
   obtain ⟨a, us, h1, h2, h3, h4⟩ := h (i + 1) (by omega)
   exact ⟨a, us, h1, by rw [Nat.succ_mul] at h2; rw [show o + sz + i * sz = o + (i * sz + sz) by omega]; exact h2, h3, h4⟩
  refine ⟨a :: vs, us :: uss, by simp [k1], ⟨us, uss, rfl, h3, k2⟩, ?_, ?_, ?_⟩
  ·intro u hu
   rcases List.mem_cons.1 hu with rfl | hu
   ·exact h1
   ·exact k3 u hu
  ·rw [List.flatten_cons]
   exact at_append (by simpa using h2) (by rw [h1]; exact k4)
  ·intro x hx
   rcases List.mem_cons.1 hx with rfl | hx
   ·exact h4
   ·exact k5 x hx
section
variable {H : Type} {enc : TypeId × Value -> H} {P : Program} {w : World} {base : Nat} {sp : Nat -> Bool} {held : Bool} {fuel : Nat} {t et : TypeId} {cs : List Value} {x : DataW H × List MemPlace}
theorem trodAll_lt : ∀ {ts : List TypeId} {vs : List Value} {ds : List (DataW H)} {ps : List MemPlace}, DataW.TrodAll enc P w base sp held ts vs ds ps -> ∀ p ∈ ps, p.block < w.heap.size
 | [], _, _, _, h => by
  obtain ⟨rfl, rfl, rfl⟩ := ChangeShapes.trodAll_nil h
  simp
 | t :: ts, _, _, _, h => by
  obtain ⟨v, vs, d, ds, p, q, rfl, rfl, rfl, ⟨fuel, h1⟩, h2⟩ := ChangeShapes.trodAll_cons h
  intro y hy
  rcases List.mem_append.1 hy with hy | hy
  ·exact DataW.trod_lt _ _ _ _ h1 y hy
  ·exact trodAll_lt h2 y hy
theorem rel_int {k : IntKind} (ht : P.underlying t = some (.int k)) (h : DataW.trod enc P w base sp held fuel t cs = some x) : ∃ n : Int, CRel (memOf w) (.int k n) cs /\ (Lit.int k n).wf = true := by
 obtain ⟨n, rfl, _, hw⟩ := DataW.trod_int ht h
 exact ⟨n, rfl, hw⟩
theorem add_block (a : Addr) (n : Nat) : (a.add n).block = a.block /\ (a.add n).off = a.off + n := by
 unfold Addr.add
 split
 ·rename_i h; subst h; exact ⟨rfl, rfl⟩
 ·exact ⟨rfl, rfl⟩
theorem rel_slice {α : Type} {e : α -> SV} {G : α -> Prop} (ht : P.underlying t = some (.slice et)) (hz : 0 < P.cellsOf et)
  (hel : ∀ (n : Nat) (us : List Value) (y : DataW H × List MemPlace), us.length = P.cellsOf et -> DataW.trod enc P w base sp held n et us = some y -> ∃ a, CRel (memOf w) (e a) us /\ G a)
  (h : DataW.trod enc P w base sp held fuel t cs = some x) : ∃ l : List α, CRel (memOf w) (.slice (l.map e)) cs /\ ∀ a ∈ l, G a := by
 rcases DataW.trod_slice ht h with ⟨rfl, _⟩ | ⟨a, len, cap, elems, rest, n, _, rfl, _, _, hl, hc, hlen, hE, _⟩
 ·exact ⟨[], by simp only [CRel]; exact ⟨Option.none, 0, 0, rfl, rfl, Nat.le_refl _, Nat.zero_le _, .inl rfl⟩, by simp⟩
 ·by_cases h0 : len = 0
  ·subst h0
   exact ⟨[], by simp only [CRel]; exact ⟨_, 0, cap, rfl, rfl, hl, hc, .inl rfl⟩, by simp⟩
  ·have hrow : ∀ i, i < len -> ∃ us y, w.cells? base (a.add (i * P.cellsOf et)) (P.cellsOf et) = some us /\ DataW.trod enc P w base sp held n et us = some y := fun i hi => by
    have h1 := hE i hi
    rw [List.getElem?_eq_getElem (by omega)] at h1
    simp only [Option.bind_eq_some_iff] at h1
    obtain ⟨us, h2, h3⟩ := h1
    exact ⟨us, _, h2, h3⟩
   have hsp : a.spot = Option.none := by
    obtain ⟨us, y, h1, _⟩ := hrow 0 (by omega)
    have := (cells_at h1).2.2 hz
    simpa [Addr.add] using this
   obtain ⟨vs, uss, k1, k2, k3, k4, k5⟩ := rows_rel (M := memOf w) (e := e) (G := G) (b := a.block) (sz := P.cellsOf et) len a.off fun i hi => by
    obtain ⟨us, y, h1, h2⟩ := hrow i hi
    obtain ⟨h3, h4, _⟩ := cells_at h1
    obtain ⟨v, h5, h6⟩ := hel n us y h3 h2
    rw [(add_block a _).1, (add_block a _).2] at h4
    exact ⟨v, us, h3, h4, h5, h6⟩
   refine ⟨vs, ?_, k5⟩
   simp only [CRel]
   exact ⟨_, len, cap, rfl, by simp [k1], hl, hc, .inr ⟨a.block, a.off, P.cellsOf et, uss, by cases a; simp_all, k2, k3, k4⟩⟩
theorem vrel_agg {M : Mem} {v : SV} {c : Array Value} (h : CRel M v c.toList) (hv : v.isAgg = true) : VRel M v (.agg c) := ⟨c.toList, h, by simp [SV.mk, hv]⟩
end
section
variable {H : Type} {enc : TypeId × Value -> H} {w : World} {sp : Nat -> Bool} {held : Bool} {fuel : Nat} {cs : List Value} {x : DataW H × List MemPlace}
theorem rel_u8 {n : Int} (h : DataW.trod enc Try.prog w 0 sp held fuel 5 [.int .u8 n] = some x) : 0 <= n /\ n < 256 := by
 obtain ⟨m, hc, hw⟩ := rel_int Try.underlying5 h
 simp only [CRel, List.cons.injEq, Value.int.injEq, true_and, and_true] at hc
 subst hc
 simp only [Lit.wf, Bool.and_eq_true, decide_eq_true_eq] at hw
 exact ⟨hw.1, by have := hw.2; simp [IntKind.max, IntKind.signed, IntKind.bits] at this; omega⟩
set_option maxRecDepth 100000 in
theorem rel_pair {n : Nat} {us : List Value} {y : DataW H × List MemPlace} (hl : us.length = Try.prog.cellsOf 69) (h : DataW.trod enc Try.prog w 0 sp held n 69 us = some y) : ∃ p : Int × Int, CRel (memOf w) (pr p) us := by
 have hc : Try.prog.cellsOf 69 = 2 := by kernel_rfl
 have hc3 : Try.prog.cellsOf 3 = 1 := by kernel_rfl
 rw [hc] at hl
 match us, hl with
 | [c0, c1], _ =>
  obtain ⟨xs, m, _, _, _, hx, hE⟩ := DataW.trod_array Try.underlying69 h
  have h0 := hE 0 (by omega)
  have h1 := hE 1 (by omega)
  rw [List.getElem?_eq_getElem (by omega), hc3] at h0 h1
  simp only [Nat.zero_mul, Nat.one_mul, List.drop_zero, List.drop_succ_cons, List.take_succ_cons, List.take_zero] at h0 h1
  obtain ⟨a, ra, _⟩ := rel_int Try.underlying3 h0
  obtain ⟨b, rb, _⟩ := rel_int Try.underlying3 h1
  exact ⟨(a, b), by simp only [pr, CRel]; exact ⟨_, _, rfl, ra, _, _, rfl, rb, rfl⟩⟩
set_option maxRecDepth 100000 in
theorem rel_key {n : Nat} {us : List Value} {y : DataW H × List MemPlace} (hl : us.length = Try.prog.cellsOf 65) (h : DataW.trod enc Try.prog w 0 sp held n 65 us = some y) : ∃ p : Int × Int, CRel (memOf w) (pr p) us := by
 obtain ⟨y0, y1, m, _, _, h0, h1⟩ := Go.ChangeShapes.trod_struct2 Try.underlying65 h
 have hc : Try.prog.cellsOf 65 = 2 := by kernel_rfl
 have hc2 : Try.prog.cellsOf 2 = 1 := by kernel_rfl
 rw [hc] at hl
 match us, hl with
 | [c0, c1], _ =>
  simp only [hc2, List.drop_zero, List.drop_succ_cons, List.take_succ_cons, List.take_zero] at h0 h1
  obtain ⟨a, ra, _⟩ := rel_int Try.underlying2 h0
  obtain ⟨b, rb, _⟩ := rel_int Try.underlying2 h1
  exact ⟨(a, b), by simp only [pr, CRel]; exact ⟨_, _, rfl, ra, _, _, rfl, rb, rfl⟩⟩
theorem rel_kS (h : DataW.trod enc Try.prog w 0 sp held fuel 22 cs = some x) : ∃ K : List (Int × Int), CRel (memOf w) (kS K) cs := by
 obtain ⟨l, h1, _⟩ := rel_slice (e := pr) (G := fun _ => True) Try.underlying22 (by rw [show Try.prog.cellsOf _ = 2 from by kernel_rfl]; decide) (fun n us y hl hy => by obtain ⟨p, hp⟩ := rel_key hl hy; exact ⟨p, hp, trivial⟩) h
 exact ⟨l, h1⟩
theorem rel_qS (h : DataW.trod enc Try.prog w 0 sp held fuel 23 cs = some x) : ∃ K : List (Int × Int), CRel (memOf w) (kS K) cs := by
 obtain ⟨l, h1, _⟩ := rel_slice (e := pr) (G := fun _ => True) Try.underlying23 (by rw [show Try.prog.cellsOf _ = 2 from by kernel_rfl]; decide) (fun n us y hl hy => by obtain ⟨p, hp⟩ := rel_pair hl hy; exact ⟨p, hp, trivial⟩) h
 exact ⟨l, h1⟩
set_option maxRecDepth 100000 in
theorem rel_book (h : DataW.trod enc Try.prog w 0 sp held fuel 25 cs = some x) : ∃ K Q, CRel (memOf w) (bk K Q) cs := by
 obtain ⟨y0, y1, m, _, hl, h0, h1⟩ := Go.ChangeShapes.trod_struct2 Try.underlying25 h
 have hc : Try.prog.cellsOf 25 = 2 := by kernel_rfl
 have hc22 : Try.prog.cellsOf 22 = 1 := by kernel_rfl
 have hc23 : Try.prog.cellsOf 23 = 1 := by kernel_rfl
 rw [hc] at hl
 match cs, hl with
 | [c0, c1], _ =>
  simp only [hc22, hc23, List.drop_zero, List.drop_succ_cons, List.take_succ_cons, List.take_zero] at h0 h1
  obtain ⟨K, r0⟩ := rel_kS h0
  obtain ⟨Q, r1⟩ := rel_qS h1
  exact ⟨K, Q, by simp only [bk, CRel]; exact ⟨_, _, rfl, r0, _, _, rfl, r1, rfl⟩⟩
end
end Go.Proofs.Ytmcjoahnlbckoaa.Sk
