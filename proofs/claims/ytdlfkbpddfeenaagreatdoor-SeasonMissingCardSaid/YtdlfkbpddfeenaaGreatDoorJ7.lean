/- What a law's row asks for: behind a call that turned nothing that was there, and answered true; what comes in, as stable values; what the listed variables hold. -/
import Derived.Test.YtdlfkbpddfeenaaGreatDoorJ6
import Derived.Test.YtdlfkbpddfeenaaGreatDoorRows
import Derived.Test.YtdlfkbpddfeenaaGreatDoorTie
import Derived.ProofKit
import Derived.OpenShut
import Derived.Deep.Strs
import Derived.LaidMore
import Derived.Lay
import Derived.SevenTiedAt
import Derived.Stop.Joined
import Derived.Shelf.Vars
import Derived.Lib.LaidTab
import Derived.Shelf.SlLaysF0
import Derived.Shelf.SlSortCmp.NoneTotal
import Derived.Test.YtdlfkbpddfeenaaGreatDoorProg
import Derived.WalkMore
import Derived.Laws.EntriesVeiled
import Derived.Lib.SlicesS
import Derived.Lib.SplitLaws
import Derived.Lib.AtoiAll
import Derived.Lib.ItoaNum

set_option linter.all false

namespace Go.Proofs.YtdlfkbpddfeenaaGreatDoor.Sk
open Go Go.E Go.ChangeShapes Go.WideShapes Go.ChangeAt Go.RowKit Go.Deep
theorem touch_below {w w' : World} (h : E.Touch [] w w') : Below w.heap.size w w' :=
 ⟨h.os, h.tape, h.output, h.size, fun k hk => h.block k hk (by simp [E.Env.has])⟩
theorem trodAll_stays {H : Type} {enc : TypeId × Value -> H} {P : Program} (hl : laidOutB P = true) {W W' : World} (hb : Below W.heap.size W W') :
  ∀ {ts : List TypeId} {vs : List Value} {ds : List (DataW H)} {ps : List MemPlace}, (∀ t ∈ ts, P.readableRec t = true /\ t < P.types.size) ->
   DataW.TrodAll enc P W 0 (fun _ => true) true ts vs ds ps -> (∀ x ∈ ps, x.block < W.heap.size) -> DataW.TrodAll enc P W' 0 (fun b => decide (b < W.heap.size)) true ts vs ds ps
 | [], _, _, _, _, h, _ => by
  obtain ⟨rfl, rfl, rfl⟩ := trodAll_nil h;exact trodAll_mk0
 | t :: ts, _, _, _, ht, h, hp => by
  obtain ⟨v, vs, d, ds, p, q, rfl, rfl, rfl, h1, h2⟩ := trodAll_cons h;have ht1 := ht t (by simp)
  exact trodAll_cons_mk (Below.trod hl ht1.1 ht1.2 h1 hb fun x hx => hp x (by simp [hx])) (trodAll_stays hl hb (fun u hu => ht u (by simp [hu])) h2 fun x hx => hp x (by simp [hx]))
theorem law_post {H : Type} {enc : TypeId × Value -> H} {P : Program} (hl : laidOutB P = true) {f : Func} {s : ChangeSpec} {W W' : World} {args : Array Value} {ds : List (DataW H)} {p : List MemPlace} {tb : TypeId}
  (hA : DataW.TrodAll enc P W 0 (fun _ => true) true f.params.toList args.toList ds p) (hz : W.noneFrozen p) (hv : s.vars = []) (hr : f.resultTypes = #[tb]) (htb : P.underlying tb = some .bool)
  (ht : ∀ t ∈ f.params.toList, P.readableRec t = true /\ t < P.types.size) (hs : s.fn H ds = { results := [.lit (.bool true)], args := ds }) (hlt : ∀ x ∈ p, x.block < W.heap.size) (h : E.Touch [] W W') :
  s.post enc P f false true false false W args (.bool true) W' := by
 have hb := touch_below h;refine ⟨ds, [], p, [], p, [], ⟨p, [], hA, by rw [hv]; rfl, by simp, hz, fun h => by cases h⟩, ?_, ?_, ?_, ?_, fun h => by cases h⟩
 ·rw [hr, List.append_nil, hs]
  exact trodAll_mk1 (shut_bool htb true)
 ·rw [List.append_nil, hs]
  exact trodAll_stays hl hb ht hA hlt
 ·rw [List.append_nil, hs, hv]
  rfl
 ·exact hb.frame _
theorem retOf_true {M : Mem} {xs : List Value} (h : VRelL M [.bool true] xs) : retOf xs = .bool true := by
 obtain ⟨y, ys, rfl, h1, h2⟩ := h;simp only [VRelL] at h2;subst h2;obtain ⟨us, h3, rfl⟩ := h1;simp only [CRel] at h3;subst h3;rfl
def memOf (w : World) : Mem := ⟨fun b o => w.cell? ⟨b, o, Option.none⟩, fun _ => Option.none⟩
theorem mapM_get {α β : Type} {f : α -> Option β} : ∀ (l : List α) (ys : List β), l.mapM f = some ys -> ys.length = l.length /\ ∀ (i : Nat) x, l[i]? = some x -> ∃ y, f x = some y /\ ys[i]? = some y
 | [], ys, h => by
  simp only [List.mapM_nil, Option.pure_def, Option.some.injEq] at h;subst h;simp
 | x :: l, ys, h => by
  simp only [List.mapM_cons, Option.pure_def, Option.bind_eq_bind, Option.bind_eq_some_iff, Option.some.injEq] at h;obtain ⟨y, h1, zs, h2, rfl⟩ := h;have ih := mapM_get l zs h2;refine ⟨by simp [ih.1], fun i x' hx => ?_⟩
  cases i with
  | zero => simp only [List.getElem?_cons_zero, Option.some.injEq] at hx; subst hx; exact ⟨y, h1, rfl⟩
  | succ i => simp only [List.getElem?_cons_succ] at hx ⊢; exact ih.2 i x' hx
theorem cells_at {w : World} {base n : Nat} {a : Addr} {us : List Value} (h : w.cells? base a n = some us) : us.length = n /\ (memOf w).At a.block a.off us /\ (0 < n -> a.spot = Option.none) := by
 unfold World.cells? at h
 split at h
 ·obtain ⟨h1, h2⟩ := mapM_get _ _ h
  simp only [List.length_range] at h1
  have h3 : ∀ i, i < n -> w.cell? (a.add i) = us[i]? := fun i hi => by
   obtain ⟨y, h4, h5⟩ := h2 i i (by rw [List.getElem?_range hi])
   rw [h4, h5]
  have hsp : 0 < n -> a.spot = Option.none := fun h0 => by
   have h4 := h3 0 h0;rw [List.getElem?_eq_getElem (by omega)] at h4
   unfold World.cell? at h4;simp only [Addr.add, if_true] at h4
   split at h4
   ·split at h4
    ·cases h4
    ·rename_i hn; simpa using hn
   ·cases h4
  refine ⟨h1, fun j v hv => ?_, hsp⟩
  have hj : j < n := by have := (List.getElem?_eq_some_iff.1 hv).1; omega
  have h4 := h3 j hj;rw [hv] at h4;simp only [memOf];have h5 := hsp (by omega)
  unfold Addr.add at h4
  split at h4
  ·rename_i h6; subst h6
   rw [Nat.add_zero, <- h4]
   congr 1
   cases a
   simp_all
  ·exact h4
 ·cases h
theorem at_append {M : Mem} {b o : Nat} {us vs : List Value} (h : M.At b o us) (k : M.At b (o + us.length) vs) : M.At b o (us ++ vs) := fun j v hv => by
 rw [List.getElem?_append] at hv
 split at hv
 ·exact h j v hv
 ·have := k _ v hv
  rw [show o + us.length + (j - us.length) = o + j by omega] at this
  exact this
theorem rows_rel {α : Type} {M : Mem} {e : α -> SV} {G : α -> Prop} {b sz : Nat} : ∀ (n o : Nat), (∀ i, i < n -> ∃ a us, us.length = sz /\ M.At b (o + i * sz) us /\ CRel M (e a) us /\ G a) ->
  ∃ (vs : List α) (uss : List (List Value)), vs.length = n /\ CRelC M (vs.map e) uss /\ (∀ u ∈ uss, u.length = sz) /\ M.At b o uss.flatten /\ ∀ a ∈ vs, G a
 | 0, o, _ => ⟨[], [], rfl, rfl, by simp, fun j v hv => (by simp at hv), by simp⟩
 | n + 1, o, h => by
  obtain ⟨a, us, h1, h2, h3, h4⟩ := h 0 (by omega)
  obtain ⟨vs, uss, k1, k2, k3, k4, k5⟩ := rows_rel n (o + sz) fun i hi => by
   obtain ⟨a, us, h1, h2, h3, h4⟩ := h (i + 1) (by omega)
   exact ⟨a, us, h1, by rw [Nat.succ_mul] at h2; rw [show o + sz + i * sz = o + (i * sz + sz) by omega]; exact h2, h3, h4⟩
  refine ⟨a :: vs, us :: uss, by simp [k1], ⟨us, uss, rfl, h3, k2⟩, ?_, ?_, ?_⟩
  ·intro u hu
   rcases List.mem_cons.1 hu with rfl | hu
   ·exact h1
   ·exact k3 u hu
  ·rw [List.flatten_cons]
   exact at_append (by simpa using h2) (by rw [h1]; exact k4)
  ·intro x hx
   rcases List.mem_cons.1 hx with rfl | hx
   ·exact h4
   ·exact k5 x hx
section
variable {H : Type} {enc : TypeId × Value -> H} {P : Program} {w : World} {base : Nat} {sp : Nat -> Bool} {held : Bool} {fuel : Nat} {t et : TypeId} {cs : List Value} {x : DataW H × List MemPlace}
theorem trodAll_lt : ∀ {ts : List TypeId} {vs : List Value} {ds : List (DataW H)} {ps : List MemPlace}, DataW.TrodAll enc P w base sp held ts vs ds ps -> ∀ p ∈ ps, p.block < w.heap.size
 | [], _, _, _, h => by
  obtain ⟨rfl, rfl, rfl⟩ := ChangeShapes.trodAll_nil h;simp
 | t :: ts, _, _, _, h => by
  obtain ⟨v, vs, d, ds, p, q, rfl, rfl, rfl, ⟨fuel, h1⟩, h2⟩ := ChangeShapes.trodAll_cons h;intro y hy
  rcases List.mem_append.1 hy with hy | hy
  ·exact DataW.trod_lt _ _ _ _ h1 y hy
  ·exact trodAll_lt h2 y hy
theorem rel_int {k : IntKind} (ht : P.underlying t = some (.int k)) (h : DataW.trod enc P w base sp held fuel t cs = some x) : ∃ n : Int, CRel (memOf w) (.int k n) cs /\ (Lit.int k n).wf = true := by
 obtain ⟨n, rfl, _, hw⟩ := DataW.trod_int ht h;exact ⟨n, rfl, hw⟩
theorem add_block (a : Addr) (n : Nat) : (a.add n).block = a.block /\ (a.add n).off = a.off + n := by
 unfold Addr.add
 split
 ·rename_i h; subst h; exact ⟨rfl, rfl⟩
 ·exact ⟨rfl, rfl⟩
theorem rel_slice {α : Type} {e : α -> SV} {G : α -> Prop} (ht : P.underlying t = some (.slice et)) (hz : 0 < P.cellsOf et)
  (hel : ∀ (n : Nat) (us : List Value) (y : DataW H × List MemPlace), us.length = P.cellsOf et -> DataW.trod enc P w base sp held n et us = some y -> ∃ a, CRel (memOf w) (e a) us /\ G a)
  (h : DataW.trod enc P w base sp held fuel t cs = some x) : ∃ l : List α, CRel (memOf w) (.slice (l.map e)) cs /\ ∀ a ∈ l, G a := by
 rcases DataW.trod_slice ht h with ⟨rfl, _⟩ | ⟨a, len, cap, elems, rest, n, _, rfl, _, _, hl, hc, hlen, hE, _⟩
 ·exact ⟨[], by simp only [CRel]; exact ⟨Option.none, 0, 0, rfl, rfl, Nat.le_refl _, Nat.zero_le _, .inl rfl⟩, by simp⟩
 ·by_cases h0 : len = 0
  ·subst h0
   exact ⟨[], by simp only [CRel]; exact ⟨_, 0, cap, rfl, rfl, hl, hc, .inl rfl⟩, by simp⟩
  ·have hrow : ∀ i, i < len -> ∃ us y, w.cells? base (a.add (i * P.cellsOf et)) (P.cellsOf et) = some us /\ DataW.trod enc P w base sp held n et us = some y := fun i hi => by
    have h1 := hE i hi;rw [List.getElem?_eq_getElem (by omega)] at h1
    simp only [Option.bind_eq_some_iff] at h1;obtain ⟨us, h2, h3⟩ := h1;exact ⟨us, _, h2, h3⟩
   have hsp : a.spot = Option.none := by
    obtain ⟨us, y, h1, _⟩ := hrow 0 (by omega)
    have := (cells_at h1).2.2 hz
    simpa [Addr.add] using this
   obtain ⟨vs, uss, k1, k2, k3, k4, k5⟩ := rows_rel (M := memOf w) (e := e) (G := G) (b := a.block) (sz := P.cellsOf et) len a.off fun i hi => by
    obtain ⟨us, y, h1, h2⟩ := hrow i hi;obtain ⟨h3, h4, _⟩ := cells_at h1;obtain ⟨v, h5, h6⟩ := hel n us y h3 h2;rw [(add_block a _).1, (add_block a _).2] at h4;exact ⟨v, us, h3, h4, h5, h6⟩
   refine ⟨vs, ?_, k5⟩;simp only [CRel];exact ⟨_, len, cap, rfl, by simp [k1], hl, hc, .inr ⟨a.block, a.off, P.cellsOf et, uss, by cases a; simp_all, k2, k3, k4⟩⟩
theorem vrel_agg {M : Mem} {v : SV} {c : Array Value} (h : CRel M v c.toList) (hv : v.isAgg = true) : VRel M v (.agg c) := ⟨c.toList, h, by simp [SV.mk, hv]⟩
end
def laidL : List (String × DataW Unit) := Rows.seasonKnownRow.laid
theorem err_cell {w : World} {fuel : Nat} {cs : List Value} {x : DataW Unit × List MemPlace} {t : TypeId} {ms : Array (String × TypeId)} (ht : Tryz.prog.underlying t = some (.interface ms))
  (h : DataW.trod (fun _ => ()) Tryz.prog w 0 (fun _ => true) false fuel t cs = some x) : ∃ v, cs = [v] /\ (v = .nilIface \/ ∃ te pe, v = .iface te pe) := by
 cases fuel with
 | zero => simp [DataW.trod] at h
 | succ n =>
  unfold DataW.trod at h;rw [ht] at h
  split at h
  all_goals first
   | exact ⟨_, rfl, .inl rfl⟩
   | exact ⟨_, rfl, .inr ⟨_, _, rfl⟩⟩
   | simp_all
theorem var_heap {w : World} {n : String} {g : Nat} {cs : Array Value} (hg : Tryz.prog.globalNamed n = some g) (hv : w.var? Tryz.prog n = some cs) : ∃ T fz, w.heap[g]? = some (.cells cs T fz) := by
 unfold World.var? at hv;rw [hg, Option.bind_some] at hv
 split at hv
 ·rename_i T fz hh
  cases hv
  exact ⟨_, _, hh⟩
 ·cases hv
theorem memOf_gw {W : World} (hL : laidMetH Tryz.prog laidL W) (hsh : W.ShapedOpen Tryz.prog) : GW (memOf W) W := by
 rw [laidL, Rows.seasonKnownRow, MakeChecks.laidMetH_plain _ _ _ (by kernel_rfl)] at hL
 obtain ⟨ps, ⟨_, _, _, _, _, _, _, _, _, _, ⟨_, _, _, _, _, _, _, _, _, _, ⟨g0, t0, cs0, f0, p0, q0, hg0, ht0, hv0, hd0, ⟨_, _, _, _, _, _, _, _, _, _, ⟨g3, t3, cs3, f3, p3, q3, hg3, ht3, hv3, hd3, ⟨g2, t2, cs2, f2, p2, q2, hg2, ht2, hv2, hd2, _⟩, _⟩, _⟩, _⟩, _⟩, _⟩, _, _⟩ := hL;obtain rfl := Option.some.inj ((show Tryz.prog.globalNamed "internal/strconv.uint64pow10" = some 0 by kernel_rfl).symm.trans hg0)
 obtain rfl := Option.some.inj ((show Tryz.prog.globalNamed "strconv.ErrRange" = some 3 by kernel_rfl).symm.trans hg3)
 obtain rfl := Option.some.inj ((show Tryz.prog.globalNamed "strconv.ErrSyntax" = some 2 by kernel_rfl).symm.trans hg2)
 obtain rfl := Option.some.inj ((show (Tryz.prog.globals[0]?).map (·.type) = some 186 by kernel_rfl).symm.trans ht0)
 obtain rfl := Option.some.inj ((show (Tryz.prog.globals[3]?).map (·.type) = some 103 by kernel_rfl).symm.trans ht3)
 obtain rfl := Option.some.inj ((show (Tryz.prog.globals[2]?).map (·.type) = some 103 by kernel_rfl).symm.trans ht2)
 have e0 : cs0.toList = Lib.pow10Tab.map fun z => Value.int .u64 z := Lib.cells_of_tab Tryz.underlying186 Tryz.underlying152 (by kernel_rfl) (by kernel_rfl) (show DataW.trod (fun _ => ()) Tryz.prog W 0 (fun _ => true) false f0 186 cs0.toList = some (Lib.tabData .u64 Lib.pow10Tab, p0) from hd0)
 obtain ⟨T0, z0, h0⟩ := var_heap (g := 0) hg0 hv0;obtain ⟨T3, z3, h3⟩ := var_heap (g := 3) hg3 hv3;obtain ⟨T2, z2, h2⟩ := var_heap (g := 2) hg2 hv2;obtain ⟨v3, e3, k3⟩ := err_cell Tryz.underlying103 hd3;obtain ⟨v2, e2, k2⟩ := err_cell Tryz.underlying103 hd2;obtain ⟨m, hm⟩ := cell_of_shapedOpen_int (P := Tryz.prog) (g := 1) (t := 3) (zero := #[.int .i64 0]) hsh (of_decide_eq_true (by kernel_rfl)) (by kernel_rfl) rfl (by kernel_rfl) (by kernel_rfl) Tryz.underlying3
 have hs0 : cs0 = (pw10.map fun z => Value.int .u64 z).toArray := by
  apply Array.toList_inj.1; rw [e0]; rfl
 have hs3 : cs3 = #[v3] := by apply Array.toList_inj.1; rw [e3]
 have hs2 : cs2 = #[v2] := by apply Array.toList_inj.1; rw [e2]
 subst hs0 hs3 hs2
 have h1 : ∃ T fz, W.heap[1]? = some (.cells #[.int .i64 m] T fz) := by
  obtain ⟨cs, hh, hs, -⟩ := hsh.1 1 #[.int .i64 0] 3 (of_decide_eq_true (by kernel_rfl)) (by kernel_rfl)
  have h1 : cs.size = 1 := hs;have hc : W.cell? ⟨1, 0, Option.none⟩ = cs[0]? := by simp [World.cell?, hh]
  rw [hm] at hc
  have hcs : cs = #[.int .i64 m] := by
   apply Array.ext
   ·simp [h1]
   ·intro i hi1 hi2
    have : i = 0 := by simp at hi2; omega
    subst this;rw [Array.getElem?_eq_getElem (by omega)] at hc
    simpa using (Option.some.inj hc).symm
  subst hcs;exact ⟨_, _, hh⟩
 intro g hg;have hg4 : g < 4 := of_decide_eq_true hg;have cases4 : g = 0 \/ g = 1 \/ g = 2 \/ g = 3 := by omega
 rcases cases4 with rfl | rfl | rfl | rfl
 ·exact ⟨⟨_, ⟨T0, z0, rfl⟩, h0⟩, by
   show W.cell? ⟨0, 0, Option.none⟩ ≠ Option.none
   have : W.cell? ⟨0, 0, Option.none⟩ = some (.int .u64 1) := by rw [Lib.cell_of_heap h0, List.getElem?_toArray]; kernel_rfl
   rw [this]; exact fun e => by cases e⟩
 ·obtain ⟨T, fz, h1⟩ := h1
  exact ⟨⟨_, ⟨m, T, fz, rfl⟩, h1⟩, by simp [memOf, World.cell?, h1]⟩
 ·exact ⟨⟨_, ⟨v2, T2, z2, rfl, k2⟩, h2⟩, by simp [memOf, World.cell?, h2]⟩
 ·exact ⟨⟨_, ⟨v3, T3, z3, rfl, k3⟩, h3⟩, by simp [memOf, World.cell?, h3]⟩
theorem memOf_holds {W : World} (h : GW (memOf W) W) : E.Holds (memOf W) W := ⟨fun _ _ _ h => h, fun _ _ h => (by cases h), h⟩
theorem ret_laid0 {H : Type} {enc : TypeId × Value -> H} {os : Os} {C : Checked} {L : List (String × DataW Unit)} {f : FuncId} {fn : Func} {s : ChangeSpec} (hgw : ∀ W, laidMetH C.prog L W -> W.ShapedOpen C.prog -> GW (memOf W) W) (own : ownKnob C.prog.godebug = Option.none)
  (started : os.Started) (noInit : C.prog.inits.idxOf? f = Option.none) (hfn : C.prog.funcs[f]? = some fn)
  (witness : ∃ (w : World) (tape : Tape) (i : Input), w.os = os /\ (w.forCall tape i).Shaped C.prog /\ i.vars = [] /\ Input.okWide C.prog (w.forCall tape i) .any w.heap.size f i /\
   ((s.pre enc C.prog fn [] false (w.forCall tape i).memory i.args /\ laidMetH C.prog L (w.forCall tape i).memory) /\ sizedMet enc C.prog fn (OpenSpec.ofChange s) false (w.forCall tape i).memory i.args) /\ ({} : Assume).holds C.prog (lone (Frame.enter C.prog f i.args .normal) [] (w.forCall tape i)))
  (contract : ∀ (W : World) (base : Nat) (args : Array Value) (ds gs : List (DataW H)) (before : List MemPlace),
   (∀ (j : Nat) t v, fn.params[j]? = some t -> args[j]? = some v -> Value.okWide C.prog W .any base t v) ->
   DataW.Whole enc C.prog fn.params.toList s.vars false W args.toList ds gs before -> GW (memOf W) W ->
   Calls C.prog f args W fun e W' => ∃ v, e = .returned v /\ s.post enc C.prog fn false true false false W args v W') :
  ReturnsInHanded {} C os f .any (fun w args => (s.pre enc C.prog fn [] false w args /\ laidMetH C.prog L w) /\ sizedMet enc C.prog fn (OpenSpec.ofChange s) false w args) (s.post enc C.prog fn false true false false) := by
 refine returnsInHanded_of_calls own started noInit witness ?_;intro w tape i _ hsh _ hok hpre hholds;obtain ⟨_, _, _, fn', hfn', _, _, _, _, hval⟩ := hok;have e : fn' = fn := Option.some.inj (hfn'.symm.trans hfn);subst e;obtain ⟨⟨⟨ds, gs, before, hw, hc⟩, hx⟩, hz⟩ := hpre;have hw' := DataW.Whole.of_heap (w' := w.forCall tape i) (by rfl) hw
 have hx' : laidMetH C.prog L (w.forCall tape i) := hx.of_heap (by rfl)
 refine (contract (w.forCall tape i) w.heap.size i.args ds gs before hval hw' (hgw _ hx' hsh)).mono fun e W' ⟨v, he, hp⟩ => ?_
 subst he;exact ChangeSpec.post_blind hp
end Go.Proofs.YtdlfkbpddfeenaaGreatDoor.Sk
namespace Go.Proofs.YtdlfkbpddfeenaaGreatDoor.Sk
open Go Go.E Go.RowKit
set_option maxRecDepth 100000
theorem two_turn {M : Mem} {ρ : Env} {H : List ABlock} {w w' : World} {n0 b c cb nb : Nat} {B' C' : ABlock} {rc r' : Spot} (hS : SRel M ρ H w) (hbc : b ≠ c) (hn0 : n0 <= c) (hn : n0 <= ρ.length)
    (hρb : ρ[b]? = some (.here cb 0 nb)) (hMb : (∀ o, M.cell cb o = none) /\ M.map cb = none) (hρc : ρ[c]? = some rc) (hrc : rc ≠ .gone)
    (hMc : ∀ g sh n, rc = .here g sh n -> (∀ o, M.cell g o = none) /\ M.map g = none)
    (hother : ∀ k, k < w.heap.size -> k ≠ cb -> (∀ sh n, rc ≠ .here k sh n) -> w'.heap[k]? = w.heap[k]?)
    (hos : w'.os = w.os) (htape : w'.tape = w.tape) (hout : w'.output = w.output) (hdr : w.drawn <= w'.drawn) (hsz : w.heap.size <= w'.heap.size)
    (hcl : ∀ i X, i ≠ c -> H[i]? = some X -> fgtB (· == c) X = X)
    (hB : BRel M (ρ.set c r') w' B' (.here cb 0 nb)) (hC : BRel M (ρ.set c r') w' C' r')
    (hr' : ∀ g sh n, r' = .here g sh n -> g < w'.heap.size /\ g ≠ cb /\ ((∃ sh' n', rc = .here g sh' n') \/ w.heap.size <= g)) :
    MInv NoA n0 M ρ w M (ρ.set c r') ((H.set b B').set c C') w' := by
  have hl := hS.len;have hbl := (List.getElem?_eq_some_iff.1 hρb).1;have hcl' := (List.getElem?_eq_some_iff.1 hρc).1;have hρ : ∀ j, (j == c) = false -> (ρ.set c r')[j]? = ρ[j]? := fun j hj => Env.but_set ρ c r' j (by simpa using hj)
  have hρ2 : ∀ j, j ≠ c -> (ρ.set c r')[j]? = ρ[j]? := fun j hj => by rw [List.getElem?_set, if_neg (fun e => hj e.symm)]
  have hρcc : (ρ.set c r')[c]? = some r' := List.getElem?_set_self hcl';have hcblt := hS.lt b cb 0 nb hρb
  have hfar : ∀ i g sh n, i ≠ b -> i ≠ c -> ρ[i]? = some (.here g sh n) -> w'.heap[g]? = w.heap[g]? := fun i g sh n h1 h2 h3 =>
    hother g (hS.lt i g sh n h3) (hS.inj i b g sh n cb 0 nb h1 h3 hρb) fun sh' n' e => by
      subst e;exact hS.inj i c g sh n g sh' n' h2 h3 hρc rfl
  refine { rel := ⟨by simp [hl], fun i B r h1 h2 => ?_, fun i j g sh n g' sh' n' hij h1 h2 => ?_, fun i g sh n h1 => ?_, fun k o v hv => ?_, fun k es hv => ?_, hS.glb.heap fun k hk hc => ?_⟩,
           mem := M.le_refl, nle := hn, len := by simp, env := fun i r hi _ hr => by rw [hρ2 i (by omega)]; exact hr, gon := fun i hi hr => ?_,
           touch := ⟨hos, htape, hout, hsz, fun k hk hno => ?_⟩, newer := Newer.refl _ _ _, fresh := fun i g sh n hi hr => ?_, alien := fun _ _ h => h.elim }
  · by_cases e : i = c
    · subst e
      rw [hρcc] at h2; cases h2;rw [List.getElem?_set_self (by simp; omega)] at h1
      cases h1; exact hC
    · rw [hρ2 i e] at h2
      rw [List.getElem?_set, if_neg (fun x => e x.symm), List.getElem?_set] at h1
      by_cases e2 : b = i
      · subst e2
        rw [if_pos rfl, if_pos (by omega)] at h1
        cases h1
        rw [hρb] at h2; cases h2;exact hB
      · rw [if_neg e2] at h1
        have hk := (hS.blk i B r h1 h2).fgt (p := (· == c)) hρ;rw [hcl i B e h1] at hk;exact BRel.keep hk fun g sh n e3 => hfar i g sh n (fun x => e2 x.symm) e (by rw [h2, e3])
  · by_cases e1 : i = c
    · subst e1
      rw [hρcc] at h1; cases h1;rw [hρ2 j (fun x => hij x.symm)] at h2
      obtain ⟨_, h4, h5⟩ := hr' g sh n rfl
      rcases h5 with ⟨sh2, n2, rfl⟩ | h5
      · exact hS.inj i j g sh2 n2 g' sh' n' hij hρc h2
      · have := hS.lt j g' sh' n' h2; omega
    · rw [hρ2 i e1] at h1
      by_cases e2 : j = c
      · subst e2
        rw [hρcc] at h2; cases h2;obtain ⟨_, h4, h5⟩ := hr' g' sh' n' rfl
        rcases h5 with ⟨sh2, n2, rfl⟩ | h5
        · exact hS.inj i j g sh n g' sh2 n2 hij h1 hρc
        · have := hS.lt i g sh n h1; omega
      · rw [hρ2 j e2] at h2
        exact hS.inj i j g sh n g' sh' n' hij h1 h2
  · by_cases e1 : i = c
    · subst e1
      rw [hρcc] at h1; cases h1;exact (hr' g sh n rfl).1
    · rw [hρ2 i e1] at h1
      exact Nat.lt_of_lt_of_le (hS.lt i g sh n h1) hsz
  · have h1 := hS.cells k o v hv
    rw [cell?_eq (hother k (hS.cell_lt hv) (fun e => by subst e; rw [hMb.1 o] at hv; cases hv) fun sh n e => by rw [(hMc k sh n e).1 o] at hv; cases hv)]
    exact h1
  · have h1 := hS.maps k es hv
    rw [hother k (hS.map_lt hv) (fun e => by subst e; rw [hMb.2] at hv; cases hv) fun sh n e => by rw [(hMc k sh n e).2] at hv; cases hv]
    exact h1
  · exact hother k hk (fun e => by subst e; exact hc (hMb.1 0)) fun sh n e => hc ((hMc k sh n e).1 0)
  · by_cases e : i = c
    · subst e; rw [hρc] at hr; cases hr; exact absurd rfl hrc
    · rw [hρ2 i e]; exact hr
  · exact hother k hk (fun e => by subst e; exact hno ⟨b, 0, nb, hρb⟩) fun sh n e => hno ⟨c, sh, n, by rw [hρc, e]⟩
  · by_cases e : i = c
    · subst e
      rw [hρcc] at hr; cases hr
      rcases (hr' g sh n rfl).2.2 with ⟨sh2, n2, h⟩ | h
      · exact .inl ⟨i, sh2, n2, by rw [hρc, h]⟩
      · exact .inr h
    · rw [hρ2 i e] at hr
      exact .inl ⟨i, sh, n, hr⟩
def BSt (l : List UInt8) (B C : ABlock) : Prop :=
 (l = [] /\ B = .objV none 101 bz /\ C = .row []) \/
 ∃ cb g cap cs, B = .objV (some cb) 101 [.pointer (some ⟨cb, 0, none⟩), .slice (some ⟨g, 0, none⟩) l.length cap] /\ C = .objV (some g) 5 cs /\ 0 < l.length /\ l.length <= cap /\ cap <= maxLen /\ cs.length = cap /\ cs.take l.length = Lib.byteCells l
theorem map_none {M : Mem} {ρ : Env} {H : List ABlock} {w : World} (hS : SRel M ρ H w) {g : Nat} {c : Array Value} {T : TypeId} {fr : Nat × Nat} (h : w.heap[g]? = some (.cells c T fr)) : M.map g = none := by
 cases hm : M.map g with
 | none => rfl
 | some es => have h1 := hS.maps g es hm; rw [h] at h1; cases h1
theorem bst_world {M : Mem} {ρ : Env} {H : List ABlock} {w : World} (hS : SRel M ρ H w) {b c : Nat} {B C : ABlock} {l : List UInt8} (hbc : b ≠ c) (hb : H[b]? = some B) (hc : H[c]? = some C) (hst : BSt l B C) :
  ∃ cb rc p v, ρ[b]? = some (.here cb 0 2) /\ ρ[c]? = some rc /\ rc ≠ .gone /\ w.heap[cb]? = some (.cells #[p, v] 101 (0, 0)) /\ (∀ o, M.cell cb o = none) /\ (p = .pointer none \/ p = .pointer (some ⟨cb, 0, none⟩)) /\
   w.ownsRow 0 5 1 v l.length (Lib.byteCells l) /\ v.ownBlock ≠ some cb /\ (∀ g, v.ownBlock = some g -> ∃ n, rc = .here g 0 n) /\ ∀ g sh n, rc = .here g sh n -> (∀ o, M.cell g o = none) /\ M.map g = none := by
 obtain ⟨rb, hρb, hBr⟩ := hS.spot hb;obtain ⟨rc, hρc, hCr⟩ := hS.spot hc
 rcases hst with ⟨rfl, rfl, rfl⟩ | ⟨cb, g, cap, cs, rfl, rfl, h0, h1, h2, h3, h4⟩
 ·cases rb <;> simp only [BRel] at hBr
  rename_i cb sh n
  obtain ⟨_, k2, rfl, rfl, k5⟩ := hBr;refine ⟨cb, rc, .pointer none, .slice none 0 0, hρb, hρc, ?_, by rw [k2]; rfl, k5, .inl rfl, World.ownsRow_nil _ _ _ _, by simp [Value.ownBlock], fun g h => by simp [Value.ownBlock] at h, fun g sh n e => ?_⟩
  ·rintro rfl; simp only [BRel] at hCr
  ·subst e
   simp only [BRel] at hCr;obtain ⟨c', T, j1, _, _, _, j5⟩ := hCr;exact ⟨j5, map_none hS j1⟩
 ·cases rb <;> simp only [BRel] at hBr
  rename_i cb' sh n
  obtain ⟨k1, k2, rfl, rfl, k5⟩ := hBr;have := k1 cb rfl;subst this
  cases rc <;> simp only [BRel] at hCr
  rename_i g' sh' n'
  obtain ⟨j1, j2, rfl, rfl, j5⟩ := hCr;have := j1 g rfl;subst this;have hgb : g' ≠ cb' := fun e => hS.inj c b g' 0 _ cb' 0 _ (fun x => hbc x.symm) hρc hρb e
  refine ⟨cb', _, .pointer (some ⟨cb', 0, none⟩), .slice (some ⟨g', 0, none⟩) l.length cap, hρb, hρc, by simp, by rw [k2], k5, .inr rfl, ⟨by simp [Lib.byteCells_length], .inr ⟨g', cap, cs.toArray, rfl, Nat.zero_le _, by rw [j2], h1, h2, by simpa using h3, by simpa using h4⟩⟩,
   by simp [Value.ownBlock, hgb], fun g h => ?_, fun g sh n e => ?_⟩
  ·simp only [Value.ownBlock, Option.some.injEq] at h
   subst h; exact ⟨_, rfl⟩
  ·cases e
   exact ⟨j5, map_none hS j2⟩
theorem k74 {n0 b c : Nat} {H : List ABlock} {B C : ABlock} {l : List UInt8} {s : ByteArray} (hb : H[b]? = some B) (hc : H[c]? = some C) (hbc : b ≠ c) (hn0 : n0 <= c) (hcl : ∀ i X, i ≠ c -> H[i]? = some X -> fgtB (· == c) X = X)
  (hst : BSt l B C) (hs : 0 < s.size) (hlen : l.length + s.size <= 140737488355328) :
  CSemK Tryz.prog n0 74 [.loc b 0, .s (.str s)] H (fun r H' => r = .tup [.int .i64 s.size, .nili] /\ ∃ B' C', BSt (l ++ s.data.toList) B' C' /\ H' = (H.set b B').set c C') (some c) := by
 intro M ρ w vs hn hS hF;obtain ⟨v0, ys, rfl, h0, v1, ys2, rfl, h1, hys⟩ := hF;simp only [FRel] at hys;subst hys;rw [lval_s] at h1;obtain ⟨us1, hu1, rfl⟩ := h1;simp only [CRel] at hu1;subst hu1;obtain ⟨cb, rc, p, v, hρb, hρc, hrc, hbk, hMb, hp, hown, hne, hvo, hMc⟩ := bst_world hS hbc hb hc hst;have g0 := h0.one rfl (by simp)
 simp only [LRel] at g0;obtain ⟨cb', sh', n', hr', e0⟩ := g0;rw [hρb] at hr'; cases hr';simp only [List.cons.injEq, and_true] at e0;subst e0;have hbl := (List.getElem?_eq_some_iff.1 hb).1;have hcl2 := (List.getElem?_eq_some_iff.1 hc).1;refine (w74 cb p v l.length (Lib.byteCells l) s w hp hbk hown hne hs hlen).mono fun e w' ⟨he, w1, g, cap, cur, w2, ht, hb1, hp2, hw⟩ => ?_
 have hsl : s.data.toList.length = s.size := by rw [Array.length_toList]; rfl
 have hcblt : cb < w.heap.size := (Array.getElem?_eq_some_iff.1 hbk).1
 have hgcb : g ≠ cb := fun e => by
  subst e
  rcases hp2.own with h | h
  ·exact hne h
  ·rw [ht.size] at h; omega
 have hb2 : w2.heap[cb]? = some (.cells #[.pointer (some ⟨cb, 0, none⟩), v] 101 (0, 0)) := by
  rw [hp2.block cb (by rw [ht.size]; exact hcblt) hne]; exact hb1
 have hb3 : w'.heap[cb]? = some (.cells #[.pointer (some ⟨cb, 0, none⟩), .slice (some ⟨g, 0, none⟩) (l.length + s.size) cap] 101 (0, 0)) := by
  rw [hw]; simp [World.setCell, Array.getElem?_modify, hb2]
 have hg3 : w'.heap[g]? = some (.cells cur 5 (0, 0)) := by
  rw [hw, Below.heap_setCell _ _ _ _ hgcb]; exact hp2.cells
 have hlt : g < w'.heap.size := (Array.getElem?_eq_some_iff.1 hg3).1;have hsz : w'.heap.size = w2.heap.size := by rw [hw]; simp [World.setCell]
 have hgr := hp2.grows
 have hnoM : ∀ o, M.cell g o = none := by
  rcases hp2.own with h | h
  ·obtain ⟨n, hn2⟩ := hvo g h
   exact (hMc g 0 n hn2).1
  ·intro o
   cases hm : M.cell g o with
   | none => rfl
   | some x => have := hS.cell_lt hm; rw [ht.size] at h; omega
 have hturn := two_turn (w' := w') (B' := .objV (some cb) 101 [.pointer (some ⟨cb, 0, none⟩), .slice (some ⟨g, 0, none⟩) (l.length + s.size) cap]) (C' := .objV (some g) 5 cur.toList) (r' := .here g 0 cur.toList.length)
  hS hbc hn0 hn hρb ⟨hMb, map_none hS hbk⟩ hρc hrc hMc (fun k hk hkc hkr => by
   rw [hw, Below.heap_setCell _ _ _ _ hkc, hp2.block k (by rw [ht.size]; exact hk) fun e => by
    obtain ⟨n, hn2⟩ := hvo k e;exact hkr 0 n hn2]
   exact ht.block k hkc)
  (by rw [hw]; exact hp2.os.trans ht.os) (by rw [hw]; exact hp2.tape.trans ht.tape) (by rw [hw]; exact hp2.output.trans ht.output) (by rw [hw]; have := hp2.drawn; rw [ht.drawn] at this; exact this) (by rw [hsz]; rw [ht.size] at hgr; exact hgr)
  hcl (by simp only [BRel]; exact ⟨fun b h => (by cases h; rfl), hb3, by trivial, by trivial, hMb⟩) (by simp only [BRel]; exact ⟨fun b h => (by cases h; rfl), hg3, by trivial, by trivial, hnoM⟩)
  (fun g' sh n e => by
   cases e
   refine ⟨hlt, hgcb, ?_⟩
   rcases hp2.own with h | h
   ·obtain ⟨n, hn2⟩ := hvo g h
    exact .inl ⟨0, n, hn2⟩
   ·rw [ht.size] at h; exact .inr (by omega))
 refine ⟨_, _, _, M, _, ⟨rfl, _, _, .inr ⟨cb, g, cap, cur.toList, ?_, rfl, by simp [hsl]; omega, by rw [List.length_append, hsl]; exact hp2.le, hp2.max, by simpa using hp2.size, ?_⟩, rfl⟩, he, hturn, fun u y h => kill_lval h, lval_tup (vs := [.int .i64 s.size, .nili]) ?_⟩
 ·rw [List.length_append, hsl]
 ·rw [List.length_append, hsl, hp2.take, Lib.byteCells_append, Lib.strCells_eq]
 ·exact ⟨_, _, rfl, vrel_of_one (by simp [CRel]) rfl, _, _, rfl, vrel_of_one (by simp [CRel]) rfl, rfl⟩
theorem k77 {n0 b c : Nat} {H : List ABlock} {B C : ABlock} {l : List UInt8} (hb : H[b]? = some B) (hc : H[c]? = some C) (hbc : b ≠ c) (hn0 : n0 <= c) (hcl : ∀ i X, i ≠ c -> H[i]? = some X -> fgtB (· == c) X = X) (hst : BSt l B C) (hl : 0 < l.length) :
  CSemK Tryz.prog n0 77 [.loc b 0] H (fun r H' => r = .s (.str ⟨l.toArray⟩) /\ H' = (H.set b B).set c .gone) (some c) := by
 intro M ρ w vs hn hS hF;obtain ⟨v0, ys, rfl, h0, hys⟩ := hF;simp only [FRel] at hys;subst hys;obtain ⟨cb, rc, p, v, hρb, hρc, hrc, hbk, hMb, hp, hown, hne, hvo, hMc⟩ := bst_world hS hbc hb hc hst;have g0 := h0.one rfl (by simp)
 simp only [LRel] at g0;obtain ⟨cb', sh', n', hr', e0⟩ := g0;rw [hρb] at hr'; cases hr';simp only [List.cons.injEq, and_true] at e0;subst e0;obtain ⟨rb, hρb2, hBr⟩ := hS.spot hb;rw [hρb] at hρb2; cases hρb2
 rcases hown.2 with ⟨_, hz⟩ | ⟨g, cap, cur, rfl, _, hg, hnc, hcm, hcs, htake⟩
 ·omega
 have hcblt : cb < w.heap.size := (Array.getElem?_eq_some_iff.1 hbk).1;have hgcb : g ≠ cb := fun e => hne (by rw [e]; rfl)
 refine (w77 cb g cap p l cur w hbk hg hl hnc hcm (by simpa using hcs) (by simpa using htake)).mono fun e w' ⟨he, hw⟩ => ?_
 have hfz : ∀ k, k ≠ g -> w'.heap[k]? = w.heap[k]? := fun k hk => by
  rw [hw];unfold World.freeze
  split
  ·rfl
  ·simp only [Array.getElem?_modify]
   rw [if_neg (fun e => hk e.symm)]
   rfl
 have hsz : w'.heap.size = w.heap.size := by
  rw [hw]; unfold World.freeze
  split
  ·rfl
  ·simp only [Array.size_modify]; rfl
 have hst4 : w'.os = w.os /\ w'.tape = w.tape /\ w'.output = w.output /\ w.drawn <= w'.drawn := by
  rw [hw]; unfold World.freeze
  split
  ·exact ⟨rfl, rfl, rfl, Nat.le_succ _⟩
  ·exact ⟨rfl, rfl, rfl, Nat.le_succ _⟩
 obtain ⟨n, hn2⟩ := hvo g rfl
 have hBF : ∀ (ρ' : Env), BRel M ρ' w' B (.here cb 0 2) := fun ρ' => by
  rcases hst with ⟨_, rfl, _⟩ | ⟨cb', g', cap', cs', rfl, _⟩
  ·simp only [BRel] at hBr ⊢
   rw [hfz cb (fun e => hgcb e.symm)]; exact hBr
  ·simp only [BRel] at hBr ⊢
   rw [hfz cb (fun e => hgcb e.symm)]; exact hBr
 have hturn := two_turn (w' := w') (B' := B) (C' := .gone) (r' := .gone) hS hbc hn0 hn hρb ⟨hMb, map_none hS hbk⟩ hρc hrc hMc
  (fun k hk hkc hkr => hfz k fun e => by subst e; exact hkr 0 n hn2) hst4.1 hst4.2.1 hst4.2.2.1 hst4.2.2.2 (by rw [hsz]; exact Nat.le_refl _) hcl (hBF _) (by simp [BRel]) (fun g' sh n e => by cases e)
 exact ⟨_, _, _, M, _, ⟨rfl, rfl⟩, he, hturn, fun u y h => kill_lval h, lval_s.2 (vrel_of_one (by simp [CRel]) rfl)⟩
end Go.Proofs.YtdlfkbpddfeenaaGreatDoor.Sk
namespace Go.Proofs.YtdlfkbpddfeenaaGreatDoor.Sk
open Go Go.E Go.E.Sm
set_option maxRecDepth 10000
def key (m n : Int) : SV := .agg [.int .i64 m, .int .i64 n]
def keyE (e : Ent) : SV := key e.m e.n
theorem key_ok {m n : Int} {L : List Ent} : keyOk [.int .i64, .int .i64] (key m n) (L.map keyE) := by
 refine ⟨⟨rfl, rfl⟩, fun x hx => ?_⟩
 obtain ⟨e, _, rfl⟩ := List.mem_map.1 hx;exact ⟨rfl, rfl⟩
theorem key_eq {a b m n : Int} : key a b = key m n ↔ a = m /\ b = n := by
 unfold key;constructor
 ·intro h; injection h with h; injection h with h1 h; injection h with h2 _; injection h1 with _ h1; injection h2 with _ h2; exact ⟨h1, h2⟩
 ·rintro ⟨rfl, rfl⟩; rfl
theorem mFind_key {m n : Int} : ∀ {L : List Ent}, (match mFind (key m n) (L.map keyE) with
  | none => fnd L m n = none
  | some i => ∃ e, L[i]? = some e /\ fnd L m n = some e)
 | [] => by simp [mFind, fnd]
 | x :: L => by
  have ih := mFind_key (m := m) (n := n) (L := L);simp only [List.map_cons, mFind]
  by_cases h : key m n = keyE x
  ·rw [if_pos h]
   obtain ⟨h1, h2⟩ := key_eq.1 h;exact ⟨x, rfl, by unfold fnd; rw [List.find?_cons_of_pos]; simp [h1, h2]⟩
  ·rw [if_neg h]
   have hx : ¬ (x.m = m /\ x.n = n) := fun hx => h (key_eq.2 ⟨hx.1.symm, hx.2.symm⟩)
   have hf : fnd (x :: L) m n = fnd L m n := by unfold fnd; rw [List.find?_cons_of_neg]; simpa using hx
   rw [hf]
   cases hm : mFind (key m n) (L.map keyE) with
   | none => rw [hm] at ih; exact ih
   | some i => rw [hm] at ih; exact ih
theorem mFind_new {m n : Int} {L : List Ent} (h : fnd L m n = none) : mFind (key m n) (L.map keyE) = none := by
 have := mFind_key (m := m) (n := n) (L := L)
 cases hm : mFind (key m n) (L.map keyE) with
 | none => rfl
 | some i => rw [hm] at this; obtain ⟨e, _, h2⟩ := this; rw [h] at h2; cases h2
theorem key_nodup {L : List Ent} (h : L.Pairwise Bef) : (L.map keyE).Nodup := by
 rw [List.Nodup, List.pairwise_map];exact h.imp fun {x y} hb he => by have := key_eq.1 he; unfold Bef at hb; omega
theorem take_new {L : List Ent} (h : L.Pairwise Bef) {i : Nat} {x : Ent} (hx : L[i]? = some x) : fnd (L.take i) x.m x.n = none := by
 rw [fnd_none];intro e he hs;obtain ⟨j, hj, rfl⟩ := List.getElem_of_mem he;obtain ⟨hi, rfl⟩ := List.getElem?_eq_some_iff.1 hx;rw [List.length_take] at hj;have := List.pairwise_iff_getElem.1 h j i (by omega) hi (by omega)
 rw [List.getElem_take] at hs;unfold Bef at this;omega
def mks (l : List Ent) : List SV := [.int .i64 (scn 0 l), .int .i64 (scn 1 l), .int .i64 (scn 2 l), .int .i64 (scn 3 l), .int .i64 (scn 4 l)]
def dsk (L : List Ent) : SV := .ptr (ents L :: .map (L.map keyE) (L.map ent) :: mks L)
theorem spl72 {a b c d e f g x y z u v : LV} : splice [a, b, c, d, e, f, g] 2 [x, y, z, u, v] = [a, b, x, y, z, u, v] := rfl
def mkL (l : List Ent) : List LV := [aI (scn 0 l), aI (scn 1 l), aI (scn 2 l), aI (scn 3 l), aI (scn 4 l)]
theorem scn_bdT {m : Int} : ∀ {l : List Ent} {t : Int}, 0 <= t -> 0 <= l.foldl (fun t e => if e.m = m /\ e.n = t + 1 then t + 1 else t) t /\ l.foldl (fun t e => if e.m = m /\ e.n = t + 1 then t + 1 else t) t <= t + l.length
 | [], t, h => ⟨h, by simp⟩
 | e :: l, t, h => by
  rw [List.foldl_cons, List.length_cons]
  split
  ·have := scn_bdT (m := m) (l := l) (t := t + 1) (by omega); omega
  ·have := scn_bdT (m := m) (l := l) (t := t) h; omega
theorem scn_bd {m : Int} {l : List Ent} : 0 <= scn m l /\ scn m l <= l.length := by
 have := scn_bdT (m := m) (l := l) (t := 0) (Int.le_refl _);unfold scn; omega
theorem mPut_new {kv v : SV} {ks vs : List SV} : mPut kv v ks vs none = .map (ks ++ [kv]) (vs ++ [v]) := rfl
theorem k87 {L : List Ent} (hok : OkS L) : E.Fn Tryz.prog 87 [ssn L] [dsk L] := by
 refine fn_of_row okf87 ?_;generalize hr : dsk L = r;simp only [FRow.start, f87, c87r0, c87r1, c87r2, ssn, ents, spl72, go_sem, ↓reduceIte, Nat.reduceAdd, Nat.reduceSub, Nat.reduceLT, Nat.reduceLeDiff, Nat.reduceMul, true_implies];refine ⟨by decide, ?_⟩
 simp only [c87r3, go_sem];intro hlen;have hlen' := hok.len
 refine loop_rule (fun m τ => ∃ i : Nat, m = L.length - i /\ i <= L.length /\
  τ = ⟨(aN::aN::aN::(.loc 1 0)::aN::aN::aN::aN::aN::aN::aN::aN::aN::aN::aN::aN::aN::aN::(.s (.slice (L.map ent)))::(aI L.length)::(aI i)::aN::aN::aZ32), [.map ((L.take i).map keyE) ((L.take i).map ent), .obj (.s (.slice (L.map ent)) :: .mp 0 :: mkL (L.take i))]⟩) L.length rfl ?_ ?_
 ·simp only [c87l10m, go_sem, ↓reduceIte, reduceCtorEq, Nat.reduceAdd, Nat.reduceLeDiff]
  exact ⟨0, rfl, Nat.zero_le _, rfl⟩
 rintro I m τ ⟨i, rfl, hi, rfl⟩ hI;simp only [c87l10, c87r4, go_sem, ↓reduceIte, Nat.reduceAdd, true_implies];refine ⟨fun hlt => ?_, fun hge => ?_⟩
 ·have hx : L[i]? = some L[i] := List.getElem?_eq_getElem hlt
  generalize L[i] = x at hx;have ht := take_snoc hx;have hn := take_new hok.ord hx;have ho := hok.ent x (List.mem_of_getElem? hx);simp only [c87r5, hx, ent_cells, spl4, go_sem, Nat.reduceAdd, true_implies];simp only [c87r6, mkL, go_sem, Nat.reduceAdd];refine callK_of (by simp only [ent, go_sem]) (k62 (e := x)) (.inl rfl) ?_
  simp only [go_sem, Nat.reduceAdd, true_implies];refine ⟨key_ok, ?_⟩;have hm := mFind_new hn;unfold key at hm;rw [hm, mPut_new];have h0 := ho.m0; have h4 := ho.m4;have hb := fun j => scn_bd (m := j) (l := L.take i)
  have hbl : (L.take i).length <= 24 := by rw [List.length_take]; omega
  have hs := fun j => scn_snoc (m := j) (l := L.take i) (e := x)
  rw [<- ht] at hs
  rcases x with ⟨m, n, kk, am⟩
  simp only at hs h0 h4 hm;have hmm : m = 0 \/ m = 1 \/ m = 2 \/ m = 3 \/ m = 4 := by omega
  rcases hmm with rfl | rfl | rfl | rfl | rfl
  all_goals
   have b0 := hb 0; have b1 := hb 1; have b2 := hb 2; have b3 := hb 3; have b4 := hb 4;have q0 := hs 0; have q1 := hs 1; have q2 := hs 2; have q3 := hs 3; have q4 := hs 4;simp only [c87r7, go_sem, Nat.reduceAdd, Int.reduceLE, Int.reduceToNat, Nat.reduceMul, true_implies];refine ⟨by decide, inR_small (by omega) (by omega), fun he => ?_, fun he => ?_⟩
   ·simp only [c87r8, go_sem, Nat.reduceAdd, Nat.reduceLeDiff, Int.reduceLE, Int.reduceToNat, Nat.reduceMul, true_implies]
    refine ⟨by decide, inR_small (by omega) (by omega), by decide, ?_⟩
    simp only [c87r9, c87l10m, go_sem, ↓reduceIte, reduceCtorEq, Nat.reduceLeDiff, true_implies];refine ⟨inR_small (by omega) (by omega), hI (L.length - (i + 1)) _ (by omega) ⟨i + 1, rfl, by omega, ?_⟩⟩
    simp [he] at q0 q1 q2 q3 q4;unfold mkL;rw [q0, q1, q2, q3, q4, ht, List.map_append, List.map_append];rfl
   ·simp only [c87r9, c87l10m, go_sem, ↓reduceIte, reduceCtorEq, Nat.reduceLeDiff, true_implies]
    refine ⟨inR_small (by omega) (by omega), hI (L.length - (i + 1)) _ (by omega) ⟨i + 1, rfl, by omega, ?_⟩⟩
    simp [he] at q0 q1 q2 q3 q4;unfold mkL;rw [q0, q1, q2, q3, q4, ht, List.map_append, List.map_append];rfl
 ·have hie : i = L.length := by omega
  subst hie;simp only [c87r11, go_sem, true_implies];rw [List.take_length];rw [<- hr];rfl
theorem k60 {L : List Ent} (hok : OkS L) : E.Fn Tryz.prog 60 [ssn L] [dsk L, .int .i64 0] := by
 refine fn_of_row okf60 ?_;simp only [FRow.start, f60, c60r0, c60r1, ssn, SV.cells, go_sem, Nat.reduceSub, true_implies];refine callK_of (by simp only [ssn, go_sem]) (k25 (L := L)) (.inl rfl) ?_
 simp only [ckS_zero.2 hok, c60r2, c60r4, go_sem, true_implies];refine callK_of (by simp only [ssn, go_sem]) (k87 hok) (.inr (.inl (by simp only [ssn, go_sem]))) ?_
 simp only [go_sem, true_implies]
theorem k60b {L : List Ent} (h : ckS L ≠ 0) : E.Fn Tryz.prog 60 [ssn L] [.nilp, .int .i64 (ckS L)] := by
 refine fn_of_row okf60 ?_;simp only [FRow.start, f60, c60r0, c60r1, ssn, SV.cells, go_sem, Nat.reduceSub, true_implies];refine callK_of (by simp only [ssn, go_sem]) (k25 (L := L)) (.inl rfl) ?_
 simp only [h, c60r2, c60r3, go_sem, true_implies]
def atE (L : List Ent) (m : Int) : List Ent := L.filter fun e => decide (e.m = m)
theorem k92 {L : List Ent} {m : Int} : E.Fn Tryz.prog 92 [dsk L, .int .i64 m] [.fn 119 [] [.ptr [dsk L], .ptr [.int .i64 m]]] := by
 refine fn_of_row okf92 ?_;simp only [FRow.start, f92, c92r0, c92r1, dsk, SV.cells, go_sem, Nat.reduceAdd, Nat.reduceSub, true_implies]
theorem fpt_some {fr : List LV} {d : Nat} {v : LV} : fpt fr (some d) v = fset fr d v := rfl
theorem fgt_yl {q : Nat -> Bool} {l : Nat} : fgt q (.yl l) = .yl l := by simp only [fgt]
def z119 : ZCode := .seq (.code (.reg 0 c119r0)) (.block 0 (.loop c119l5m [] (.seq (.code (.reg 0 c119r1)) (.seq (.cond (.t 13) (.code .skip) (.code (.exit 0))) (.seq (.block 1 (.seq (.code (.reg 1 c119r2)) (.seq (.yldg [⟨some 16, none, .fieldAddr 0 (.t 5)⟩, ⟨some 17, none, .load 1 false (.t 16)⟩, ⟨some 18, none, .load 1 false (.t 2)⟩, ⟨some 19, none, .cmp .eql (.t 17) (.t 18)⟩, ⟨some 20, none, .mov (.t 19)⟩, ⟨some 21, some (20, true), .mov (.t 0)⟩, ⟨some 22, some (20, true), .load 4 true (.t 5)⟩] 20 true (.t 21) (.t 22) (some 23) [⟨some 24, some (20, true), .not (.t 23)⟩, ⟨some 25, none, .pick (.t 20) (.t 24) (.c (.s (.bool false)))⟩]) (.cond (.t 25) (.code .ret) (.code .skip))))) (.code (.reg 0 c119r4)))))))
theorem y119 {L : List Ent} {m : Int} : ZYields Tryz.prog 119 [.ptr [dsk L], .ptr [.int .i64 m]] ((atE L m).map ent) := by
 refine zyields_of_row (zc := z119) (nt := 27) Tryz.func119 rfl (by kernel_rfl) (by kernel_rfl) (by kernel_rfl) fun l => ?_
 simp only [z119, List.map_cons, List.map_nil, Nat.reduceSub, c119r0, dsk, ents, go_sem, Nat.reduceAdd, Nat.reduceSub, Nat.reduceLeDiff];intro hlen;have hlen' : (L.length : Int) <= 2 ^ 63 - 1 := Int.le_trans (Int.ofNat_le.mpr hlen) maxLen_le
 refine zloop_rule (fun k τ r => ∃ i : Nat, k = L.length - i /\ i <= L.length /\ r = some ((atE (L.drop i) m).map ent) /\
  τ = ⟨((.yl l)::aN::(.s (.ptr [.int .i64 m]))::aN::aN::aN::aN::aN::aN::aN::(.s (.slice (L.map ent)))::(aI L.length)::(aI i)::aN::aN::aN::aN::aN::aN::aZ8), []⟩) L.length rfl ?_ ?_
 ·simp only [c119l5m, fgt_yl, go_sem]
  exact ⟨0, rfl, Nat.zero_le _, rfl, rfl⟩
 rintro I k τ r ⟨i, rfl, hi, rfl, rfl⟩ hI;simp only [c119r1, go_sem, ↓reduceIte, reduceCtorEq, true_implies];refine ⟨fun hlt => ?_, fun hge => ?_⟩
 ·have hx : L[i]? = some L[i] := List.getElem?_eq_getElem hlt
  have hd : L.drop i = L[i] :: L.drop (i + 1) := List.drop_eq_getElem_cons hlt;generalize L[i] = x at hx hd;rw [hd]
  by_cases hm : x.m = m
  ·have ha : atE (x :: L.drop (i + 1)) m = x :: atE (L.drop (i + 1)) m := by unfold atE; rw [List.filter_cons_of_pos (by simpa using hm)]
   rw [ha];simp only [c119r2, hx, ent_cells, spl4, hm, fpt_some, go_sem, reduceCtorEq, Nat.reduceAdd, true_implies];refine ⟨by rw [<- hm]; rfl, ?_, .inr trivial⟩
   simp only [c119r4, c119l5m, fgt_yl, go_sem, true_implies];exact ⟨inR_small (by omega) (by omega), hI (L.length - (i + 1)) _ _ (by omega) ⟨i + 1, rfl, by omega, rfl, rfl⟩⟩
  ·have ha : atE (x :: L.drop (i + 1)) m = atE (L.drop (i + 1)) m := by unfold atE; rw [List.filter_cons_of_neg (by simpa using hm)]
   rw [ha];simp only [c119r2, hx, ent_cells, spl4, hm, fpt_some, c119r4, c119l5m, fgt_yl, go_sem, reduceCtorEq, Nat.reduceAdd, true_implies];exact ⟨inR_small (by omega) (by omega), hI (L.length - (i + 1)) _ _ (by omega) ⟨i + 1, rfl, by omega, rfl, rfl⟩⟩
 ·have hie : i = L.length := by omega
  subst hie;rw [List.drop_length];exact .inl rfl
theorem spl_one {a x : LV} : splice [a] 0 [x] = [x] := rfl
theorem slice_all {L : List Int} {n : Nat} (h : n = L.length) : sliceOf 0 n 1 (L.map (SV.int .i64)) = some (ints L) := by
 rw [sliceOf_all (by simpa using h)]
 rfl
def rngI (a b : Int) : List Int := (List.range (b - a).toNat).map fun j : Nat => a + j
def gapF : List Ent -> Int -> List Int
 | [], _ => []
 | e :: es, nx => rngI nx e.n ++ gapF es (e.n + 1)
theorem rngI_snoc {a b : Int} (h : a <= b) : rngI a (b + 1) = rngI a b ++ [b] := by
 unfold rngI;rw [show (b + 1 - a).toNat = (b - a).toNat + 1 from by omega, List.range_succ, List.map_append, List.map_singleton]
 rw [show a + (((b - a).toNat : Nat) : Int) = b from by omega]
theorem rngI_nil {a : Int} : rngI a a = [] := by unfold rngI; rw [Int.sub_self]; rfl
theorem rngI_len {a b : Int} : (rngI a b).length = (b - a).toNat := by unfold rngI; simp
theorem atE_srt {L : List Ent} {m : Int} (h : L.Pairwise Bef) : (atE L m).Pairwise fun x y => x.n < y.n := by
 have h1 : (atE L m).Pairwise Bef := h.filter _;refine h1.imp_of_mem fun {x y} hx hy hb => ?_
 have e1 : x.m = m := by simpa using (List.mem_filter.1 hx).2
 have e2 : y.m = m := by simpa using (List.mem_filter.1 hy).2
 unfold Bef at hb; omega
theorem k67' {L : List Ent} {m : Int} (hok : OkS L) : E.Fn Tryz.prog 67 [dsk L, .int .i64 m] [ints (gapF (atE L m) 1)] := by
 refine fn_of_brow okt67 ?_;generalize hr : gapF (atE L m) 1 = r;have hsrt := atE_srt (m := m) hok.ord;have hbd : ∀ e ∈ atE L m, 1 <= e.n /\ e.n <= 30 := fun e he => ⟨(hok.ent e (List.mem_filter.1 he).1).n1, (hok.ent e (List.mem_filter.1 he).1).n30⟩
 simp only [BRow.start, t67, c67r0, c67r1, c67r2, c67r3, go_sem, Nat.reduceAdd, Nat.reduceSub, true_implies];refine callK_of (by simp only [dsk, go_sem]) (k92 (L := L) (m := m)) (.inr (.inl (by simp only [dsk, go_sem]))) ?_
 simp only [go_sem, true_implies];refine promo_rule (σ' := ⟨[.s (dsk L), aI m, .any, .any, .full [], .loc 0 0, .loc 1 0, .any, .s (dsk L), aI m, .s (.fn 119 [] [.ptr [dsk L], .ptr [.int .i64 m]]), .any, .any, .any, .any, .any, .any, .any, .any, .any, .any, .any, .any, .any, .any, .any, .any, .any, .any, .any, .any], [.obj [.sl 2 0 0 1 false], .obj [aI 1], .row []]⟩) rfl ?_
 refine range_rule (fun vs H => ∃ (ys zs : List Ent) (out : List Int) (nx : Int), atE L m = ys ++ zs /\ vs = zs.map ent /\ r = out ++ gapF zs nx /\ 1 <= nx /\ nx <= 31 /\ (out.length : Int) < nx /\ (∀ z ∈ zs, nx <= z.n) /\
   H = [.obj [.sl 2 0 out.length 1 false], .obj [aI nx], .row (out.map (.int .i64))]) rfl (by kernel_rfl) rfl (y119 (L := L) (m := m)) (by decide) ⟨[], atE L m, [], 1, rfl, rfl, hr.symm, by decide, by decide, by decide, fun z hz => (hbd z hz).1, rfl⟩ rfl ?_ ?_
 ·rintro H ⟨ys, zs, out, nx, h1, h2, h3, h4, h5, h6, h7, rfl⟩
  have hz : zs = [] := by simpa using h2.symm
  subst hz;rw [gapF, List.append_nil] at h3;subst h3;simp only [c67r11, go_sem, ↓reduceIte, reduceCtorEq, Nat.reduceAdd, Nat.reduceSub, Nat.reduceLeDiff, true_implies];rw [slice_all rfl];simp only [go_sem]
 ·rintro v vs H I ⟨ys, zs, out, nx, h1, h2, h3, h4, h5, h6, h7, rfl⟩ hI
  cases zs with
  | nil => simp at h2
  | cons z zs =>
   simp only [List.map_cons, List.cons.injEq] at h2;obtain ⟨rfl, rfl⟩ := h2;have hz := h7 z (List.mem_cons_self ..);have hz30 := (hbd z (by rw [h1]; simp)).2
   simp only [c67b10a, c67r4, ent, spl4, c67b10, go_sem, ↓reduceIte, reduceCtorEq, Nat.reduceAdd, Nat.reduceSub, Nat.reduceLeDiff, true_implies]
   refine loop_rule (fun k τ => ∃ c : Int, k = (z.n - c).toNat /\ nx <= c /\ c <= z.n /\
    τ = ⟨(aN::aN::aN::aN::aN::(.loc 0 0)::(.loc 1 0)::(.loc 3 0)::aN::aN::aN::aN::aN::aN::aN::aZ16), [.obj [.sl 2 0 (out ++ rngI nx c).length 1 false], .obj [aI c], .row ((out ++ rngI nx c).map (.int .i64)), .obj [aI z.m, aI z.n, aI z.k, aI z.a]]⟩) (z.n - nx).toNat (σ' := ⟨[.s (dsk L), aI m, .any, .any, .full [], .loc 0 0, .loc 1 0, .loc 3 0, .s (dsk L), aI m, .s (.fn 119 [] [.ptr [dsk L], .ptr [.int .i64 m]]), .s (.agg [.int .i64 z.m, .int .i64 z.n, .int .i64 z.k, .int .i64 z.a]), .any, .any, .any, .any, .any, .any, .any, .any, .any, .any, .any, .any, .any, .any, .any, .any, .any, .any, .any], [.obj [.sl 2 0 out.length 1 false], .obj [aI nx], .row (out.map (.int .i64)), .obj [aI z.m, aI z.n, aI z.k, aI z.a]]⟩) rfl ?_ ?_
   ·simp only [c67l8m, go_sem, ↓reduceIte, reduceCtorEq, Nat.reduceAdd, Nat.reduceLeDiff]
    exact ⟨nx, rfl, Int.le_refl _, hz, by rw [rngI_nil, List.append_nil]⟩
   rintro I2 k τ ⟨c, rfl, hc1, hc2, rfl⟩ hI2;have hl2 : ((out ++ rngI nx c).length : Int) < c := by rw [List.length_append, rngI_len]; omega
   generalize hO : out ++ rngI nx c = O at hl2;simp only [c67l8, c67r5, go_sem, ↓reduceIte, reduceCtorEq, Nat.reduceAdd, Nat.reduceLeDiff, true_implies];refine ⟨fun hge => ?_, fun hlt => ?_⟩
   ·have hce : c = z.n := by omega
    subst hce;simp only [c67r9, Nat.reduceEqDiff, go_sem, ↓reduceIte, reduceCtorEq, Nat.reduceLeDiff, true_implies];refine ⟨inR_small (by omega) (by omega), hI _ ⟨ys ++ [z], zs, O, z.n + 1, by rw [h1, List.append_assoc]; rfl, rfl, ?_, by omega, by omega, by omega, ?_, rfl⟩⟩
    ·rw [h3, gapF, <- List.append_assoc, hO]
    ·intro y hy
     have hp := hsrt;rw [h1] at hp;have := (List.pairwise_cons.1 (List.pairwise_append.1 hp).2.1).1 y hy;omega
   ·simp only [c67r6, Nat.reduceBEq, Bool.false_eq_true, Nat.zero_le, beq_self_eq_true, Nat.sub_zero, Nat.mul_one, spl_one, go_sem, ↓reduceIte, Nat.reduceAdd]
    refine ⟨by decide, by decide, rfl, one_cells, one_cells, by omega, by omega, ?_⟩
    simp only [spl_one, c67r7, c67l8m, Bool.false_eq_true, go_sem, ↓reduceIte, Nat.reduceLeDiff, true_implies];intro _;have hs : out ++ rngI nx (c + 1) = O ++ [c] := by rw [rngI_snoc hc1, <- List.append_assoc, hO]
    exact ⟨inR_small (by omega) (by omega), hI2 (z.n - (c + 1)).toNat _ (by omega) ⟨c + 1, rfl, by omega, by omega, by rw [hs, List.length_append, List.map_append]; rfl⟩⟩
theorem k65m {m : Int} : E.Fn Tryz.prog 65 [.int .i64 0, .int .i64 4, .slice [.int .i64 m]] [.bool (decide (0 <= m /\ m <= 4))] := by
 by_cases h : 0 <= m /\ m <= 4
 ·rw [decide_eq_true h]; exact k65t h
 ·rw [decide_eq_false h]; exact k65f h
def ckM (L : List Ent) (m : Int) : Int := if ckS L ≠ 0 then ckS L else if 0 <= m /\ m <= 4 then 0 else 2
theorem k30 {L : List Ent} {m : Int} : E.Fn Tryz.prog 30 [ssn L, .int .i64 m] [ints (if ckM L m = 0 then gapF (atE L m) 1 else []), .int .i64 (ckM L m)] := by
 refine fn_of_row okf30 ?_;simp only [FRow.start, f30, c30r0, c30r1, ssn, SV.cells, go_sem, Nat.reduceAdd, Nat.reduceSub, true_implies]
 by_cases h : ckS L = 0
 ·have hok := ckS_zero.1 h
  refine callK_of (by simp only [ssn, go_sem]) (k60 hok) (.inr (.inl (by simp only [ssn, go_sem]))) ?_
  simp only [c30r2, c30r4, go_sem, Nat.reduceMul, true_implies];refine ⟨by decide, by decide, rfl, one_cells, ?_⟩
  by_cases hm : 0 <= m /\ m <= 4
  ·refine callK_of (by simp only [go_sem]) (k65t hm) (.inl rfl) ?_
   simp only [c30r6, go_sem, true_implies];refine callK_of (by simp only [go_sem]) (k67' (m := m) hok) (.inr (.inl (by simp only [go_sem]))) ?_
   have e : ckM L m = 0 := by unfold ckM; rw [if_neg (by simpa using h), if_pos hm]
   rw [e, if_pos rfl];simp only [go_sem, true_implies]
  ·refine callK_of (by simp only [go_sem]) (k65f hm) (.inl rfl) ?_
   have e : ckM L m = 2 := by unfold ckM; rw [if_neg (by simpa using h), if_neg hm]
   rw [e, if_neg (by decide)]
   simp only [c30r5, ints, go_sem, true_implies]
 ·refine callK_of (by simp only [ssn, go_sem]) (k60b h) (.inr (.inl (by simp only [ssn, go_sem]))) ?_
  have e : ckM L m = ckS L := by unfold ckM; rw [if_pos h]
  rw [e, if_neg h];simp only [c30r2, c30r3, h, ints, go_sem, true_implies]
theorem k28 {L : List Ent} : E.Fn Tryz.prog 28 [ssn L] [.slice (if ckS L = 0 then mks L else []), .int .i64 (ckS L)] := by
 refine fn_of_row okf28 ?_;simp only [FRow.start, f28, c28r0, c28r1, ssn, SV.cells, go_sem, Nat.reduceSub, true_implies]
 by_cases h : ckS L = 0
 ·have hok := ckS_zero.1 h
  refine callK_of (by simp only [ssn, go_sem]) (k60 hok) (.inr (.inl (by simp only [ssn, go_sem]))) ?_
  rw [h, if_pos rfl];simp only [c28r2, c28r4, c28r5, dsk, mks, go_sem, ↓reduceIte, Nat.reduceAdd, Nat.reduceSub, Nat.reduceLT, Nat.reduceLeDiff, Int.reduceLE, Int.reduceToNat, Nat.reduceMul, true_implies];refine ⟨by decide, by decide, by decide, by intro y hy; simp at hy; rcases hy with rfl | rfl | rfl | rfl | rfl <;> rfl, ?_⟩
  simp only [c28r6, go_sem, true_implies];rfl
 ·refine callK_of (by simp only [ssn, go_sem]) (k60b h) (.inr (.inl (by simp only [ssn, go_sem]))) ?_
  rw [if_neg h];simp only [c28r2, c28r3, h, go_sem, true_implies]
def e0 : Ent := ⟨0, 0, 0, 0⟩
theorem k48 {L : List Ent} {m n : Int} : E.Fn Tryz.prog 48 [ssn L, .int .i64 m, .int .i64 n] [ent ((fnd L m n).getD e0), .bool (fnd L m n).isSome] := by
 refine fn_of_row okf48 ?_;generalize hr : fnd L m n = r;simp only [FRow.start, f48, c48r0, c48r1, ssn, ents, go_sem, Nat.reduceAdd, Nat.reduceSub, true_implies]
 refine loop_rule (fun k τ => ∃ i : Nat, k = L.length - i /\ i <= L.length /\ fnd (L.drop i) m n = r /\
  τ = ⟨(aN::(aI m)::(aI n)::(.s (.ptr [.slice (L.map ent)]))::aN::aN::(.loc 0 0)::aN::(aI i)::aN::aN::aN::aN::aN::aN::aN::aZ24), [.obj [aI 0, aI 0, aI 0, aI 0]]⟩) L.length rfl ?_ ?_
 ·simp only [c48l6m, go_sem, ↓reduceIte, reduceCtorEq, Nat.reduceLeDiff]
  exact ⟨0, rfl, Nat.zero_le _, hr, rfl⟩
 rintro I k τ ⟨i, rfl, hi, hf, rfl⟩ hI;simp only [c48l6, c48r2, go_sem, ↓reduceIte, Nat.reduceLeDiff];intro hlen;have hlen' : (L.length : Int) <= 2 ^ 63 - 1 := Int.le_trans (Int.ofNat_le.mpr hlen) maxLen_le;refine ⟨fun hlt => ?_, fun hge => ?_⟩
 ·have hx : L[i]? = some L[i] := List.getElem?_eq_getElem hlt
  have hd : L.drop i = L[i] :: L.drop (i + 1) := List.drop_eq_getElem_cons hlt;rw [hd] at hf;generalize L[i] = x at hx hf
  by_cases hm : x.m = m /\ x.n = n
  ·have hf' : r = some x := by rw [<- hf]; unfold fnd; rw [List.find?_cons_of_pos]; simpa using hm
   subst hf';simp only [c48r3, hx, ent_cells, hm.1, hm.2, c48r4, spl4, go_sem, Nat.reduceAdd, Nat.reduceLeDiff, true_implies];simp only [Option.getD_some, Option.isSome_some, ent, hm.1, hm.2]
  ·have hf' : fnd (L.drop (i + 1)) m n = r := by rw [<- hf]; unfold fnd; rw [List.find?_cons_of_neg]; simpa using hm
   by_cases h1 : x.m = m
   ·have h2 : ¬ x.n = n := fun h => hm ⟨h1, h⟩
    simp only [c48r3, hx, ent_cells, h1, h2, c48r5, c48l6m, go_sem, ↓reduceIte, reduceCtorEq, Nat.reduceAdd, Nat.reduceLeDiff, true_implies];exact ⟨inR_small (by omega) (by omega), hI (L.length - (i + 1)) _ (by omega) ⟨i + 1, rfl, by omega, hf', rfl⟩⟩
   ·simp only [c48r3, hx, ent_cells, h1, c48r5, c48l6m, go_sem, ↓reduceIte, reduceCtorEq, Nat.reduceAdd, Nat.reduceLeDiff, true_implies]
    exact ⟨inR_small (by omega) (by omega), hI (L.length - (i + 1)) _ (by omega) ⟨i + 1, rfl, by omega, hf', rfl⟩⟩
 ·have hie : i = L.length := by omega
  subst hie;rw [List.drop_length] at hf;subst hf;simp only [c48r7, spl4, fnd, go_sem, Nat.reduceAdd, true_implies];rfl
theorem has_some {L : List Ent} {m n : Int} : (fnd L m n).isSome = has L m n := rfl
theorem k47 {L : List Ent} {m : Int} (hok : OkS L) : E.Fn Tryz.prog 47 [ssn L, .int .i64 m] [.int .i64 (mark L m)] := by
 refine fn_of_row okf47 ?_;simp only [FRow.start, f47, c47r0, c47r1, ssn, ents, go_sem, Nat.reduceAdd, Nat.reduceSub, true_implies]
 refine loop_rule (fun k τ => ∃ n : Nat, k = 31 - n /\ n <= 30 /\ (∀ j : Nat, 1 <= j -> j <= n -> has L m j = true) /\
  τ = ⟨(aN::(aI m)::(.s (.ptr [.slice (L.map ent)]))::aN::aN::(aI n)::aN::aN::aN::aN::aN::aN::aN::aZ8), []⟩) 31 rfl ?_ ?_
 ·simp only [c47l6m, go_sem]
  exact ⟨0, rfl, by decide, fun j h1 h2 => by omega, rfl⟩
 rintro I k τ ⟨n, rfl, hn, hall, rfl⟩ hI;have e : ((n : Int) + 1) = ((n + 1 : Nat) : Int) := by omega
 simp only [c47l6, c47r2, go_sem];refine ⟨inR_small (by omega) (by omega), callK_of (by simp only [ssn, ents, go_sem]) (k48 (L := L) (m := m) (n := (n : Int) + 1)) (.inl rfl) ?_⟩
 rw [e, has_some]
 cases h : has L m ((n + 1 : Nat) : Int) with
 | false =>
  have hm := mark_eq (fun e he => (hok.ent e he).n30) hall h
  simp only [c47r3, c47r4, hm, ent, spl4, go_sem, Nat.reduceAdd, true_implies]
 | true =>
  have hn' : n + 1 <= 30 := by
   obtain ⟨e, he, _, h2⟩ := has_iff.1 h;have := (hok.ent e he).n30; omega
  simp only [c47r3, c47r5, c47l6m, ent, spl4, go_sem, Nat.reduceAdd, true_implies];refine ⟨inR_small (by omega) (by omega), hI (31 - (n + 1)) _ (by omega) ⟨n + 1, rfl, hn', fun j h1 h2 => ?_, rfl⟩⟩
  by_cases hj : j = n + 1
  ·rw [hj]; exact h
  ·exact hall j h1 (by omega)
theorem mks_mark {L : List Ent} (hok : OkS L) : mks L = [.int .i64 (mark L 0), .int .i64 (mark L 1), .int .i64 (mark L 2), .int .i64 (mark L 3), .int .i64 (mark L 4)] := by
 unfold mks; rw [scn_mark hok, scn_mark hok, scn_mark hok, scn_mark hok, scn_mark hok]
theorem k50 {L : List Ent} {m : Int} : E.Fn Tryz.prog 50 [ssn L, .int .i64 m] [.int .i64 (grt L m)] := by
 refine fn_of_row okf50 ?_;simp only [FRow.start, f50, c50r0, c50r1, c50r2, ssn, ents, go_sem, Nat.reduceAdd, Nat.reduceSub, true_implies]
 refine loop_rule (fun k τ => ∃ i : Nat, k = L.length - i /\ i <= L.length /\
  τ = ⟨(aN::(aI m)::(.s (.ptr [.slice (L.map ent)]))::aN::aN::(aI (grt (L.take i) m))::(aI i)::aZ24), []⟩) L.length rfl ?_ ?_
 ·simp only [c50l7m, go_sem]
  exact ⟨0, rfl, Nat.zero_le _, rfl⟩
 rintro I k τ ⟨i, rfl, hi, rfl⟩ hI;simp only [c50l7, c50r3, go_sem, ↓reduceIte, Nat.reduceLeDiff];intro hlen;have hlen' : (L.length : Int) <= 2 ^ 63 - 1 := Int.le_trans (Int.ofNat_le.mpr hlen) maxLen_le;refine ⟨fun hlt => ?_, fun hge => ?_⟩
 ·have hx : L[i]? = some L[i] := List.getElem?_eq_getElem hlt
  generalize L[i] = x at hx
  have hg : grt (L.take (i + 1)) m = if x.m = m then max (grt (L.take i) m) x.n else grt (L.take i) m := by
   rw [take_snoc hx]; unfold grt; rw [List.foldl_append]; rfl
  by_cases hm : x.m = m
  ·rw [if_pos hm] at hg
   simp only [c50r4, hx, ent_cells, hm, c50r5, go_sem, Nat.reduceAdd, Nat.reduceLeDiff, true_implies];refine ⟨by simp, ?_⟩
   have hx2 : maxL [grt (L.take i) m, x.n] = grt (L.take (i + 1)) m := by
    rw [hg]; simp only [maxL, List.foldl_cons, List.foldl_nil]; omega
   rw [hx2];simp only [c50r6, c50l7m, go_sem, true_implies];exact ⟨inR_small (by omega) (by omega), hI (L.length - (i + 1)) _ (by omega) ⟨i + 1, rfl, by omega, rfl⟩⟩
  ·rw [if_neg hm] at hg
   simp only [c50r4, hx, ent_cells, hm, c50r6, c50l7m, go_sem, Nat.reduceAdd, Nat.reduceLeDiff, true_implies];exact ⟨inR_small (by omega) (by omega), hI (L.length - (i + 1)) _ (by omega) ⟨i + 1, rfl, by omega, by rw [hg]; rfl⟩⟩
 ·have hie : i = L.length := by omega
  subst hie;simp only [c50r8, go_sem, true_implies];rw [List.take_length]
def gapT (L : List Ent) (m : Int) (n : Nat) : List Int := ((List.range n).map fun k : Nat => (k : Int)).filter fun k => decide (1 <= k) && !has L m k
theorem gapT_succ {L : List Ent} {m : Int} {n : Nat} (h : 1 <= n) : gapT L m (n + 1) = if has L m n then gapT L m n else gapT L m n ++ [(n : Int)] := by
 unfold gapT;rw [List.range_succ, List.map_append, List.filter_append];have e : decide (1 <= (n : Int)) = true := decide_eq_true (by omega)
 cases hh : has L m n <;> simp [hh]
 omega
theorem grt_bd {L : List Ent} {m : Int} (hok : OkS L) : 0 <= grt L m /\ grt L m <= 30 := by
 have : ∀ (l : List Ent) (t : Int), (∀ e ∈ l, e.n <= 30) -> 0 <= t -> t <= 30 -> 0 <= l.foldl (fun t e => if e.m = m then max t e.n else t) t /\ l.foldl (fun t e => if e.m = m then max t e.n else t) t <= 30 := by
  intro l
  induction l with
  | nil => intro t _ h0 h1; exact ⟨h0, h1⟩
  | cons e l ih =>
   intro t he h0 h1;rw [List.foldl_cons];have := he e (List.mem_cons_self ..);refine ih _ (fun x hx => he x (List.mem_cons_of_mem _ hx)) ?_ ?_ <;> split <;> omega
 exact this L 0 (fun e he => (hok.ent e he).n30) (by decide) (by decide)
theorem gap_T {L : List Ent} {m : Int} : gap L m = gapT L m (grt L m).toNat := rfl
def fdE (L : List Ent) (m n : Int) : Ent := (fnd L m n).getD e0
theorem lft_eq {L : List Ent} {m n : Int} : lft L m n = (List.range (mark L m)).any fun j => decide ((fdE L m ((j + 1 : Nat) : Int)).k = 5 /\ (fdE L m ((j + 1 : Nat) : Int)).a = n) := by
 unfold lft
 congr 1
 funext j
 unfold fdE
 cases fnd L m ((j + 1 : Nat) : Int) with
 | none => simp [e0]
 | some e => rfl
theorem k49 {L : List Ent} {m n : Int} (hok : OkS L) : E.Fn Tryz.prog 49 [ssn L, .int .i64 m, .int .i64 n] [.bool (lft L m n)] := by
 refine fn_of_row okf49 ?_;have hmk := (mark_spec (m := m) fun e he => (hok.ent e he).n30).2.2
 simp only [FRow.start, f49, c49r0, c49r1, ssn, go_sem, Nat.reduceAdd, Nat.reduceSub, true_implies]
 refine loop_rule (fun k τ => ∃ i : Nat, k = 32 - i /\ i <= mark L m /\ (∀ j : Nat, j < i -> ¬ ((fdE L m ((j + 1 : Nat) : Int)).k = 5 /\ (fdE L m ((j + 1 : Nat) : Int)).a = n)) /\
  τ = ⟨(aN::(aI m)::(aI n)::(.s (.ptr [ents L]))::aN::aN::aN::(aI ((i + 1 : Nat) : Int))::aN::aZ24), []⟩) 32 rfl ?_ ?_
 ·simp only [c49l7m, go_sem]
  exact ⟨0, rfl, Nat.zero_le _, fun j h => by omega, rfl⟩
 rintro I k τ ⟨i, rfl, hi, hall, rfl⟩ hI;simp only [c49l7, c49r2, go_sem];refine callK_of (by simp only [ssn, go_sem]) (k47 (m := m) hok) (.inl rfl) ?_
 simp only [go_sem, ↓reduceIte, true_implies];refine ⟨fun hle => ?_, fun hgt => ?_⟩
 ·simp only [c49r3, go_sem]
  refine callK_of (by simp only [ssn, go_sem]) (k48 (L := L) (m := m) (n := ((i + 1 : Nat) : Int))) (.inl rfl) ?_
  rw [show (fnd L m ((i + 1 : Nat) : Int)).getD e0 = fdE L m ((i + 1 : Nat) : Int) from rfl];generalize hx : fdE L m ((i + 1 : Nat) : Int) = x
  by_cases hq : x.k = 5 /\ x.a = n
  ·have e : lft L m n = true := by
    rw [lft_eq, List.any_eq_true];exact ⟨i, List.mem_range.2 (by omega), by rw [hx]; exact decide_eq_true hq⟩
   simp only [ent, spl4, c49r4, c49r5, hq.1, hq.2, e, decide_true, go_sem, Nat.reduceAdd, true_implies]
  ·by_cases h5 : x.k = 5
   ·have ha : ¬ x.a = n := fun h => hq ⟨h5, h⟩
    simp only [ent, spl4, c49r4, c49r6, c49l7m, h5, ha, decide_true, go_sem, Nat.reduceAdd, true_implies]
    exact ⟨inR_small (by omega) (by omega), hI (32 - (i + 1)) _ (by omega) ⟨i + 1, rfl, by omega, fun j hj => by
     by_cases hji : j = i
     ·rw [hji, hx]; exact hq
     ·exact hall j (by omega), rfl⟩⟩
   ·simp only [ent, spl4, c49r4, c49r6, c49l7m, h5, go_sem, Nat.reduceAdd, true_implies]
    exact ⟨inR_small (by omega) (by omega), hI (32 - (i + 1)) _ (by omega) ⟨i + 1, rfl, by omega, fun j hj => by
     by_cases hji : j = i
     ·rw [hji, hx]; exact hq
     ·exact hall j (by omega), rfl⟩⟩
 ·have e : lft L m n = false := by
   rw [lft_eq, List.any_eq_false];intro j hj;have := hall j (by have := List.mem_range.1 hj; omega)
   simpa using this
  simp only [c49r8, e, go_sem, true_implies]
def stV (s : St) : SV := .agg [.int .i64 s.c, .int .i64 s.h, .int .i64 s.b, .int .i64 s.p, .int .i64 s.r, ints s.f]
@[go_sem] theorem agg_stV {s : St} : (stV s).isAgg = true := rfl
structure Bd (s : St) : Prop where
  c0 : 0 <= s.c
  h0 : 0 <= s.h
  b0 : 0 <= s.b
  p0 : 0 <= s.p
  r0 : 0 <= s.r
  c1 : s.c <= 2 ^ 40
  h1 : s.h <= 2 ^ 40
  b1 : s.b <= 2 ^ 40
  p1 : s.p <= 2 ^ 40
  r1 : s.r <= 2 ^ 40
  f1 : s.f.length <= 2 ^ 20
theorem spl6 {a b c d e f x y z u v w : LV} : splice [a, b, c, d, e, f] 0 [x, y, z, u, v, w] = [x, y, z, u, v, w] := rfl
theorem spl6a {a b c d e f x : LV} : splice [a, b, c, d, e, f] 0 [x] = [x, b, c, d, e, f] := rfl
theorem spl6b {a b c d e f x : LV} : splice [a, b, c, d, e, f] 1 [x] = [a, x, c, d, e, f] := rfl
theorem spl6c {a b c d e f x : LV} : splice [a, b, c, d, e, f] 2 [x] = [a, b, x, d, e, f] := rfl
theorem spl6d {a b c d e f x : LV} : splice [a, b, c, d, e, f] 3 [x] = [a, b, c, x, e, f] := rfl
theorem spl6e {a b c d e f x : LV} : splice [a, b, c, d, e, f] 4 [x] = [a, b, c, d, x, f] := rfl
theorem spl6f {a b c d e f x : LV} : splice [a, b, c, d, e, f] 5 [x] = [a, b, c, d, e, x] := rfl
theorem int_cells {l : List Int} : ∀ y ∈ l.map (SV.int .i64), y.cells.length = 1 := by
 intro y hy;obtain ⟨x, _, rfl⟩ := List.mem_map.1 hy; rfl
structure Bdk (s : St) (k : Nat) : Prop where
  c0 : 0 <= s.c
  h0 : 0 <= s.h
  b0 : 0 <= s.b
  p0 : 0 <= s.p
  r0 : 0 <= s.r
  c1 : s.c <= 100 * k
  h1 : s.h <= 100 * k
  b1 : s.b <= 100 * k
  p1 : s.p <= 100 * k
  r1 : s.r <= 100 * k
  sm : s.h + s.b + s.p + s.r <= 100 * k
  f1 : s.f.length <= k
theorem Bdk.bd {s : St} {k : Nat} (h : Bdk s k) (hk : k <= 31) : Bd s := by
 have := h.c1; have := h.h1; have := h.b1; have := h.p1; have := h.r1; have := h.f1;exact ⟨h.c0, h.h0, h.b0, h.p0, h.r0, by omega, by omega, by omega, by omega, by omega, by omega⟩
theorem Bdk.nx {s : St} {k : Nat} {e : Ent} (h : Bdk s k) (he : OkE e) : Bdk (nxS s e) (k + 1) := by
 obtain ⟨c0, h0, b0, p0, r0, c1, h1, b1, p1, r1, sm, f1⟩ := h;have a0 := he.a0; have a1 := he.a100;unfold nxS
 by_cases hr : rfs s e = true
 ·rw [if_pos hr]
  exact ⟨c0, h0, b0, p0, r0, by simp only; omega, by simp only; omega, by simp only; omega, by simp only; omega, by simp only; omega, by simp only; omega, by simp only [List.length_append, List.length_singleton]; omega⟩
 ·rw [if_neg hr]
  have hr' : ¬ (e.k = 2 /\ (s.c = 0 \/ s.h < e.a) \/ e.k = 3 /\ s.h < e.a \/ e.k = 4 /\ s.b < e.a) := by unfold rfs at hr; simpa using hr
  split
  ·exact ⟨by simp only; omega, by simp only; omega, b0, p0, r0, by simp only; omega, by simp only; omega, by simp only; omega, by simp only; omega, by simp only; omega, by simp only; omega, by simp only; omega⟩
  ·split
   ·exact ⟨by simp only; omega, by simp only; omega, b0, by simp only; omega, r0, by simp only; omega, by simp only; omega, by simp only; omega, by simp only; omega, by simp only; omega, by simp only; omega, by simp only; omega⟩
   ·split
    ·exact ⟨c0, by simp only; omega, by simp only; omega, p0, r0, by simp only; omega, by simp only; omega, by simp only; omega, by simp only; omega, by simp only; omega, by simp only; omega, by simp only; omega⟩
    ·split
     ·exact ⟨c0, h0, by simp only; omega, p0, by simp only; omega, by simp only; omega, by simp only; omega, by simp only; omega, by simp only; omega, by simp only; omega, by simp only; omega, by simp only; omega⟩
     ·exact ⟨c0, h0, b0, p0, r0, by omega, by omega, by omega, by omega, by omega, by omega, by omega⟩
theorem Bdk.mono {s : St} {k k' : Nat} (h : Bdk s k) (hk : k <= k') : Bdk s k' := by
 obtain ⟨c0, h0, b0, p0, r0, c1, h1, b1, p1, r1, sm, f1⟩ := h;exact ⟨c0, h0, b0, p0, r0, by omega, by omega, by omega, by omega, by omega, by omega, by omega⟩
theorem stT_bd {L : List Ent} {m : Int} (hok : OkS L) : ∀ {j : Nat}, Bdk (stT L m j) j
 | 0 => by
  rw [stT];exact ⟨by decide, by decide, by decide, by decide, by decide, by decide, by decide, by decide, by decide, by decide, by decide, by decide⟩
 | j + 1 => by
  have ih := stT_bd (m := m) hok (j := j);rw [stT]
  split
  ·exact ih.mono (by omega)
  ·split
   ·rename_i e he
    exact ih.nx (hok.ent e (fnd_some he).1)
   ·exact ih.mono (by omega)
@[go_sem] theorem stV_cells {s : St} : (stV s).cells = [.int .i64 s.c, .int .i64 s.h, .int .i64 s.b, .int .i64 s.p, .int .i64 s.r, ints s.f] := rfl
def tkT (L : List Ent) (i : Nat) : Int := (List.range i).foldl (fun (t : Int) (j : Nat) => t + (stL L j).b) 0
theorem tkT_succ {L : List Ent} {i : Nat} : tkT L (i + 1) = tkT L i + (stL L i).b := by unfold tkT; rw [List.range_succ, List.foldl_append]; rfl
theorem stL_bd {L : List Ent} {m : Int} (hok : OkS L) : Bdk (stL L m) 30 := (stT_bd hok).mono (mark_spec fun e he => (hok.ent e he).n30).2.2
theorem tkT_bd {L : List Ent} (hok : OkS L) : ∀ {i : Nat}, 0 <= tkT L i /\ tkT L i <= 3000 * i
 | 0 => ⟨Int.le_refl _, Int.le_refl _⟩
 | i + 1 => by
  have := tkT_bd hok (i := i);have hb := stL_bd (m := i) hok;have := hb.b0; have := hb.b1;rw [tkT_succ]; omega
def mkAt (ms : List Int) (m : Int) : Int := (ms[m.toNat]?).getD 0
def snc (ms : List Int) (L : List Ent) : List Ent := L.filter fun e => decide (mkAt ms e.m < e.n)
theorem ent_each {l : List Ent} : ∀ y ∈ l.map ent, y.cells.length = 4 := by
 intro y hy;obtain ⟨x, _, rfl⟩ := List.mem_map.1 hy; rfl
def flE : List Ent -> List SV
 | [] => []
 | e :: l => .int .i64 e.m :: .int .i64 e.n :: .int .i64 e.k :: .int .i64 e.a :: flE l
theorem flE_app {l k : List Ent} : flE (l ++ k) = flE l ++ flE k := by
 induction l with
 | nil => rfl
 | cons e l ih => simp only [List.cons_append, flE, ih]
theorem flatE_ent {l : List Ent} : flatE (l.map ent) = flE l := by
 induction l with
 | nil => rfl
 | cons e l ih => simp only [flatE, List.map_cons, List.flatten_cons, ent_cells, List.cons_append, List.nil_append, flE] at ih ⊢; rw [ih]
theorem flE_len {l : List Ent} : (flE l).length = 4 * l.length := by
 induction l with
 | nil => rfl
 | cons e l ih => simp only [flE, List.length_cons, ih]; omega
theorem chunk_ent : ∀ (l : List Ent), chunk 4 l.length (flE l) = l.map ent
 | [] => rfl
 | e :: l => by
  have := chunk_ent l;simp only [flE, List.length_cons, List.map_cons];rw [chunk];simp only [List.take_succ_cons, List.take_zero, List.drop_succ_cons, List.drop_zero];rw [this]; rfl
theorem slice_ents {l : List Ent} {n : Nat} (h : n = l.length) : sliceOf 0 n 4 (flE l) = some (ents l) := by
 subst h;rw [sliceOf, if_pos (by rw [flE_len]; omega), elems, if_neg (by decide), List.drop_zero, chunk_ent]; rfl
theorem flE_snoc {l : List Ent} {e : Ent} : flE l ++ flatE [SV.agg [.int .i64 e.m, .int .i64 e.n, .int .i64 e.k, .int .i64 e.a]] = flE (l ++ [e]) := by rw [flE_app]; rfl
theorem four_cells {x y z w : SV} : ∀ v ∈ [SV.agg [x, y, z, w]], v.cells.length = 4 := by
 intro v hv; rw [List.mem_singleton.1 hv]; rfl
def ckK (L : List Ent) (ms : List Int) : Int := if ckS L ≠ 0 then ckS L else if ms.length = 5 /\ ∀ x ∈ ms, 0 <= x /\ x <= 30 then 0 else 3
theorem k61 {L : List Ent} (hL : L.length <= 1000) : E.FnNew Tryz.prog 61 4 [.s (ents L)] (L.map ent) := by
 refine new_of_row okf61 ?_;simp only [FRow.start, f61, c61r0, c61r1, c61r2, c61r3, ents, go_sem, Nat.reduceAdd, Nat.reduceSub, Nat.reduceMul, true_implies];refine ⟨fun he => ?_, by decide, by decide, rfl, by simp, ⟨by simp, ent_each, by simp only [List.length_nil, List.length_map]; omega, by simp only [List.length_nil, List.length_map]; omega, by decide⟩, fun he => ?_, fun hne => ?_⟩
 ·rw [he]; simp [finN, newOf, fget]
 ·simp only [go_sem, true_implies]
  rw [he]; simp [finN, newOf, fget]
 ·simp only [flatE_ent, go_sem, true_implies]
  exact .inr ⟨rfl, _, rfl, by simp, hne, by rw [flatE_ent, flE_len]; omega, by simp [flE_len]; omega, by rw [flatE_ent, List.drop_zero]; exact (List.take_of_length_le (by rw [flE_len]; omega)).symm⟩
theorem k93 {g : FuncId} {first caps : List SV} {xs : List Ent} {p : Ent -> Bool} (hg : Ok1 g first caps) (hp : ∀ x ∈ xs, Asks g first caps (ent x) (p x)) : E.Fn Tryz.prog 93 [ents xs, .fn g first caps] [.int .i64 (idx p xs 0)] := by
 refine fn_of_row okf93 ?_;simp only [FRow.start, f93, c93r0, c93r1, ents, go_sem, Nat.reduceAdd, Nat.reduceSub, true_implies];intro hlen;have hlen' : (xs.length : Int) <= 2 ^ 63 - 1 := Int.le_trans (Int.ofNat_le.mpr hlen) maxLen_le
 refine loop_rule (fun n τ => ∃ i : Nat, n = xs.length - i /\ i <= xs.length /\ idx p xs 0 = idx p (xs.drop i) i /\
  τ = ⟨[.s (.slice (xs.map ent)), .s (.fn g first caps), .any, .any, .any, .any, .any, aI xs.length, aI i, .any, .any, .any, .any, .any, .any, .any, .any, .any, .any], []⟩) xs.length rfl ?_ ?_
 ·simp only [c93l7m, go_sem]
  exact ⟨0, rfl, Nat.zero_le _, rfl, rfl⟩
 ·rintro I n τ ⟨i, rfl, hi, hidx, rfl⟩ hI
  simp only [c93l7, c93r2, c93r3, go_sem, ↓reduceIte, true_implies];refine ⟨fun hlt => ?_, fun hge => ?_⟩
  ·have hx : xs[i]? = some xs[i] := List.getElem?_eq_getElem hlt
   have hdrop : xs.drop i = xs[i] :: xs.drop (i + 1) := List.drop_eq_getElem_cons hlt;have hcall := hp _ (List.getElem_mem hlt);rw [hdrop, idx] at hidx;generalize xs[i] = x at hx hcall hidx;simp only [c93r4, hx, ent_cells, go_sem, Nat.reduceAdd];refine ⟨hg.1, hg.2, callK_of (by simp only [ent, go_sem]) hcall (.inl rfl) ?_⟩
   simp only [go_sem, true_implies]
   cases hpx : p x with
   | true =>
    simp only [hpx, if_true] at hidx;simp only [c93r5, hidx, go_sem, true_implies]
   | false =>
    simp only [hpx, Bool.false_eq_true, if_false] at hidx;simp only [c93r6, c93l7m, go_sem, true_implies];refine ⟨inR_small (n := ((i : Int) + 1)) (by omega) (by omega), hI (xs.length - (i + 1)) _ (by omega) ⟨i + 1, rfl, by omega, by rw [hidx]; simp, by simp⟩⟩
  ·have hie : i = xs.length := by omega
   subst hie;simp only [List.drop_length, idx] at hidx;simp only [c93r8, hidx, go_sem, Int.reduceNeg, true_implies]
theorem k69 {ms : List Int} {e : Ent} (he : OkE e) (hm : ms.length = 5) : Asks 69 [] [.ptr [ints ms]] (ent e) (decide (e.n <= mkAt ms e.m)) := by
 refine fn_of_row okf69 ?_;have m0 := he.m0; have m4 := he.m4
 have hq : ms[e.m.toNat]? = some (mkAt ms e.m) := by
  unfold mkAt; rw [List.getElem?_eq_getElem (by omega)]; rfl
 simp only [FRow.start, f69, c69r0, c69r1, ent, ints, hq, m0, go_sem, Nat.reduceAdd, Nat.reduceSub, Nat.reduceLeDiff, true_implies]
theorem idx_find {p : Ent -> Bool} : ∀ {L : List Ent} {i : Nat}, (idx p L i = -1 /\ ∀ x ∈ L, p x = false) \/ ∃ k : Nat, k < L.length /\ idx p L i = ((i + k : Nat) : Int) /\ (∀ x ∈ L.take k, p x = false) /\ ∃ x, L[k]? = some x /\ p x = true
 | [], i => .inl ⟨rfl, by simp⟩
 | x :: L, i => by
  rw [idx]
  cases h : p x with
  | true => exact .inr ⟨0, by simp, by simp, by simp, x, rfl, h⟩
  | false =>
   rw [if_neg (by simp), show ((i : Int) + 1) = ((i + 1 : Nat) : Int) from rfl]
   rcases idx_find (p := p) (L := L) (i := i + 1) with ⟨h1, h2⟩ | ⟨k, h1, h2, h3, y, h4, h5⟩
   ·exact .inl ⟨h1, fun y hy => by
    rcases List.mem_cons.1 hy with rfl | hy
    ·exact h
    ·exact h2 y hy⟩
   ·exact .inr ⟨k + 1, by simp; omega, by rw [h2]; congr 1; omega, fun z hz => by rw [List.take_succ_cons] at hz; rcases List.mem_cons.1 hz with rfl | hz; (exact h); (exact h3 z hz), y, by simpa using h4, h5⟩
theorem flE_drop : ∀ {j : Nat} {T : List Ent}, (flE T).drop (j * 4) = flE (T.drop j)
 | 0, T => by simp
 | j + 1, [] => by simp [flE]
 | j + 1, e :: T => by
  rw [show (j + 1) * 4 = j * 4 + 4 from by omega]
  simp only [flE, List.drop_succ_cons];exact flE_drop
theorem flE_take : ∀ {j : Nat} {T : List Ent}, (flE T).take (j * 4) = flE (T.take j)
 | 0, T => by simp [flE]
 | j + 1, [] => by simp [flE]
 | j + 1, e :: T => by
  rw [show (j + 1) * 4 = j * 4 + 4 from by omega]
  simp only [flE, List.take_succ_cons];rw [flE_take]
theorem flE_set {w : Nat} {T : List Ent} {x : Ent} (h : w < T.length) : splice (flE T) (w * 4) [.int .i64 x.m, .int .i64 x.n, .int .i64 x.k, .int .i64 x.a] = flE (T.set w x) := by
 unfold splice;rw [List.length_cons, List.length_cons, List.length_cons, List.length_cons, List.length_nil, show w * 4 + (0 + 1 + 1 + 1 + 1) = (w + 1) * 4 from by omega, flE_drop, flE_take, List.set_eq_take_append_cons_drop, if_pos h, flE_app]
 simp [flE]
theorem rep4 {n : Nat} {a : SV} : (List.replicate n [a, a, a, a]).flatten = List.replicate (4 * n) a := by
 induction n with
 | zero => rfl
 | succ n ih => rw [List.replicate_succ, List.flatten_cons, ih, show 4 * (n + 1) = 4 * n + 1 + 1 + 1 + 1 from by omega]; simp [List.replicate_succ]
theorem k70 {g : FuncId} {caps : List SV} {L : List Ent} {p : Ent -> Bool} (hL : L.length <= 1000) (hg : Ok1 g [] caps) (hp : ∀ x ∈ L, Asks g [] caps (ent x) (p x)) :
  ∃ (zs : List SV), zs.all SV.flat1 = true /\ CSem Tryz.prog 70 [.sl 0 0 L.length 4 false, .s (.fn g [] caps)] [.row (flE L)] (.sl 0 0 (L.filter fun e => !p e).length 4 false) [.row (flE (L.filter fun e => !p e) ++ zs)] := by
 refine ⟨(List.replicate (4 * (L.length - (L.filter fun e => !p e).length)) (SV.int .i64 0)), by simp [SV.flat1], ?_⟩
 refine csem_of_row okf70 ?_;generalize hr : (LV.sl 0 0 (L.filter fun e => !p e).length 4 false) = r
 generalize hH : ([.row (flE (L.filter fun e => !p e) ++ List.replicate (4 * (L.length - (L.filter fun e => !p e).length)) (SV.int .i64 0))] : List ABlock) = H'
 simp only [FRow.start, f70, c70r0, c70r1, go_sem, Nat.reduceAdd, Nat.reduceSub, true_implies];refine callK_of (by simp only [slice_ents rfl, go_sem]) (k93 hg hp) (.inl rfl) ?_
 rcases idx_find (p := p) (L := L) (i := 0) with ⟨h1, h2⟩ | ⟨k, h1, h2, h3, x0, h4, h5⟩
 ·have hk : L.filter (fun e => !p e) = L := List.filter_eq_self.2 fun x hx => by simp [h2 x hx]
  rw [hk] at hr hH;rw [Int.natCast_zero] at h1;simp only [h1, c70r2, c70r3, finC, go_sem, ↓reduceIte, reduceCtorEq, Nat.reduceLeDiff, Int.reduceNeg, true_implies];rw [<- hr, <- hH];simp
 ·rw [Int.natCast_zero, Nat.zero_add] at h2
  have hne : ¬ ((k : Int) = -1) := by omega
  have hW0 : (L.take k).filter (fun e => !p e) = L.take k := List.filter_eq_self.2 fun x hx => by simp [h3 x hx]
  simp only [h2, hne, c70r2, c70r4, go_sem, Int.reduceNeg, true_implies];refine ⟨inR_small (by omega) (by omega), ?_⟩
  refine loop_rule (fun n τ => ∃ (j : Nat) (T : List Ent), n = L.length - j /\ j <= L.length /\ T.length = L.length /\ T.drop j = L.drop j /\ T.take ((L.take j).filter fun e => !p e).length = (L.take j).filter (fun e => !p e) /\ ((L.take j).filter fun e => !p e).length < j /\
   τ = ⟨((.sl 0 0 L.length 4 false)::(.s (.fn g [] caps))::aN::aN::aN::(.s (.int .i64 ((L.take j).filter fun e => !p e).length))::(aI j)::aN::aN::aN::aZ32), [.row (flE T)]⟩) (L.length - (k + 1)) rfl ?_ ?_
  ·simp only [c70l11m, go_sem, ↓reduceIte, reduceCtorEq, Nat.reduceLeDiff]
   have hj : (L.take (k + 1)).filter (fun e => !p e) = L.take k := by
    rw [take_snoc h4, List.filter_append, hW0]; simp [h5]
   have hl : (L.take k).length = k := by rw [List.length_take]; omega
   refine ⟨k + 1, L, rfl, h1, rfl, rfl, ?_, ?_, ?_⟩
   ·rw [hj, hl]
   ·rw [hj, hl]; omega
   ·rw [hj, hl]; rfl
  rintro I n τ ⟨j, T, rfl, hj, hT, hTd, hTt, hw, rfl⟩ hI
  have hsn : ∀ x, L[j]? = some x -> (L.take (j + 1)).filter (fun e => !p e) = if p x then (L.take j).filter (fun e => !p e) else (L.take j).filter (fun e => !p e) ++ [x] := fun x hx => by
   rw [take_snoc hx, List.filter_append]
   cases hpx : p x <;> simp [hpx]
  generalize hWe : (L.take j).filter (fun e => !p e) = W at hTt hw hsn
  simp only [c70l11, c70r5, go_sem, ↓reduceIte];intro _;refine ⟨fun hlt => ?_, fun hge => ?_⟩
  ·have hx : L[j]? = some L[j] := List.getElem?_eq_getElem hlt
   have hTx : T.drop j = L[j] :: L.drop (j + 1) := by rw [hTd, List.drop_eq_getElem_cons hlt]
   have hcall := hp _ (List.getElem_mem hlt);generalize L[j] = x at hx hTx hcall;have hs := hsn x hx
   have hld : ((flE T).drop (j * 4)).take 4 = [.int .i64 x.m, .int .i64 x.n, .int .i64 x.k, .int .i64 x.a] := by
    rw [flE_drop, hTx]; rfl
   simp only [c70r6, Int.toNat_natCast, Nat.zero_add, hld, go_sem, Nat.reduceAdd, true_implies];refine ⟨hlt, by rw [flE_len]; omega, ?_⟩
   have hTd1 : T.drop (j + 1) = L.drop (j + 1) := by
    have := congrArg (List.drop 1) hTx
    simpa [List.drop_drop] using this
   simp only [spl4, c70r7, go_sem, Nat.reduceAdd];refine ⟨hg.1, hg.2, callK_of (by simp only [ent, go_sem]) hcall (.inl rfl) ?_⟩
   cases hpx : p x with
   | true =>
    rw [hpx, if_pos rfl] at hs;simp only [c70r10, c70l11m, go_sem, ↓reduceIte, reduceCtorEq, Nat.reduceAdd, Nat.reduceLeDiff, true_implies];exact ⟨inR_small (by omega) (by omega), hI (L.length - (j + 1)) _ (by omega) ⟨j + 1, T, rfl, by omega, hT, hTd1, by rw [hs]; exact hTt, by rw [hs]; omega, by rw [hs]; rfl⟩⟩
   | false =>
    rw [hpx, if_neg (by simp)] at hs
    have hsp : splice (flE T) (W.length * 4) [.int .i64 x.m, .int .i64 x.n, .int .i64 x.k, .int .i64 x.a] = flE (T.set W.length x) := flE_set (by omega)
    simp only [c70r8, Int.toNat_natCast, Nat.zero_add, hsp, go_sem, Nat.reduceAdd, true_implies];refine ⟨by omega, by rw [flE_len]; omega, ?_⟩
    simp only [c70r9, c70r10, c70l11m, go_sem, ↓reduceIte, reduceCtorEq, Nat.reduceAdd, Nat.reduceLeDiff, true_implies];refine ⟨inR_small (by omega) (by omega), inR_small (by omega) (by omega), hI (L.length - (j + 1)) _ (by omega) ⟨j + 1, T.set W.length x, rfl, by omega, by rw [List.length_set]; exact hT, ?_, ?_, ?_, ?_⟩⟩
    ·rw [List.drop_set_of_lt (by omega)]; exact hTd1
    ·rw [hs, List.length_append, List.length_singleton, List.take_succ, List.getElem?_set_self (by omega), List.take_set_of_le (Nat.le_refl _), hTt]; rfl
    ·rw [hs, List.length_append, List.length_singleton]; omega
    ·rw [hs, List.length_append]; rfl
  ·have hje : j = L.length := by omega
   subst hje;rw [List.take_length] at hWe;rw [hWe] at hr hH;have hWL : W.length <= L.length := by rw [<- hWe]; exact List.length_filter_le _ _
   have hcl : splice (flE T) (W.length * 4) (List.replicate (L.length - W.length) [SV.int .i64 0, .int .i64 0, .int .i64 0, .int .i64 0]).flatten = flE W ++ List.replicate (4 * (L.length - W.length)) (SV.int .i64 0) := by
    rw [rep4];unfold splice;rw [flE_take, hTt, List.drop_of_length_le (by rw [flE_len, List.length_replicate]; omega), List.append_nil]
   simp only [c70r12, c70r13, hcl, Bool.false_and, Nat.sub_zero, finC, go_sem, ↓reduceIte, reduceCtorEq, Nat.reduceAdd, Nat.reduceLeDiff, Nat.reduceMul, true_implies];refine ⟨hWL, by rw [flE_len]; omega, Nat.zero_le _, hWL, ?_⟩
   rw [<- hr, <- hH];simp
theorem k70n {g : FuncId} {caps : List SV} (hg : Ok1 g [] caps) : E.Fn Tryz.prog 70 [ents [], .fn g [] caps] [ents []] := by
 refine fn_of_row okf70 ?_;simp only [FRow.start, f70, c70r0, c70r1, ents, List.map_nil, go_sem, Nat.reduceAdd, Nat.reduceSub, true_implies];refine callK_of (by simp only [ents, List.map_nil, go_sem]) (k93 (xs := []) (p := fun _ => true) hg (by simp)) (.inl rfl) ?_
 simp only [idx, c70r2, c70r3, go_sem, Int.reduceNeg, true_implies]
theorem within_all {lo hi : Int} {l : List Int} : withinB lo hi l = decide (∀ x ∈ l, lo <= x /\ x <= hi) := by
 unfold withinB;rw [Bool.eq_iff_iff];simp only [Bool.not_eq_true', List.any_eq_false, Bool.or_eq_true, decide_eq_true_eq];constructor
 ·intro h x hx; have := h x hx; omega
 ·intro h x hx; have := h x hx; omega
theorem snc_keep {ms : List Int} {L : List Ent} : L.filter (fun e => !(decide (e.n <= mkAt ms e.m))) = snc ms L := by
 unfold snc
 congr 1
 funext e
 rw [Bool.eq_iff_iff]; simp
theorem chunk_app : ∀ (l : List Ent) (zs : List SV), chunk 4 l.length (flE l ++ zs) = l.map ent
 | [], _ => rfl
 | e :: l, zs => by
  have := chunk_app l zs;simp only [flE, List.length_cons, List.map_cons, List.cons_append];rw [chunk];simp only [List.take_succ_cons, List.take_zero, List.drop_succ_cons, List.drop_zero];rw [this]; rfl
theorem row_app {l : List Ent} {zs : List SV} : rowOf 0 l.length 4 (flE l ++ zs) = some (l.map ent) := by
 rw [rowOf, if_pos (by rw [List.length_append, flE_len]; omega), elems, if_neg (by decide), List.drop_zero, chunk_app]
theorem flE_flat : ∀ {l : List Ent}, (flE l).all SV.flat1 = true
 | [] => rfl
 | e :: l => by simp only [flE, List.all_cons, flE_flat (l := l)]; rfl
theorem k32 {L : List Ent} {ms : List Int} : E.Fn Tryz.prog 32 [ssn L, ints ms] [ssn (if ckK L ms = 0 then snc ms L else []), .int .i64 (ckK L ms)] := by
 refine fn_of_row okf32 ?_;simp only [FRow.start, f32, c32r0, c32r1, ssn, SV.cells, go_sem, Nat.reduceAdd, Nat.reduceSub, true_implies];refine callK_of (by simp only [ssn, go_sem]) (k25 (L := L)) (.inl rfl) ?_
 by_cases h : ckS L = 0
 case neg =>
  have e : ckK L ms = ckS L := by unfold ckK; rw [if_pos h]
  rw [e, if_neg h];simp only [c32r2, c32r3, h, spl_one, ents, List.map_nil, go_sem, true_implies]
 have hok := ckS_zero.1 h
 by_cases h5 : ms.length = 5
 case neg =>
  have e : ckK L ms = 3 := by unfold ckK; rw [if_neg (by simpa using h), if_neg (fun hh => h5 hh.1)]
  have h5' : ¬ ((ms.length : Int) = 5) := by omega
  rw [e, if_neg (by decide)]
  simp only [h, c32r2, c32r4, ints, h5', c32r5, spl_one, ents, List.map_nil, go_sem, true_implies]
 have h5' : ((ms.length : Int) = 5) := by omega
 simp only [h, c32r2, c32r4, ints, h5', go_sem, true_implies];refine callK_of (by simp only [ints, go_sem]) (k65 (lo := 0) (hi := 30) (l := ms)) (.inl rfl) ?_
 rw [within_all]
 by_cases hq : ∀ x ∈ ms, 0 <= x /\ x <= 30
 case neg =>
  have e : ckK L ms = 3 := by unfold ckK; rw [if_neg (by simpa using h), if_neg (fun hh => hq hh.2)]
  rw [e, if_neg (by decide), decide_eq_false hq]
  simp only [c32r5, spl_one, ents, List.map_nil, go_sem, true_implies]
 have e : ckK L ms = 0 := by unfold ckK; rw [if_neg (by simpa using h), if_pos ⟨h5, hq⟩]
 rw [e, if_pos rfl, decide_eq_true hq];have hlL := hok.len;simp only [c32r6, c32r7, go_sem, Nat.reduceAdd, Nat.reduceLeDiff, true_implies];intro _;refine .inr ⟨_, _, k61 (L := L) (by omega), .inl ⟨rfl, rfl⟩, by decide, ent_each, rfl, ?_⟩
 by_cases hn : L = []
 ·subst hn
  rw [if_pos (show ([] : List Ent).map ent = [] from rfl)];simp only [go_sem];refine callK_of (by simp only [ents, ints, List.map_nil, go_sem]) (k70n (g := 69) (caps := [.ptr [ints ms]]) ⟨by kernel_rfl, by rfl⟩) (.inr (.inl (by simp only [ents, ints, List.map_nil, go_sem]))) ?_
  simp only [spl_one, ents, List.map_nil, snc, List.filter_nil, go_sem, ↓reduceIte, true_implies]
 ·rw [if_neg (by simpa using hn), flatE_ent]
  obtain ⟨zs, hz, hc⟩ := k70 (g := 69) (caps := [.ptr [ints ms]]) (L := L) (p := fun e => decide (e.n <= mkAt ms e.m)) (by omega) ⟨by kernel_rfl, by rfl⟩ fun x hx => k69 (hok.ent x hx) h5
  rw [snc_keep] at hc;simp only [go_sem]
  change ∃ as' cs' o' l' c' ys, frzAll _ _ = some as' /\ CSem _ _ _ _ _ _ /\ rowOf o' l' 4 cs' = some ys /\ cs'.all SV.flat1 = true /\ _
  refine ⟨[.fn 69 [] [.ptr [ints ms]]], _, 0, (snc ms L).length, false, (snc ms L).map ent, by simp only [ints, go_sem], hc, row_app, by rw [List.all_append, flE_flat, hz]; rfl, ?_⟩
  simp only [spl_one, ents, go_sem, ↓reduceIte, true_implies]
theorem k17 {L : List Ent} : E.Fn Tryz.prog 17 [ssn L] [.bool (decide (30 < L.length))] := by
 refine fn_of_row okf17 ?_;simp only [FRow.start, f17, c17r0, c17r1, ssn, ents, go_sem, Nat.reduceSub, Nat.reduceLeDiff, true_implies];intro _;rw [show decide ((30 : Int) < (L.length : Int)) = decide (30 < L.length) from by rw [Bool.eq_iff_iff, decide_eq_true_eq, decide_eq_true_eq]; omega]
theorem k44 {L : List Ent} : E.Fn Tryz.prog 44 [ssn L] [.bool (decide (ckS L = 0))] := by
 refine fn_of_row okf44 ?_;generalize hb : decide (ckS L = 0) = b;simp only [FRow.start, f44, c44r0, c44r1, ssn, SV.cells, go_sem, Nat.reduceSub, true_implies];refine callK_of (by simp only [ssn, go_sem]) (k17 (L := L)) (.inl rfl) ?_
 by_cases h30 : 30 < L.length
 ·have : b = false := by rw [<- hb]; exact decide_eq_false fun h => by have := (ckS_zero.1 h).len; omega
  simp only [decide_eq_true h30, this, go_sem, true_implies]
 ·simp only [decide_eq_false h30, go_sem]
  refine callK_of (by simp only [ssn, go_sem]) (k26 (L := L)) (.inl rfl) ?_
  simp only [go_sem, true_implies];rw [hb]
theorem k34 {xs ys : List Int} : E.Fn Tryz.prog 34 [ints xs, ints ys] [.bool (decide (xs = ys))] := by
 refine fn_of_row okf34 ?_;generalize hrs : decide (xs = ys) = rs;have hrs : xs = ys ↔ rs = true := by rw [<- hrs, decide_eq_true_eq]
 simp only [FRow.start, f34, c34r0, c34r1, ints, go_sem, Nat.reduceAdd, Nat.reduceSub, true_implies];rintro ⟨hlx, hly⟩;have hlx' : (xs.length : Int) <= 2 ^ 63 - 1 := Int.le_trans (Int.ofNat_le.mpr hlx) maxLen_le;refine ⟨fun h1 => ?_, fun h1 => ?_⟩
 ·have hl : xs.length = ys.length := by omega
  simp only [c34r3, go_sem, true_implies]
  refine loop_rule (fun n τ => ∃ i : Nat, n = xs.length - i /\ i <= xs.length /\ (xs.drop i = ys.drop i ↔ rs = true) /\
   τ = ⟨((.s (ints xs))::(.s (ints ys))::aN::aN::aN::(aI i)::aN::aN::aN::aN::aZ16), []⟩) xs.length rfl ?_ ?_
  ·simp only [c34l8m, go_sem]
   exact ⟨0, rfl, Nat.zero_le _, hrs, rfl⟩
  ·rintro I n τ ⟨i, rfl, hi, hc, rfl⟩ hI
   simp only [c34l8, c34r4, ints, go_sem, ↓reduceIte];intro _;refine ⟨fun hlt => ?_, fun hge => ?_⟩
   ·have hlt : i < xs.length := by omega
    have hx : xs[i]? = some xs[i] := List.getElem?_eq_getElem hlt;have hy : ys[i]? = some (ys[i]'(by omega)) := List.getElem?_eq_getElem _
    rw [List.drop_eq_getElem_cons hlt, List.drop_eq_getElem_cons (by omega : i < ys.length), List.cons.injEq] at hc
    generalize xs[i] = x at hx hc;generalize ys[i]'(by omega) = y at hy hc
    simp only [c34r5, hx, hy, go_sem, true_implies];refine ⟨fun h2 => ?_, fun h2 => ?_⟩
    ·simp only [h2, true_and] at hc
     simp only [c34r7, c34l8m, go_sem, true_implies];exact ⟨inR_small (by omega) (by omega), hI (xs.length - (i + 1)) _ (by omega) ⟨i + 1, rfl, by omega, hc, rfl⟩⟩
    ·have hc : rs = false := by
      cases rs
      ·rfl
      ·exact absurd (hc.2 rfl).1 h2
     subst hc;simp only [c34r6, go_sem, true_implies]
   ·have hie : i = xs.length := by omega
    subst hie;rw [List.drop_length, List.drop_eq_nil_of_le (by omega)] at hc
    have hc : rs = true := hc.1 rfl;subst hc;simp only [c34r9, go_sem, true_implies]
 ·have hc : rs = false := by
   cases rs
   ·rfl
   ·exact absurd (by rw [hrs.2 rfl]) h1
  subst hc;simp only [c34r2, go_sem, true_implies]
theorem ent_inj {x y : Ent} : ent x = ent y ↔ x = y := by
 constructor
 ·intro h
  cases x; cases y
  simp only [ent, SV.agg.injEq, List.cons.injEq, SV.int.injEq, true_and, and_true] at h;obtain ⟨rfl, rfl, rfl, rfl⟩ := h;rfl
 ·rintro rfl; rfl
theorem k27 {xs ys : List Ent} : E.Fn Tryz.prog 27 [ssn xs, ssn ys] [.bool (decide (xs = ys))] := by
 refine fn_of_row okf27 ?_;generalize hrs : decide (xs = ys) = rs;have hrs : xs = ys ↔ rs = true := by rw [<- hrs, decide_eq_true_eq]
 simp only [FRow.start, f27, c27r0, c27r1, ssn, ents, go_sem, Nat.reduceAdd, Nat.reduceSub, Nat.reduceLeDiff, true_implies];rintro ⟨hlx, hly⟩;have hlx' : (xs.length : Int) <= 2 ^ 63 - 1 := Int.le_trans (Int.ofNat_le.mpr hlx) maxLen_le;refine ⟨fun h1 => ?_, fun h1 => ?_⟩
 ·have hl : xs.length = ys.length := by omega
  simp only [c27r3, go_sem, true_implies]
  refine loop_rule (fun n τ => ∃ i : Nat, n = xs.length - i /\ i <= xs.length /\ (xs.drop i = ys.drop i ↔ rs = true) /\
   τ = ⟨(aN::aN::(.s (.ptr [ents xs]))::(.s (.ptr [ents ys]))::aN::(aI i)::aN::aZ24), []⟩) xs.length rfl ?_ ?_
  ·simp only [c27l8m, go_sem]
   exact ⟨0, rfl, Nat.zero_le _, hrs, rfl⟩
  ·rintro I n τ ⟨i, rfl, hi, hc, rfl⟩ hI
   simp only [c27l8, c27r4, ents, go_sem, ↓reduceIte, Nat.reduceLeDiff];intro _;refine ⟨fun hlt => ?_, fun hge => ?_⟩
   ·have hlt : i < xs.length := by omega
    have hx : xs[i]? = some xs[i] := List.getElem?_eq_getElem hlt;have hy : ys[i]? = some (ys[i]'(by omega)) := List.getElem?_eq_getElem _
    rw [List.drop_eq_getElem_cons hlt, List.drop_eq_getElem_cons (by omega : i < ys.length), List.cons.injEq] at hc
    generalize xs[i] = x at hx hc;generalize ys[i]'(by omega) = y at hy hc
    simp only [c27r5, hx, hy, ent_cells, go_sem, Nat.reduceAdd, Nat.reduceLeDiff, true_implies];refine ⟨fun h2 => ?_, fun h2 => ?_⟩
    ·have h2 := ent_inj.1 h2
     simp only [h2, true_and] at hc;simp only [c27r7, c27l8m, go_sem, true_implies];exact ⟨inR_small (by omega) (by omega), hI (xs.length - (i + 1)) _ (by omega) ⟨i + 1, rfl, by omega, hc, rfl⟩⟩
    ·have hc : rs = false := by
      cases rs
      ·rfl
      ·exact absurd (hc.2 rfl).1 fun h => h2 (ent_inj.2 h)
     subst hc;simp only [c27r6, go_sem, true_implies]
   ·have hie : i = xs.length := by omega
    subst hie;rw [List.drop_length, List.drop_eq_nil_of_le (by omega)] at hc
    have hc : rs = true := hc.1 rfl;subst hc;simp only [c27r9, go_sem, true_implies]
 ·have hc : rs = false := by
   cases rs
   ·rfl
   ·exact absurd (by rw [hrs.2 rfl]) h1
  subst hc;simp only [c27r2, go_sem, true_implies]
def rule (k : Int) (r d : SV) : SV := .agg [.int .i64 k, r, d]
def rl1 : SV := rule 1 (.fn 120 [] []) (.fn 124 [] [])
def rl2 : SV := rule 2 (.fn 123 [] [.ptr [.fn 121 [] []]]) (.fn 125 [] [])
def rl3 : SV := rule 3 (.fn 121 [] []) (.fn 126 [] [])
def rl4 : SV := rule 4 (.fn 122 [] []) (.fn 127 [] [])
theorem k96 {e : Ent} {k : Int} {r d : SV} : Asks 96 [] [.ptr [.int .i64 e.m, .int .i64 e.n, .int .i64 e.k, .int .i64 e.a]] (rule k r d) (decide (k = e.k)) := by
 refine fn_of_row okf96 ?_;simp only [FRow.start, f96, c96r0, c96r1, rule, go_sem, Nat.reduceAdd, Nat.reduceSub, Nat.reduceLeDiff, true_implies]
 done
theorem k120 {s : St} {n : Int} : E.Fn Tryz.prog 120 [stV s, .int .i64 n] [.bool true] := by
 refine fn_of_row okf120 ?_;simp only [FRow.start, f120, c120r0, c120r1, stV, go_sem, Nat.reduceAdd, Nat.reduceSub, true_implies]
theorem k121 {s : St} {n : Int} : E.Fn Tryz.prog 121 [stV s, .int .i64 n] [.bool (decide (n <= s.h))] := by
 refine fn_of_row okf121 ?_;simp only [FRow.start, f121, c121r0, c121r1, stV, go_sem, Nat.reduceAdd, Nat.reduceSub, Nat.reduceLeDiff, true_implies]
theorem k122 {s : St} {n : Int} : E.Fn Tryz.prog 122 [stV s, .int .i64 n] [.bool (decide (n <= s.b))] := by
 refine fn_of_row okf122 ?_;simp only [FRow.start, f122, c122r0, c122r1, stV, go_sem, Nat.reduceAdd, Nat.reduceSub, Nat.reduceLeDiff, true_implies]
theorem k123 {s : St} {n : Int} : E.Fn Tryz.prog 123 [stV s, .int .i64 n, .ptr [.fn 121 [] []]] [.bool (decide (0 < s.c) && decide (n <= s.h))] := by
 refine fn_of_row okf123 ?_;simp only [FRow.start, f123, c123r0, c123r1, stV, go_sem, Nat.reduceAdd, Nat.reduceSub, Nat.reduceLeDiff, true_implies];refine ⟨fun h => ⟨by kernel_rfl, callK_of (by simp only [stV, go_sem]) (k121 (s := s) (n := n)) (.inr (.inl (by simp only [stV, go_sem]))) ?_⟩, fun h => ?_⟩
 ·simp only [go_sem, true_implies]
  rw [decide_eq_true h]; rfl
 ·rw [decide_eq_false h]; rfl
def stO (s : St) (v : LV) : ABlock := .obj [aI s.c, aI s.h, aI s.b, aI s.p, aI s.r, v]
section
variable {s : St} {n : Int} {b : Nat} {H : List ABlock} {v : LV}
theorem k124 (hB : H[b]? = some (stO s v)) (hb : Bd s) (h0 : 0 <= n) (h1 : n <= 100) (hcl : H.map (fgtB fun b => decide (H.length <= b)) = H) (hv : fgt (fun b => decide (H.length <= b)) v = v) : CSem Tryz.prog 124 [.loc b 0, aI n] H (.tup []) (H.set b (stO { s with c := s.c + n, h := s.h + n } v)) := by
 have c0 := hb.c0; have g0 := hb.h0; have b0 := hb.b0; have p0 := hb.p0; have r0 := hb.r0;have c1 := hb.c1; have g1 := hb.h1; have b1 := hb.b1; have p1 := hb.p1; have r1 := hb.r1;have hbl := (List.getElem?_eq_some_iff.1 hB).1;have hs : ∀ X, (H.set b X)[b]? = some X := fun X => by rw [List.getElem?_set_self hbl]
 refine csem_of_row okf124 ?_;generalize hH : H.set b (stO { s with c := s.c + n, h := s.h + n } v) = H';unfold stO at hB;simp only [FRow.start, f124, c124r0, hB, hs, List.set_set, spl6a, spl6b, finC, go_sem, Nat.reduceAdd, Nat.reduceSub, Nat.reduceLeDiff, true_implies];refine ⟨inR_i64 (by omega) (by omega), inR_i64 (by omega) (by omega), ?_⟩
 rw [<- hH, List.take_of_length_le (by rw [List.length_set]; exact Nat.le_refl _), List.map_set, hcl]
 unfold stO
 congr 1
 simp only [fgtB, fgtL, fgt, hv]
theorem k125 (hB : H[b]? = some (stO s v)) (hb : Bd s) (h0 : 0 <= n) (h1 : n <= 100) (hcl : H.map (fgtB fun b => decide (H.length <= b)) = H) (hv : fgt (fun b => decide (H.length <= b)) v = v) : CSem Tryz.prog 125 [.loc b 0, aI n] H (.tup []) (H.set b (stO { s with c := s.c - 1, h := s.h - n, p := s.p + n } v)) := by
 have c0 := hb.c0; have g0 := hb.h0; have b0 := hb.b0; have p0 := hb.p0; have r0 := hb.r0;have c1 := hb.c1; have g1 := hb.h1; have b1 := hb.b1; have p1 := hb.p1; have r1 := hb.r1;have hbl := (List.getElem?_eq_some_iff.1 hB).1;have hs : ∀ X, (H.set b X)[b]? = some X := fun X => by rw [List.getElem?_set_self hbl]
 refine csem_of_row okf125 ?_;generalize hH : H.set b (stO { s with c := s.c - 1, h := s.h - n, p := s.p + n } v) = H';unfold stO at hB;simp only [FRow.start, f125, c125r0, hB, hs, List.set_set, spl6a, spl6b, spl6d, finC, go_sem, Nat.reduceAdd, Nat.reduceSub, Nat.reduceLeDiff, true_implies];refine ⟨inR_i64 (by omega) (by omega), inR_i64 (by omega) (by omega), inR_i64 (by omega) (by omega), ?_⟩
 rw [<- hH, List.take_of_length_le (by rw [List.length_set]; exact Nat.le_refl _), List.map_set, hcl]
 unfold stO
 congr 1
 simp only [fgtB, fgtL, fgt, hv]
theorem k126 (hB : H[b]? = some (stO s v)) (hb : Bd s) (h0 : 0 <= n) (h1 : n <= 100) (hcl : H.map (fgtB fun b => decide (H.length <= b)) = H) (hv : fgt (fun b => decide (H.length <= b)) v = v) : CSem Tryz.prog 126 [.loc b 0, aI n] H (.tup []) (H.set b (stO { s with h := s.h - n, b := s.b + n } v)) := by
 have c0 := hb.c0; have g0 := hb.h0; have b0 := hb.b0; have p0 := hb.p0; have r0 := hb.r0;have c1 := hb.c1; have g1 := hb.h1; have b1 := hb.b1; have p1 := hb.p1; have r1 := hb.r1;have hbl := (List.getElem?_eq_some_iff.1 hB).1;have hs : ∀ X, (H.set b X)[b]? = some X := fun X => by rw [List.getElem?_set_self hbl]
 refine csem_of_row okf126 ?_;generalize hH : H.set b (stO { s with h := s.h - n, b := s.b + n } v) = H';unfold stO at hB;simp only [FRow.start, f126, c126r0, hB, hs, List.set_set, spl6b, spl6c, finC, go_sem, Nat.reduceAdd, Nat.reduceSub, Nat.reduceLeDiff, true_implies];refine ⟨inR_i64 (by omega) (by omega), inR_i64 (by omega) (by omega), ?_⟩
 rw [<- hH, List.take_of_length_le (by rw [List.length_set]; exact Nat.le_refl _), List.map_set, hcl]
 unfold stO
 congr 1
 simp only [fgtB, fgtL, fgt, hv]
theorem k127 (hB : H[b]? = some (stO s v)) (hb : Bd s) (h0 : 0 <= n) (h1 : n <= 100) (hcl : H.map (fgtB fun b => decide (H.length <= b)) = H) (hv : fgt (fun b => decide (H.length <= b)) v = v) : CSem Tryz.prog 127 [.loc b 0, aI n] H (.tup []) (H.set b (stO { s with b := s.b - n, r := s.r + n } v)) := by
 have c0 := hb.c0; have g0 := hb.h0; have b0 := hb.b0; have p0 := hb.p0; have r0 := hb.r0;have c1 := hb.c1; have g1 := hb.h1; have b1 := hb.b1; have p1 := hb.p1; have r1 := hb.r1;have hbl := (List.getElem?_eq_some_iff.1 hB).1;have hs : ∀ X, (H.set b X)[b]? = some X := fun X => by rw [List.getElem?_set_self hbl]
 refine csem_of_row okf127 ?_;generalize hH : H.set b (stO { s with b := s.b - n, r := s.r + n } v) = H';unfold stO at hB;simp only [FRow.start, f127, c127r0, hB, hs, List.set_set, spl6c, spl6e, finC, go_sem, Nat.reduceAdd, Nat.reduceSub, Nat.reduceLeDiff, true_implies];refine ⟨inR_i64 (by omega) (by omega), inR_i64 (by omega) (by omega), ?_⟩
 rw [<- hH, List.take_of_length_le (by rw [List.length_set]; exact Nat.le_refl _), List.map_set, hcl]
 unfold stO
 congr 1
 simp only [fgtB, fgtL, fgt, hv]
end
def rlOf (k : Int) : SV := if k = 1 then rl1 else if k = 2 then rl2 else if k = 3 then rl3 else if k = 4 then rl4 else rule 0 .nilf .nilf
def rlIs (k : Int) : Bool := decide (1 <= k /\ k <= 4)
def rlsL : List SV := [rl1, rl2, rl3, rl4]
theorem rls_len : rlsL.length = 4 := rfl
theorem rls_get {i : Nat} (h : i < 4) : ∃ r d, rlsL[i]? = some (rule ((i : Int) + 1) r d) /\ rlOf ((i : Int) + 1) = rule ((i : Int) + 1) r d := by
 match i, h with
 | 0, _ => exact ⟨_, _, rfl, rfl⟩
 | 1, _ => exact ⟨_, _, rfl, rfl⟩
 | 2, _ => exact ⟨_, _, rfl, rfl⟩
 | 3, _ => exact ⟨_, _, rfl, rfl⟩
theorem spl_3 {a b c x y z : LV} : splice [a, b, c] 0 [x, y, z] = [x, y, z] := rfl
@[go_sem] theorem rule_cells {k : Int} {r d : SV} : (rule k r d).cells = [.int .i64 k, r, d] := rfl
theorem k94 {e : Ent} : E.Fn Tryz.prog 94 [.slice rlsL, .fn 96 [] [.ptr [.int .i64 e.m, .int .i64 e.n, .int .i64 e.k, .int .i64 e.a]]] [rlOf e.k, .bool (rlIs e.k)] := by
 refine fn_of_row okf94 ?_;simp only [FRow.start, f94, c94r0, c94r1, rls_len, go_sem, Nat.reduceAdd, Nat.reduceSub, true_implies];intro _
 refine loop_rule (fun m τ => ∃ i : Nat, m = 4 - i /\ i <= 4 /\ ¬ (1 <= e.k /\ e.k <= i) /\
  τ = ⟨[.any, .s (.fn 96 [] [.ptr [.int .i64 e.m, .int .i64 e.n, .int .i64 e.k, .int .i64 e.a]]), .any, .any, .loc 0 0, .any, .any, .any, .any, .s (.slice rlsL), aI 4, aI i, .any, .any, .any, .any, .any, .any, .any, .any, .any], [.obj [aI 0, .s .nilf, .s .nilf]]⟩) 4 rfl ?_ ?_
 ·simp only [c94l7m, go_sem, ↓reduceIte, reduceCtorEq, Nat.reduceLeDiff]
  exact ⟨0, rfl, by decide, by omega, rfl⟩
 rintro I m τ ⟨i, rfl, hi, hk, rfl⟩ hI;simp only [c94l7, c94r2, go_sem, ↓reduceIte, true_implies];refine ⟨fun hlt => ?_, fun hge => ?_⟩
 ·have hlt : i < 4 := by omega
  obtain ⟨r, d, hx, hr⟩ := rls_get hlt;simp only [c94r3, hx, rule_cells, spl_3, Int.toNat_natCast, go_sem, Nat.reduceAdd, true_implies];simp only [c94r4, go_sem, Nat.reduceAdd];refine ⟨by kernel_rfl, callK_of (by simp only [rule, go_sem]) (k96 (e := e) (k := (i : Int) + 1) (r := r) (d := d)) (.inl rfl) ?_⟩
  by_cases hq : (i : Int) + 1 = e.k
  ·have h5 : rlIs e.k = true := by unfold rlIs; exact decide_eq_true (by omega)
   rw [decide_eq_true hq, <- hq, hr, hq, h5];simp only [c94r5, spl_3, rule, go_sem, Nat.reduceAdd, true_implies]
  ·rw [decide_eq_false hq]
   simp only [c94r6, c94l7m, go_sem, ↓reduceIte, reduceCtorEq, Nat.reduceAdd, Nat.reduceLeDiff, true_implies];exact ⟨inR_small (by omega) (by omega), hI (4 - (i + 1)) _ (by omega) ⟨i + 1, rfl, by omega, by omega, rfl⟩⟩
 ·have h4 : rlOf e.k = rule 0 .nilf .nilf := by
   unfold rlOf; rw [if_neg (by omega), if_neg (by omega), if_neg (by omega), if_neg (by omega)]
  have h5 : rlIs e.k = false := by unfold rlIs; exact decide_eq_false (by omega)
  simp only [c94r8, c94r9, spl_3, h4, h5, rule, go_sem, Nat.reduceAdd, true_implies]
end Go.Proofs.YtdlfkbpddfeenaaGreatDoor.Sk
namespace Go.Proofs.YtdlfkbpddfeenaaGreatDoor.Sk
open Go Go.E
def c58r0 : LO := [oP 2 (.alloc [(.full [])])]
def c58r1 : LO := [oP 3 (.alloc [(.full [])])]
def c58r2 : LO := [oP 4 (.mov (nI 0))]
def c58r3 : LO := [oM 5 4,oP 6 (.arith .add (.t 5) (nI 3)),oM 7 0,oN 8 7,oP 9 (.cmp .lss (.t 6) (.t 8))]
def c58r4 : LO := [oF 12 0 3,oL 13 12,oM 14 0,oM 15 4,oI 16 14 15,oL 17 16,oM 18 0,oM 19 4,oP 20 (.arith .add (.t 19) (nI 1)),oI 21 18 20,oL 22 21,oM 23 0,oM 24 4,oP 25 (.arith .add (.t 24) (nI 2)),oI 26 23 25,oL 27 26,oM 28 0,oM 29 4,oP 30 (.arith .add (.t 29) (nI 3)),oI 31 28 30,oL 32 31,oP 33 (.call 51 [(.t 17), (.t 22), (.t 27), (.t 32)]),oP 34 (.buildSl 4 1 (.agg [(.int .i64 0), (.int .i64 0), (.int .i64 0), (.int .i64 0)]) [(0, (.t 33))]),oP 35 (.append 4 32 (.t 13) (.t 34)),oF 36 0 3,⟨none, none, .store 1 (.t 36) (.t 35)⟩]
def c58r5 : LO := [oM 10 4,oP 11 (.arith .add (.t 10) (nI 4)),oM 4 11]
def c58l6 : ACode := (.seq (sR c58r3 (.cond (.t 9) .skip (.exit 0))) (.seq (.block 1 (.reg 1 c58r4)) (rG c58r5)))
def c58l6m : List Bool := zT<|zF<|zT<|zT<|zT<|z8<|z8<|z8<|z8<|zF<|[]
def c58r7 : LO := [oP 37 (.load 1 true (.t 3)),⟨none, none, .store 1 (.t 2) (.t 37)⟩]
def f58 : FRow := ⟨(.seq (.reg 1 c58r0) (.seq (.reg 1 c58r1) (.seq (sR c58r2 (.block 0 (.loop c58l6m [(3, some 0, 3)] c58l6))) (sR c58r7 .ret)))), [.cell 2 1 true], 38⟩
theorem okf58 : f58.Ok Tryz.prog 58 := ⟨_, _, Tryz.func58, rfl, by kernel_rfl, by kernel_rfl, by kernel_rfl⟩
end Go.Proofs.YtdlfkbpddfeenaaGreatDoor.Sk
namespace Go.Proofs.YtdlfkbpddfeenaaGreatDoor.Sk
open Go Go.E Go.E.Sm
set_option maxRecDepth 10000
theorem k51 {e : Ent} : E.Fn Tryz.prog 51 [.int .i64 e.m, .int .i64 e.n, .int .i64 e.k, .int .i64 e.a] [ent e] := by
 refine fn_of_row okf51 ?_;simp only [FRow.start, f51, c51r0, c51r1, spl4, ent, go_sem, ↓reduceIte, Nat.reduceAdd, Nat.reduceSub, Nat.reduceLeDiff, true_implies]
theorem k57 {s : St} : E.Fn Tryz.prog 57 [.int .i64 s.c, .int .i64 s.h, .int .i64 s.b, .int .i64 s.p, .int .i64 s.r, ints s.f] [stV s] := by
 refine fn_of_row okf57 ?_;simp only [FRow.start, f57, c57r0, c57r1, spl6, stV, ints, go_sem, ↓reduceIte, Nat.reduceAdd, Nat.reduceSub, Nat.reduceLeDiff, true_implies]
theorem k56 {l : List Int} : E.Fn Tryz.prog 56 [ints l] [ints l] := by
 refine fn_of_row okf56 ?_;simp only [FRow.start, f56, c56r0, c56r1, go_sem, Nat.reduceSub, true_implies]
def num : List Ent -> List Int
 | [] => []
 | e :: l => e.m :: e.n :: e.k :: e.a :: num l
theorem num_len : ∀ {L : List Ent}, (num L).length = 4 * L.length
 | [] => rfl
 | e :: L => by simp only [num, List.length_cons, num_len (L := L)]; omega
theorem num_get : ∀ {L : List Ent} {i : Nat} {x : Ent}, L[i]? = some x -> (num L)[i * 4]? = some x.m /\ (num L)[i * 4 + 1]? = some x.n /\ (num L)[i * 4 + 2]? = some x.k /\ (num L)[i * 4 + 3]? = some x.a
 | [], i, x, h => by simp at h
 | e :: L, 0, x, h => by
  simp at h; subst h;exact ⟨rfl, rfl, rfl, rfl⟩
 | e :: L, i + 1, x, h => by
  have := num_get (L := L) (i := i) (x := x) (by simpa using h)
  rw [show (i + 1) * 4 = i * 4 + 4 from by omega]
  exact this
theorem k58 {L : List Ent} (hL : L.length <= 1000) : E.Fn Tryz.prog 58 [ints (num L)] [ssn L] := by
 refine fn_of_row okf58 ?_;have hnl := num_len (L := L);simp only [FRow.start, f58, c58r0, c58r1, c58r2, ints, go_sem, Nat.reduceAdd, Nat.reduceSub, true_implies]
 refine loop_rule (fun k τ => ∃ i : Nat, k = L.length - i /\ i <= L.length /\
  τ = ⟨((.s (.slice ((num L).map (.int .i64))))::aN::(.loc 0 0)::(.loc 1 0)::(aI ((i * 4 : Nat) : Int))::aN::aZ32), [.obj [.full []], .obj [.sl 2 0 (L.take i).length 4 false], .row (flE (L.take i))]⟩) L.length
  (σ' := ⟨((.s (.slice ((num L).map (.int .i64))))::aN::(.loc 0 0)::(.loc 1 0)::(aI 0)::aN::aZ32), [.obj [.full []], .obj [.sl 2 0 0 4 false], .row []]⟩) rfl ?_ ?_
 ·simp only [c58l6m, go_sem, ↓reduceIte, reduceCtorEq, Nat.reduceAdd, Nat.reduceLeDiff]
  exact ⟨0, rfl, Nat.zero_le _, rfl⟩
 rintro I k τ ⟨i, rfl, hi, rfl⟩ hI;have hl : (L.take i).length = i := by rw [List.length_take]; omega
 simp only [c58l6, c58r3, go_sem, ↓reduceIte, Nat.reduceAdd];refine ⟨inR_small (by omega) (by omega), fun _ => ⟨fun hlt => ?_, fun hge => ?_⟩⟩
 ·have hlt : i < L.length := by omega
  have hx : L[i]? = some L[i] := List.getElem?_eq_getElem hlt;generalize L[i] = x at hx;have ht := take_snoc hx;obtain ⟨g0, g1, g2, g3⟩ := num_get hx;have e1 : ((i * 4 : Nat) : Int) + 1 = ((i * 4 + 1 : Nat) : Int) := rfl;have e2 : ((i * 4 : Nat) : Int) + 2 = ((i * 4 + 2 : Nat) : Int) := rfl;have e3 : ((i * 4 : Nat) : Int) + 3 = ((i * 4 + 3 : Nat) : Int) := rfl;have n0 : ∀ k : Nat, inR .i64 (((i * 4 + k : Nat) : Int)) ↔ inR .i64 (((i * 4 + k : Nat) : Int)) := fun _ => Iff.rfl
  have q1 : inR .i64 ((i * 4 + 1 : Nat) : Int) := inR_small (by omega) (by omega)
  have q2 : inR .i64 ((i * 4 + 2 : Nat) : Int) := inR_small (by omega) (by omega)
  have q3 : inR .i64 ((i * 4 + 3 : Nat) : Int) := inR_small (by omega) (by omega)
  simp only [c58r4, Int.toNat_natCast, e1, e2, e3, g0, g1, g2, g3, q1, q2, q3, Int.natCast_nonneg, go_sem];refine callK_of (by simp only [go_sem]) (k51 (e := x)) (.inl rfl) ?_
  simp only [ent, go_sem, Nat.reduceAdd, Nat.reduceLeDiff, Nat.reduceMul];refine ⟨by decide, by decide, rfl, four_cells, four_cells, by rw [flE_len]; omega, by rw [hl]; omega, by rw [hl]; omega, ?_⟩
  have e4 : ((i * 4 : Nat) : Int) + 4 = (((i + 1) * 4 : Nat) : Int) := by omega
  have q4 : inR .i64 (((i + 1) * 4 : Nat) : Int) := inR_small (by omega) (by omega)
  simp only [spl_one, Nat.reduceBEq, Bool.false_eq_true, beq_self_eq_true, c58r5, c58l6m, flE_snoc, e4, q4, go_sem, ↓reduceIte, Nat.reduceAdd, Nat.reduceLeDiff, true_implies];exact hI (L.length - (i + 1)) _ (by omega) ⟨i + 1, rfl, by omega, by rw [ht, List.length_append]; rfl⟩
 ·have hie : i = L.length := by omega
  subst hie;rw [List.take_length];simp only [c58r7, spl_one, slice_ents rfl, ssn, go_sem, true_implies]
def tS : List Ent := [⟨0, 3, 3, 2⟩, ⟨0, 4, 4, 1⟩]
def sS : List Ent := [⟨0, 1, 1, 5⟩, ⟨0, 2, 2, 2⟩, ⟨0, 3, 3, 2⟩, ⟨0, 5, 1, 1⟩, ⟨2, 1, 1, 1⟩, ⟨2, 2, 2, 3⟩, ⟨2, 3, 5, 1⟩]
def jS : List Ent := [⟨0, 1, 1, 5⟩, ⟨0, 2, 2, 2⟩, ⟨0, 3, 3, 2⟩, ⟨0, 4, 4, 1⟩, ⟨0, 5, 1, 1⟩, ⟨2, 1, 1, 1⟩, ⟨2, 2, 2, 3⟩, ⟨2, 3, 5, 1⟩]
theorem ints_cells {l : List Int} : ∀ y ∈ l.map (SV.int .i64), y.cells.length = 1 := int_cells
theorem k55 : E.Fn Tryz.prog 55 [] [ssn tS] := by
 refine fn_of_row okf55 ?_;simp only [FRow.start, f55, c55r0, c55r1, go_sem, Nat.reduceSub, Nat.reduceMul, true_implies];refine ⟨by decide, by decide, rfl, ints_cells (l := num tS), callK_of (by rfl) (k58 (L := tS) (by decide)) (.inr (.inl (by rfl))) ?_⟩
 simp only [ssn, spl_one, go_sem, true_implies]
theorem k54 : E.Fn Tryz.prog 54 [] [ssn sS] := by
 refine fn_of_row okf54 ?_;simp only [FRow.start, f54, c54r0, c54r1, go_sem, Nat.reduceSub, Nat.reduceMul, true_implies];refine ⟨by decide, by decide, rfl, ints_cells (l := num sS), callK_of (by rfl) (k58 (L := sS) (by decide)) (.inr (.inl (by rfl))) ?_⟩
 simp only [ssn, spl_one, go_sem, true_implies]
theorem k53 : E.Fn Tryz.prog 53 [] [ssn jS] := by
 refine fn_of_row okf53 ?_;simp only [FRow.start, f53, c53r0, c53r1, go_sem, Nat.reduceSub, Nat.reduceMul, true_implies];refine ⟨by decide, by decide, rfl, ints_cells (l := num jS), callK_of (by rfl) (k58 (L := jS) (by decide)) (.inr (.inl (by rfl))) ?_⟩
 simp only [ssn, spl_one, go_sem, true_implies]
end Go.Proofs.YtdlfkbpddfeenaaGreatDoor.Sk
namespace Go.Proofs.YtdlfkbpddfeenaaGreatDoor.Sk
open Go Go.Shelf
def sortP_ren : Go.Shelf.Ren := ⟨fun | 6 => 63 | 15 => 89 | 14 => 88 | 28 => 116 | 29 => 117 | 20 => 108 | 21 => 109 | 22 => 110 | 23 => 111 | 24 => 112 | 25 => 113 | 26 => 114 | 27 => 115 | 46 => 137 | 47 => 138 | 48 => 139 | 49 => 140 | 50 => 141 | 57 => 155 | n => n, fun | 22 => 22 | 24 => 26 | 25 => 89 | 3 => 3 | 39 => 121 | 0 => 0 | 53 => 59 | 55 => 152 | 4 => 4 | 46 => 145 | 45 => 144 | 50 => 115 | 5 => 5 | 9 => 9 | 66 => 161 | 70 => 165 | 76 => 181 | 77 => 182 | n => n, fun | n => n⟩
theorem sortP : Go.Proofs.SlLaysF0.n6 Tryz.prog sortP_ren := {
 mixed := by kernel_rfl
 f6 := ⟨Tryz.f63.name, by decide, Tryz.func63.trans (congrArg some (by kernel_rfl))⟩
 f14 := ⟨Tryz.f88.name, by decide, Tryz.func88.trans (congrArg some (by kernel_rfl))⟩
 f15 := Tryz.func89.trans (congrArg some (by kernel_rfl))
 f20 := ⟨Tryz.f108.name, by decide, Tryz.func108.trans (congrArg some (by kernel_rfl))⟩
 f21 := ⟨Tryz.f109.name, by decide, Tryz.func109.trans (congrArg some (by kernel_rfl))⟩
 f22 := ⟨Tryz.f110.name, by decide, Tryz.func110.trans (congrArg some (by kernel_rfl))⟩
 f23 := ⟨Tryz.f111.name, by decide, Tryz.func111.trans (congrArg some (by kernel_rfl))⟩
 f24 := ⟨Tryz.f112.name, by decide, Tryz.func112.trans (congrArg some (by kernel_rfl))⟩
 f25 := ⟨Tryz.f113.name, by decide, Tryz.func113.trans (congrArg some (by kernel_rfl))⟩
 f26 := ⟨Tryz.f114.name, by decide, Tryz.func114.trans (congrArg some (by kernel_rfl))⟩
 f27 := ⟨Tryz.f115.name, by decide, Tryz.func115.trans (congrArg some (by kernel_rfl))⟩
 f28 := Tryz.func116.trans (congrArg some (by kernel_rfl))
 f29 := Tryz.func117.trans (congrArg some (by kernel_rfl))
 f46 := ⟨Tryz.f137.name, by decide, Tryz.func137.trans (congrArg some (by kernel_rfl))⟩
 f47 := Tryz.func138.trans (congrArg some (by kernel_rfl))
 f48 := Tryz.func139.trans (congrArg some (by kernel_rfl))
 f49 := ⟨Tryz.f140.name, by decide, Tryz.func140.trans (congrArg some (by kernel_rfl))⟩
 f50 := ⟨Tryz.f141.name, by decide, Tryz.func141.trans (congrArg some (by kernel_rfl))⟩
 f57 := ⟨Tryz.f155.name, by decide, Tryz.func155.trans (congrArg some (by kernel_rfl))⟩
 t0 := Tryz.underlying0
 a0 := Tryz.isAgg0
 z0 := Tryz.sizeOf0
 v0 := Tryz.zeroValue0
 t3 := Tryz.underlying3
 a3 := Tryz.isAgg3
 z3 := Tryz.sizeOf3
 v3 := Tryz.zeroValue3
 t4 := Tryz.underlying4
 a4 := Tryz.isAgg4
 z4 := Tryz.sizeOf4
 v4 := Tryz.zeroValue4
 t5 := Tryz.underlying5
 a5 := Tryz.isAgg5
 z5 := Tryz.sizeOf5
 v5 := Tryz.zeroValue5
 t9 := Tryz.underlying9
 a9 := Tryz.isAgg9
 z9 := Tryz.sizeOf9
 v9 := Tryz.zeroValue9
 t22 := Tryz.underlying22
 a22 := Tryz.isAgg22
 z22 := Tryz.sizeOf22
 v22 := Tryz.zeroValue22
 t25 := Tryz.underlying89
 a25 := Tryz.isAgg89
 z25 := Tryz.sizeOf89
 v25 := Tryz.zeroValue89
 t39 := Tryz.underlying121
 a39 := Tryz.isAgg121
 z39 := Tryz.sizeOf121
 v39 := Tryz.zeroValue121
 t45 := Tryz.underlying144
 a45 := Tryz.isAgg144
 z45 := Tryz.sizeOf144
 v45 := Tryz.zeroValue144
 t46 := Tryz.underlying145
 a46 := Tryz.isAgg145
 z46 := Tryz.sizeOf145
 v46 := Tryz.zeroValue145
 t50 := Tryz.underlying115
 a50 := Tryz.isAgg115
 z50 := Tryz.sizeOf115
 v50 := Tryz.zeroValue115
 t53 := Tryz.underlying59
 a53 := Tryz.isAgg59
 z53 := Tryz.sizeOf59
 v53 := Tryz.zeroValue59
 t55 := Tryz.underlying152
 a55 := Tryz.isAgg152
 z55 := Tryz.sizeOf152
 v55 := Tryz.zeroValue152
 t66 := Tryz.underlying161
 a66 := Tryz.isAgg161
 z66 := Tryz.sizeOf161
 v66 := Tryz.zeroValue161
 t70 := Tryz.underlying165
 a70 := Tryz.isAgg165
 z70 := Tryz.sizeOf165
 v70 := Tryz.zeroValue165
 t76 := Tryz.underlying181
 a76 := Tryz.isAgg181
 z76 := Tryz.sizeOf181
 v76 := Tryz.zeroValue181
 t77 := Tryz.underlying182
 a77 := Tryz.isAgg182
 z77 := Tryz.sizeOf182
 v77 := Tryz.zeroValue182 }
end Go.Proofs.YtdlfkbpddfeenaaGreatDoor.Sk
namespace Go.Proofs.YtdlfkbpddfeenaaGreatDoor.Sk
open Go Go.E Go.RowKit Go.Sort
set_option maxRecDepth 100000
def encE (x : Ent) : List Value := [.int .i64 x.m, .int .i64 x.n, .int .i64 x.k, .int .i64 x.a]
theorem grow_of {w w' : World} (h : E.Touch [] w w') (h4 : w.drawn <= w'.drawn) : ∃ q os, w' = grow (w.drewN q) os := by
 refine ⟨w'.drawn - w.drawn, w'.heap.extract w.heap.size, ?_⟩;have h1 := h.os;have h2 := h.tape;have h3 := h.output;have h5 := h.size
 have h6 : w'.heap = w.heap ++ w'.heap.extract w.heap.size := by
  apply Array.ext_getElem?
  intro i;rw [Array.getElem?_append]
  split
  ·rename_i hi
   exact h.block i hi (Env.nil_has i)
  ·rename_i hi
   rw [Array.getElem?_extract]
   split
   ·congr 1; omega
   ·rw [Array.getElem?_eq_none (by simp at *; omega)]
 unfold grow World.drewN
 cases w'
 simp only [World.mk.injEq] at *;exact ⟨h6, h2, by omega, h1, h3⟩
theorem wrap64_id {n : Int} (h : inR .i64 n) : wrap64 n = n := by
 unfold wrap64;have h2 := (IntKind.wrap_i64 n).symm.trans h;exact h2
theorem w64 {x y : Ent} (h1 : inR .i64 (x.m - y.m)) (h2 : inR .i64 (x.n - y.n)) (w : World) :
  Calls Tryz.prog 64 #[.agg (encE x).toArray, .agg (encE y).toArray] w fun e w' => e = .returned (.int .i64 (cmpE x y)) /\ ∃ q os, w' = grow (w.drewN q) os := by
 simp only [encE]
 go_enter Tryz.func64, Tryz.ntmps64
 go_wp2
 ·have h : (x.m != y.m) = true := by assumption
  have hm : x.m ≠ y.m := by simpa using h
  go_ret
  have ht := (touch_alloc w (.cells #[.int .i64 x.m, .int .i64 x.n, .int .i64 x.k, .int .i64 x.a] 26)).trans (touch_alloc _ (.cells #[.int .i64 y.m, .int .i64 y.n, .int .i64 y.k, .int .i64 y.a] 26));refine ⟨?_, grow_of ht (Nat.le_refl _)⟩
  show Ending.returned (Value.int .i64 (wrap64 (x.m - y.m))) = _
  rw [cmpE, if_neg hm, wrap64_id h1]
 ·have h : (x.m != y.m) = false := by assumption
  have hm : x.m = y.m := by simpa using h
  go_ret
  have ht := (touch_alloc w (.cells #[.int .i64 x.m, .int .i64 x.n, .int .i64 x.k, .int .i64 x.a] 26)).trans (touch_alloc _ (.cells #[.int .i64 y.m, .int .i64 y.n, .int .i64 y.k, .int .i64 y.a] 26));refine ⟨?_, grow_of ht (Nat.le_refl _)⟩
  show Ending.returned (Value.int .i64 (wrap64 (x.n - y.n))) = _
  rw [cmpE, if_pos hm, wrap64_id h2]
end Go.Proofs.YtdlfkbpddfeenaaGreatDoor.Sk
namespace Go.Proofs.YtdlfkbpddfeenaaGreatDoor.Sk
open Go Go.E Go.E.Sm Go.Sort Go.Shelf
set_option maxRecDepth 10000
def valsE (L : List Ent) : List Value := L.flatMap encE
theorem cmpLays {L : List Ent} (hok : ∀ e ∈ L, OkE e) {blk off size : Nat} {w : World} [hi : Inhabited {e : Ent // e ∈ L}] : CmpLays (α := {e : Ent // e ∈ L}) Tryz.prog 64 #[] (fun x => encE x.1) 4 (fun x y => cmpE x.1 y.1) blk off size w := by
 intro m os dk _ x y;obtain ⟨x, hx⟩ := x;obtain ⟨y, hy⟩ := y;have ox := hok x hx;have oy := hok y hy;have := ox.m0; have := ox.m4; have := oy.m0; have := oy.m4; have := ox.n1; have := ox.n30; have := oy.n1; have := oy.n30;exact w64 (x := x) (y := y) (inR_i64 (by omega) (by omega)) (inR_i64 (by omega) (by omega)) _
theorem vals_len : ∀ (L : List Ent), (valsE L).length = L.length * 4
 | [] => rfl
 | x :: L => by
  have := vals_len L;simp only [valsE, List.flatMap_cons, List.length_append, List.length_cons, encE, List.length_nil] at *;omega
theorem val_at {L : List Ent} [Inhabited {e : Ent // e ∈ L}] : ∀ (A : List {e : Ent // e ∈ L}) (j : Nat), j < A.length * 4 -> (valsE (A.map (·.1)))[j]? = some ((encE A[j / 4]!.1)[j % 4]!)
 | [], j, h => by simp at h
 | x :: A, 0, _ => rfl
 | x :: A, 1, _ => rfl
 | x :: A, 2, _ => rfl
 | x :: A, 3, _ => rfl
 | x :: A, j + 4, h => by
  have ih := val_at A j (by simp at h; omega)
  have e1 : (j + 4) / 4 = j / 4 + 1 := by omega
  have e2 : (j + 4) % 4 = j % 4 := by omega
  rw [e1, e2];have e3 : (valsE ((x :: A).map (·.1)))[j + 4]? = (valsE (A.map (·.1)))[j]? := rfl;rw [e3, ih];simp
theorem flat_vals {L : List Ent} [Inhabited {e : Ent // e ∈ L}] (A : List {e : Ent // e ∈ L}) : (flatK (fun x : {e : Ent // e ∈ L} => encE x.1) 4 A.toArray).toList = valsE (A.map (·.1)) := by
 apply List.ext_getElem?
 intro j
 by_cases hj : j < A.length * 4
 ·have h1 := get_flatK (fun x : {e : Ent // e ∈ L} => encE x.1) 4 A.toArray j (by simpa using hj)
  rw [getElem!_pos _ _ (by simpa using hj)] at h1
  rw [val_at A j hj, Array.getElem?_toList, Array.getElem?_eq_getElem (by simpa using hj), h1]
  simp
 ·rw [List.getElem?_eq_none (by simp; omega), List.getElem?_eq_none (by rw [vals_len, List.length_map]; omega)]
theorem crel_vals {M : Mem} : ∀ (L : List Ent) (us : List Value), CRelC M (flE L) (ones us) ↔ us = valsE L
 | [], us => by
  cases us with
  | nil => simp [flE, CRelC, ones, valsE]
  | cons u us => simp [flE, CRelC, ones, valsE]
 | x :: L, us => by
  have e2 : valsE (x :: L) = .int .i64 x.m :: .int .i64 x.n :: .int .i64 x.k :: .int .i64 x.a :: valsE L := rfl;rw [flE, e2];constructor
  ·intro h
   simp only [CRelC] at h;obtain ⟨a, as1, e3, ha, b, bs, e4, hb, c, cs, e5, hc, d, ds, e6, hd, h3⟩ := h;rw [e4, e5, e6] at e3
   cases us with
   | nil => simp [ones] at e3
   | cons u1 us =>
   cases us with
   | nil => simp [ones] at e3
   | cons u2 us =>
   cases us with
   | nil => simp [ones] at e3
   | cons u3 us =>
   cases us with
   | nil => simp [ones] at e3
   | cons u4 us =>
   simp only [ones_cons, List.cons.injEq] at e3;obtain ⟨rfl, rfl, rfl, rfl, rfl⟩ := e3;simp only [CRel, List.cons.injEq, and_true] at ha hb hc hd;rw [ha, hb, hc, hd, (crel_vals L us).1 h3]
  ·rintro rfl
   simp only [CRelC, ones_cons];exact ⟨_, _, rfl, by simp only [CRel], _, _, rfl, by simp only [CRel], _, _, rfl, by simp only [CRel], _, _, rfl, by simp only [CRel], (crel_vals L _).2 rfl⟩
theorem lt_cmpE (x y : Ent) : ltOf cmpE x y = decide (Bef x y) := by
 unfold ltOf;have := cmp_bef (x := x) (y := y)
 by_cases h : Bef x y
 ·rw [decide_eq_true h]; simp; have h2 : ¬ 0 <= cmpE x y := fun h3 => this.1 h3 h
  omega
 ·rw [decide_eq_false h]; simp; exact this.2 h
theorem swoE {L : List Ent} : SWO (ltOf fun x y : {e : Ent // e ∈ L} => cmpE x.1 y.1) where
 irrefl x := by have := lt_cmpE x.1 x.1; unfold ltOf at *; rw [this]; exact decide_eq_false Bef.irrefl
 trans x y z h1 h2 := by
  have a := lt_cmpE x.1 y.1; have b := lt_cmpE y.1 z.1; have c := lt_cmpE x.1 z.1;unfold ltOf at *;rw [a] at h1; rw [b] at h2; rw [c];exact decide_eq_true ((of_decide_eq_true h1).trans (of_decide_eq_true h2))
 ntrans x y z h1 h2 := by
  have a := lt_cmpE x.1 y.1; have b := lt_cmpE y.1 z.1; have c := lt_cmpE x.1 z.1;unfold ltOf at *;rw [a] at h1; rw [b] at h2; rw [c];have h1 := of_decide_eq_false h1; have h2 := of_decide_eq_false h2;refine decide_eq_false ?_;unfold Bef at *; omega
theorem mapBlock_setRow {w : World} {blk : Nat} {f : Array Value -> Array Value} {c : Array Value} {T : TypeId} {fr : Nat × Nat} (h : w.heap[blk]? = some (.cells c T fr)) : mapBlock w blk f = w.setRow blk (f c) := by
 unfold mapBlock World.setRow
 congr 1
 apply Array.ext_getElem?
 intro i;rw [Array.getElem?_modify, Array.getElem?_modify]
 by_cases e : blk = i
 ·subst e; rw [if_pos rfl, if_pos rfl, h]; rfl
 ·rw [if_neg e, if_neg e]
theorem grow_touch (w : World) (os : Array Obj) : E.Touch [] w (grow w os) :=
 ⟨rfl, rfl, rfl, by simp [grow], fun b hb _ => by simp only [grow]; rw [Array.getElem?_append_left hb]⟩
theorem putCells_take (sh : Nat) (d c : Array Value) (h : sh + d.size <= c.size) : ((putCells id sh d c).toList.drop sh).take d.size = d.toList := by
 apply List.ext_getElem?
 intro j;rw [List.getElem?_take]
 split
 ·rename_i hj
  rw [List.getElem?_drop, Array.getElem?_toList, Array.getElem?_toList];unfold putCells;rw [Array.getElem?_mapIdx, Array.getElem?_eq_getElem (by omega), Array.getElem?_eq_getElem hj]
  simp only [Option.map_some];rw [if_pos (by omega), Nat.add_sub_cancel_left, getElem!_pos d j hj]
  rfl
 ·rw [Array.getElem?_toList, Array.getElem?_eq_none (by omega)]
theorem sort_srt {L : List Ent} (hd : L.Pairwise fun x y => ¬ Same x y) : ((L.attach.mergeSort fun x y => !(ltOf fun x y : {e : Ent // e ∈ L} => cmpE x.1 y.1) y x).map (·.1)) = srtL L := by
 have hle : ∀ x y : {e : Ent // e ∈ L}, (!(ltOf fun x y : {e : Ent // e ∈ L} => cmpE x.1 y.1) y x) = !decide (Bef y.1 x.1) := fun x y => by
  have := lt_cmpE y.1 x.1; unfold ltOf at *; rw [this]
 have hp := List.mergeSort_perm L.attach (fun x y => !(ltOf fun x y : {e : Ent // e ∈ L} => cmpE x.1 y.1) y x)
 have hpw := List.pairwise_mergeSort (le := fun x y => !(ltOf fun x y : {e : Ent // e ∈ L} => cmpE x.1 y.1) y x) (fun a b c h1 h2 => by
  rw [hle] at *;simp only [Bool.not_eq_true', decide_eq_false_iff_not] at *;unfold Bef at *; omega) (fun a b => by
  rw [hle, hle];simp only [Bool.or_eq_true, Bool.not_eq_true', decide_eq_false_iff_not];unfold Bef; omega) L.attach
 generalize (L.attach.mergeSort fun x y => !(ltOf fun x y : {e : Ent // e ∈ L} => cmpE x.1 y.1) y x) = S at hp hpw
 have hpm : (S.map (·.1)).Perm L := by
  have := hp.map (·.1)
  rwa [List.attach_map_subtype_val] at this
 have hds : (S.map (·.1)).Pairwise fun x y => ¬ Same x y := (hpm.pairwise_iff (fun {x y} h h2 => h ⟨h2.1.symm, h2.2.symm⟩)).2 hd
 obtain ⟨h1, h2, _⟩ := srt_spec hd;refine sorted_ext ?_ h1 fun e => by rw [h2]; exact hpm.mem_iff
 have hpw2 : (S.map (·.1)).Pairwise fun x y => ¬ Bef y x := by
  rw [List.pairwise_map];refine hpw.imp fun {x y} h => ?_
  rw [hle] at h
  simpa using h
 exact (hds.and hpw2).imp fun {x y} h => by
  rcases bef_total (x := x) (y := y) with h3 | h3 | h3
  ·exact h3
  ·exact absurd h3 h.1
  ·exact absurd h3 h.2
theorem k63 {H : List ABlock} {b : Nat} {L : List Ent} {clip : Bool} (hB : H[b]? = some (.row (flE L))) (hLs : L.length < 4611686018427387904) (hok : ∀ e ∈ L, OkE e) (hd : L.Pairwise fun x y => ¬ Same x y) :
  CSem Tryz.prog 63 [.sl b 0 L.length 4 clip, .s (.fn 64 [] [])] H (.tup []) (H.set b (.row (flE (srtL L)))) := by
 intro M ρ w vs hS hF;obtain ⟨v0, ys, rfl, h0, v1, ys2, rfl, h1, hys⟩ := hF;simp only [FRel] at hys;subst hys;have g0 := h0.one rfl (by simp)
 simp only [LRel] at g0;obtain ⟨r, ad, cap, hr, hg, e0, hlc, hcm, _, _, hcap⟩ := g0;simp only [List.cons.injEq, and_true] at e0;subst e0;rw [lval_s] at h1;obtain ⟨us1, hu1, rfl⟩ := h1;simp only [CRel] at hu1;obtain ⟨r', hr1, hr2⟩ := hS.spot hB;rw [hr] at hr1; cases hr1;have hbl := (List.getElem?_eq_some_iff.1 hB).1
 have hv1 : (SV.fn 64 [] []).mk us1 = .func (.func 64) #[] #[] := by
  obtain ⟨fs, cs, rfl, h3, h4⟩ := hu1;simp only [CRelC] at h3 h4;have e1 : fs = [] := by cases fs with | nil => rfl | cons => simp [ones] at h3
  have e2 : cs = [] := by cases cs with | nil => rfl | cons => simp [ones] at h4
  subst e1 e2;rfl
 rw [hv1];have hI := MInv.start hS
 by_cases hL : L = []
 ·subst hL
  have hset : H.set b (.row (flE (srtL []))) = H := by
   have : srtL [] = [] := rfl;rw [this]
   apply List.ext_getElem?
   intro j;rw [List.getElem?_set]
   by_cases e : b = j
   ·subst e; rw [if_pos rfl, if_pos hbl, hB]
   ·rw [if_neg e]
  rw [hset];refine (AnyF.slices_SortFunc_none sortP ad cap (.func (.func 64) #[] #[]) w).mono fun e w' ⟨he, hw⟩ => ?_
  subst hw;exact ⟨_, M, ρ, he, hI, lval_tup (vs := []) (xs := []) rfl⟩
 ·cases r with
  | gone => exact absurd rfl hg
  | empty =>
   simp only [BRel] at hr2;exfalso
   cases L with
   | nil => exact hL rfl
   | cons x L => simp [flE] at hr2
  | here cb sh n =>
   simp only [BRel] at hr2;obtain ⟨c, T, hc1, hc2, hc3, hc4, hc5⟩ := hr2;have hlp := List.length_pos_iff.2 hL
   rcases hcap with hc0 | ⟨cb', sh', n', e1, e2, e3⟩
   ·omega
   cases e1
   subst e2;simp only [Nat.add_zero] at e3 ⊢;have hfl : (flE L).length = L.length * 4 := by rw [flE_len]; omega
   rw [hfl] at hc3 hc4;have hcells := (crel_vals L _).1 hc4
   haveI : Inhabited {e : Ent // e ∈ L} := ⟨⟨L.head hL, List.head_mem hL⟩⟩
   have hal : L.attach.length = L.length := List.length_attach;have ham : L.attach.map (·.1) = L := List.attach_map_subtype_val L
   have hHold : HoldsK (fun x : {e : Ent // e ∈ L} => encE x.1) 4 w cb sh L.attach.toArray := by
    intro j hj;have hj2 : j < L.length * 4 := by simpa using hj
    refine ⟨?_, by simp [World.frozen?, hc1]⟩
    have h5 : (flatK (fun x : {e : Ent // e ∈ L} => encE x.1) 4 L.attach.toArray).toList[j]? = (valsE L)[j]? := by rw [flat_vals, ham]
    rw [Array.getElem?_toList, Array.getElem?_eq_getElem hj, <- hcells, List.getElem?_take, if_pos hj2, List.getElem?_drop, Array.getElem?_toList] at h5;rw [heap_cell? hc1, <- h5, getElem!_pos (flatK (fun x : {e : Ent // e ∈ L} => encE x.1) 4 L.attach.toArray) j hj]; rfl
   have hblk := hS.lt b cb sh n hr;have eg : ∀ args w, (callFunc 64 args).run Tryz.prog w = .ok (.enter 64 args) w := enters_of Tryz.func64 (by kernel_rfl) rfl
   have hmax : maxLen < 2 ^ 63 := by decide
   have hcon := AnyQ.slices_SortFunc_total sortP 4 Tryz.isAgg26 Tryz.sizeOf26 (fun x : {e : Ent // e ∈ L} => encE x.1) (fun _ => rfl) (fun x v hv => by simp [encE] at hv; rcases hv with rfl | rfl | rfl | rfl <;> rfl) (fun x y => cmpE x.1 y.1) swoE 64 #[] cb sh cap L.attach.toArray w eg (cmpLays hok) hHold hblk (by simpa using hLs) (fun x y h1 h2 => by
    have a := lt_cmpE x.1 y.1; have b := lt_cmpE y.1 x.1;unfold ltOf at *;rw [a] at h1; rw [b] at h2;have h1 := of_decide_eq_false h1; have h2 := of_decide_eq_false h2
    apply Subtype.ext
    rcases bef_total (x := x.1) (y := y.1) with h3 | h3 | h3
    ·exact absurd h3 h1
    ·by_cases he : x.1 = y.1
     ·exact he
     ·exfalso
      rcases List.pairwise_iff_getElem.1 hd with hp
      obtain ⟨i, hi, ei⟩ := List.mem_iff_getElem.1 x.2;obtain ⟨k, hk, ek⟩ := List.mem_iff_getElem.1 y.2
      rcases Nat.lt_trichotomy i k with h | h | h
      ·exact hp i k hi hk h (by rw [ei, ek]; exact h3)
      ·subst h; exact he (ei.symm.trans ek)
      ·exact hp k i hk hi h (by rw [ei, ek]; exact ⟨h3.1.symm, h3.2.symm⟩)
    ·exact absurd h3 h2)
   change Calls Tryz.prog 63 _ _ _ at hcon
   simp only [List.size_toArray, hal] at hcon;refine hcon.mono fun e w' ⟨he, m, os, hw⟩ => ?_
   have e2 := sort_srt hd;generalize (L.attach.mergeSort fun x y => !(ltOf fun x y : {e : Ent // e ∈ L} => cmpE x.1 y.1) y x) = S at hw e2
   have hsl : (srtL L).length = L.length := (srt_spec hd).2.2;have hSl : S.length = L.length := by rw [<- hsl, <- e2, List.length_map]
   have hfs : (flatK (fun x : {e : Ent // e ∈ L} => encE x.1) 4 S.toArray).size = L.length * 4 := by simp [hSl]
   have hA : (Sort.ahead w m).heap[cb]? = some (.cells c T (0, 0)) := hc1;have hI1 : MInv NoA ρ.length M ρ w M ρ H (Sort.ahead w m) := hI.world rfl rfl rfl rfl (Nat.le_add_right _ _);have hflS : (flE (srtL L)).length = L.length * 4 := by rw [flE_len, hsl]; omega
   have hI2 := hI1.write (B' := .row (flE (srtL L))) (c' := putCells id sh (flatK (fun x : {e : Ent // e ∈ L} => encE x.1) 4 S.toArray) c) hB hr hA hc5 (by
    simp only [BRel];refine ⟨_, T, setRow_heap _ cb c _ T _ hA, by simpa [putCells] using hc2, by rw [hflS]; exact hc3, ?_, hc5⟩
    rw [hflS, crel_vals, <- e2, <- flat_vals, <- hfs];exact putCells_take _ _ _ (by omega))
   have hw2 : w' = grow ((Sort.ahead w m).setRow cb (putCells id sh (flatK (fun x : {e : Ent // e ∈ L} => encE x.1) 4 S.toArray) c)) os := by
    rw [hw];unfold sortWorldK putRowK putRow;rw [mapBlock_setRow hA]
   have ht := grow_touch ((Sort.ahead w m).setRow cb (putCells id sh (flatK (fun x : {e : Ent // e ∈ L} => encE x.1) 4 S.toArray) c)) os
   subst hw2;refine ⟨_, M, ρ, he, hI2.grow (Mem.le_refl _) ht (Newer.refl _ _ _) ?_, lval_tup (vs := []) (xs := []) rfl⟩;exact E.Holds.grow hI2.rel.holds ht
end Go.Proofs.YtdlfkbpddfeenaaGreatDoor.Sk
namespace Go.Proofs.YtdlfkbpddfeenaaGreatDoor.Sk
open Go Go.E Go.E.Sm
set_option maxRecDepth 10000
theorem newL_snoc {A l : List Ent} {x : Ent} : newL A (l ++ [x]) = if (fnd A x.m x.n).isNone then newL A l ++ [x] else newL A l := by
 unfold newL; rw [List.filter_append]
 cases h : (fnd A x.m x.n).isNone <;> simp [h]
theorem clsh_snoc {A l : List Ent} {x : Ent} : clsh A (l ++ [x]) = (clsh A l || (match fnd A x.m x.n with | some old => decide (old ≠ x) | none => false)) := by
 unfold clsh; rw [List.any_append, List.any_cons, List.any_nil, Bool.or_false]; rfl
theorem clsh_hit {A B : List Ent} {i : Nat} {x old : Ent} (hx : B[i]? = some x) (hf : fnd A x.m x.n = some old) (hne : old ≠ x) : clsh A B = true := by
 unfold clsh; rw [List.any_eq_true];exact ⟨x, List.mem_of_getElem? hx, by rw [hf]; simpa using hne⟩
theorem newL_ok {A B : List Ent} (hA : OkS A) (hB : OkS B) : ∀ e ∈ A ++ newL A B, OkE e := fun e he => by
 rcases List.mem_append.1 he with h | h
 ·exact hA.ent e h
 ·exact hB.ent e (mem_newL.1 h).1
theorem newL_le {A B : List Ent} : (newL A B).length <= B.length := List.length_filter_le _ _
theorem promo_sl {d sz : Nat} {σ : AState} {b o l s : Nat} {c : Bool} (h : fget σ.fr d = .sl b o l s c) : promote [(d, none, sz)] σ = σ := by simp only [promote, promote1, h]
section
variable {H : List ABlock} {k : AK} {zero v : SV} {vs : List SV} {i : Nat}
theorem mgetI_no : mgetI H true zero vs k none = k (.tup [zero, .bool false]) H none True := by simp [mgetI, mgetV, bsplit]
theorem mgetI_hit (h : vs[i]? = some v) : mgetI H true zero vs k (some i) = k (.tup [v, .bool true]) H none True := by simp [mgetI, h, exO, mgetV, bsplit]
end
theorem ent_at {A : List Ent} {j : Nat} {x : Ent} (h : A[j]? = some x) : (A.map ent)[j]? = some (ent x) := by rw [List.getElem?_map, h]; rfl
theorem k21 {A B : List Ent} : E.Fn Tryz.prog 21 [ssn A, ssn B] [ssn (joinR A B).1, .int .i64 (joinR A B).2] := by
  refine fn_of_row okf21 ?_;generalize hR : joinR A B = R;simp only [FRow.start, f21, c21r0, c21r1, ssn, SV.cells, go_sem, Nat.reduceAdd, Nat.reduceSub, true_implies]
  by_cases hA : ckS A = 0
  case neg =>
    have e : R = ([], ckS A) := by rw [<- hR]; unfold joinR; rw [if_pos hA]
    subst e;refine callK_of (by simp only [ssn, go_sem]) (k60b hA) (.inr (.inl (by simp only [ssn, go_sem]))) ?_
    simp only [c21r2, c21r3, hA, spl_one, ents, List.map_nil, go_sem, true_implies]
  have hoA := ckS_zero.1 hA;refine callK_of (by simp only [ssn, go_sem]) (k60 hoA) (.inr (.inl (by simp only [ssn, go_sem]))) ?_
  simp only [c21r2, c21r4, go_sem, true_implies];refine callK_of (by simp only [ssn, go_sem]) (k25 (L := B)) (.inl rfl) ?_
  by_cases hB : ckS B = 0
  case neg =>
    have e : R = ([], ckS B) := by rw [<- hR]; unfold joinR; rw [if_neg (by simpa using hA), if_pos hB]
    subst e;simp only [c21r5, c21r6, hB, spl_one, ents, List.map_nil, go_sem, true_implies]
  have hoB := ckS_zero.1 hB;have hlA := hoA.len;have hlB := hoB.len;simp only [hB, c21r5, c21r7, go_sem, Nat.reduceAdd, Nat.reduceLeDiff, true_implies];refine .inr ⟨_, _, k61 (L := A) (by omega), .inl ⟨rfl, rfl⟩, by decide, ent_each, rfl, ?_⟩
  by_cases hn : A = []
  · rw [if_pos (show A.map ent = [] from by rw [hn]; rfl)]
    simp only [c21r8, ents, go_sem, Nat.reduceAdd, Nat.reduceLeDiff, true_implies];intro _
    refine loop_rule (fun k τ => ∃ i : Nat, k = B.length - i /\ i <= B.length /\ clsh A (B.take i) = false /\
      τ = ⟨(aN::aN::aN::aN::(.loc 0 0)::aN::(.s (dsk A))::aN::aN::(.sl 2 0 (A ++ newL A (B.take i)).length 4 false)::aN::aN::aN::aN::aN::aN::aN::aN::aN::aN::aN::aN::aN::aN::aN::aN::aN::aN::aN::aN::aN::aN::aN::(.s (.slice (B.map ent)))::(aI B.length)::(aI i)::aN::aN::aN::aN::aN::aZ32), [.obj [.full []], .gone, .row (flE (A ++ newL A (B.take i)))]⟩) B.length
     (promo_one rfl) ?_ ?_
    · simp only [c21l17m, go_sem, ↓reduceIte, reduceCtorEq, Nat.reduceAdd, Nat.reduceLeDiff]
      exact ⟨0, rfl, Nat.zero_le _, rfl, by rw [hn]; rfl⟩
    rintro I k τ ⟨i, rfl, hi, hcl, rfl⟩ hI;have hlt0 : (newL A (B.take i)).length <= 24 := Nat.le_trans newL_le (by rw [List.length_take]; omega)
    have hll : (A ++ newL A (B.take i)).length <= 48 := by rw [List.length_append]; omega
    simp only [c21l17, c21r9, go_sem, ↓reduceIte, Nat.reduceAdd, true_implies];refine ⟨fun hlt => ?_, fun hge => ?_⟩
    · have hx : B[i]? = some B[i] := List.getElem?_eq_getElem hlt
      generalize B[i] = x at hx;have ht := take_snoc hx;have hs := newL_snoc (A := A) (l := B.take i) (x := x);have hc2 := clsh_snoc (A := A) (l := B.take i) (x := x);rw [<- ht] at hs hc2;rw [hcl, Bool.false_or] at hc2;simp only [c21r10, hx, ent_cells, spl4, go_sem, Nat.reduceAdd, true_implies];simp only [c21r11, dsk, go_sem, Nat.reduceAdd, Nat.reduceLeDiff];refine callK_of (by simp only [ent, go_sem]) (k62 (e := x)) (.inl rfl) ?_
      simp only [go_sem];refine ⟨key_ok, key_nodup hoA.ord, ?_⟩;have hmf := mFind_key (m := x.m) (n := x.n) (L := A);unfold key at hmf
      cases hm : mFind (SV.agg [.int .i64 x.m, .int .i64 x.n]) (A.map keyE) with
      | none =>
        rw [hm] at hmf;have hs2 : newL A (B.take (i + 1)) = newL A (B.take i) ++ [x] := by rw [hs, hmf]; rfl
        have hc3 : clsh A (B.take (i + 1)) = false := by rw [hc2, hmf]
        generalize hO : A ++ newL A (B.take i) = O at hll;have hO2 : A ++ newL A (B.take (i + 1)) = O ++ [x] := by rw [hs2, <- List.append_assoc, hO]
        simp only [mgetI_no, spl4, go_sem, Nat.reduceAdd, true_implies];simp only [c21r12, c21r14, c21r15, go_sem, Nat.reduceAdd, Nat.reduceLeDiff, Nat.reduceMul, true_implies];refine ⟨by decide, by decide, rfl, four_cells, four_cells, by rw [flE_len]; omega, by omega, by omega, ?_⟩
        simp only [Nat.reduceBEq, Bool.false_eq_true, beq_self_eq_true, c21r16, c21l17m, flE_snoc, go_sem, ↓reduceIte, Nat.reduceLeDiff, true_implies];exact ⟨inR_small (by omega) (by omega), hI (B.length - (i + 1)) _ (by omega) ⟨i + 1, rfl, by omega, hc3, by rw [hO2, List.length_append]; rfl⟩⟩
      | some j =>
        rw [hm] at hmf;obtain ⟨old, hj, hf⟩ := hmf;simp only [mgetI_hit (ent_at hj), ent_cells, spl4, go_sem, Nat.reduceAdd, true_implies];refine ⟨by simp, ?_⟩
        simp only [go_sem, ↓reduceIte, reduceCtorEq, Nat.reduceAdd, true_implies];refine ⟨?_, ?_⟩
        · intro he
          have he : old = x := ent_inj.1 he;have hs2 : newL A (B.take (i + 1)) = newL A (B.take i) := by rw [hs, hf]; rfl
          have hc3 : clsh A (B.take (i + 1)) = false := by rw [hc2, hf]; simp [he]
          subst he;simp only [c21r14, c21r16, c21l17m, go_sem, ↓reduceIte, reduceCtorEq, Nat.reduceAdd, Nat.reduceLeDiff, true_implies];exact ⟨inR_small (by omega) (by omega), hI (B.length - (i + 1)) _ (by omega) ⟨i + 1, rfl, by omega, hc3, by rw [hs2]; rfl⟩⟩
        · intro hne
          have he : old ≠ x := fun h => hne (ent_inj.2 h)
          have e : R = ([], 15) := by rw [<- hR]; unfold joinR; rw [if_neg (by simpa using hA), if_neg (by simpa using hB), if_pos (clsh_hit hx hf he)]
          subst e;simp only [c21r13, spl_one, ents, List.map_nil, go_sem, true_implies]
    · have hie : i = B.length := by omega
      subst hie;rw [List.take_length] at hcl hlt0 hll ⊢;clear hI;simp only [c21r18, go_sem, Nat.reduceAdd];intro _;refine ⟨fun h24 => ?_, fun h24 => ?_⟩
      · have e : R = ([], 6) := by rw [<- hR]; unfold joinR; rw [if_neg (by simpa using hA), if_neg (by simpa using hB), hcl, if_neg (by simp), if_pos (by rw [List.length_append] at h24; omega)]
        subst e;simp only [c21r19, spl_one, List.map_nil, go_sem, true_implies]
      · have e : R = (jn A B, 0) := by rw [<- hR]; exact join_ok hoA hoB hcl (by rw [List.length_append] at h24; omega)
        subst e;have hsl : (srtL (A ++ newL A B)).length = (A ++ newL A B).length := (srt_spec (app_dist hoA.ord hoB.ord)).2.2;have hjn : jn A B = srtL (A ++ newL A B) := rfl;generalize hO : A ++ newL A B = O at hll hsl hjn;simp only [c21r20, aop_callI, go_sem, true_implies];refine ⟨_, none, csem_k (k63 (b := 2) (L := O) rfl (by omega) (by rw [<- hO]; exact newL_ok hoA hoB) (by rw [<- hO]; exact app_dist hoA.ord hoB.ord)), ?_⟩
        rintro r H' ⟨rfl, rfl⟩;have hrow : sliceOf 0 O.length 4 (flE (srtL O)) = some (ents (srtL O)) := slice_ents hsl.symm;simp only [c21r21, hrow, spl_one, ents, hjn, go_sem, ↓reduceIte, Nat.reduceAdd, true_implies]
  · rw [if_neg (by simpa using hn), flatE_ent]
    simp only [c21r8, ents, go_sem, Nat.reduceAdd, Nat.reduceLeDiff, true_implies];intro _
    refine loop_rule (fun k τ => ∃ i : Nat, k = B.length - i /\ i <= B.length /\ clsh A (B.take i) = false /\
      τ = ⟨(aN::aN::aN::aN::(.loc 0 0)::aN::(.s (dsk A))::aN::aN::(.sl 1 0 (A ++ newL A (B.take i)).length 4 false)::aN::aN::aN::aN::aN::aN::aN::aN::aN::aN::aN::aN::aN::aN::aN::aN::aN::aN::aN::aN::aN::aN::aN::(.s (.slice (B.map ent)))::(aI B.length)::(aI i)::aN::aN::aN::aN::aN::aZ32), [.obj [.full []], .row (flE (A ++ newL A (B.take i)))]⟩) B.length
     (promo_sl rfl) ?_ ?_
    · simp only [c21l17m, go_sem, ↓reduceIte, reduceCtorEq, Nat.reduceAdd, Nat.reduceLeDiff]
      exact ⟨0, rfl, Nat.zero_le _, rfl, by simp [newL]⟩
    rintro I k τ ⟨i, rfl, hi, hcl, rfl⟩ hI;have hlt0 : (newL A (B.take i)).length <= 24 := Nat.le_trans newL_le (by rw [List.length_take]; omega)
    have hll : (A ++ newL A (B.take i)).length <= 48 := by rw [List.length_append]; omega
    simp only [c21l17, c21r9, go_sem, ↓reduceIte, Nat.reduceAdd, true_implies];refine ⟨fun hlt => ?_, fun hge => ?_⟩
    · have hx : B[i]? = some B[i] := List.getElem?_eq_getElem hlt
      generalize B[i] = x at hx;have ht := take_snoc hx;have hs := newL_snoc (A := A) (l := B.take i) (x := x);have hc2 := clsh_snoc (A := A) (l := B.take i) (x := x);rw [<- ht] at hs hc2;rw [hcl, Bool.false_or] at hc2;simp only [c21r10, hx, ent_cells, spl4, go_sem, Nat.reduceAdd, true_implies];simp only [c21r11, dsk, go_sem, Nat.reduceAdd, Nat.reduceLeDiff];refine callK_of (by simp only [ent, go_sem]) (k62 (e := x)) (.inl rfl) ?_
      simp only [go_sem];refine ⟨key_ok, key_nodup hoA.ord, ?_⟩;have hmf := mFind_key (m := x.m) (n := x.n) (L := A);unfold key at hmf
      cases hm : mFind (SV.agg [.int .i64 x.m, .int .i64 x.n]) (A.map keyE) with
      | none =>
        rw [hm] at hmf;have hs2 : newL A (B.take (i + 1)) = newL A (B.take i) ++ [x] := by rw [hs, hmf]; rfl
        have hc3 : clsh A (B.take (i + 1)) = false := by rw [hc2, hmf]
        generalize hO : A ++ newL A (B.take i) = O at hll;have hO2 : A ++ newL A (B.take (i + 1)) = O ++ [x] := by rw [hs2, <- List.append_assoc, hO]
        simp only [mgetI_no, spl4, go_sem, Nat.reduceAdd, true_implies];simp only [c21r12, c21r14, c21r15, go_sem, Nat.reduceAdd, Nat.reduceLeDiff, Nat.reduceMul, true_implies];refine ⟨by decide, by decide, rfl, four_cells, four_cells, by rw [flE_len]; omega, by omega, by omega, ?_⟩
        simp only [Nat.reduceBEq, Bool.false_eq_true, beq_self_eq_true, c21r16, c21l17m, flE_snoc, go_sem, ↓reduceIte, Nat.reduceLeDiff, true_implies];exact ⟨inR_small (by omega) (by omega), hI (B.length - (i + 1)) _ (by omega) ⟨i + 1, rfl, by omega, hc3, by rw [hO2, List.length_append]; rfl⟩⟩
      | some j =>
        rw [hm] at hmf;obtain ⟨old, hj, hf⟩ := hmf;simp only [mgetI_hit (ent_at hj), ent_cells, spl4, go_sem, Nat.reduceAdd, true_implies];refine ⟨by simp, ?_⟩
        simp only [go_sem, ↓reduceIte, reduceCtorEq, Nat.reduceAdd, true_implies];refine ⟨?_, ?_⟩
        · intro he
          have he : old = x := ent_inj.1 he;have hs2 : newL A (B.take (i + 1)) = newL A (B.take i) := by rw [hs, hf]; rfl
          have hc3 : clsh A (B.take (i + 1)) = false := by rw [hc2, hf]; simp [he]
          subst he;simp only [c21r14, c21r16, c21l17m, go_sem, ↓reduceIte, reduceCtorEq, Nat.reduceAdd, Nat.reduceLeDiff, true_implies];exact ⟨inR_small (by omega) (by omega), hI (B.length - (i + 1)) _ (by omega) ⟨i + 1, rfl, by omega, hc3, by rw [hs2]; rfl⟩⟩
        · intro hne
          have he : old ≠ x := fun h => hne (ent_inj.2 h)
          have e : R = ([], 15) := by rw [<- hR]; unfold joinR; rw [if_neg (by simpa using hA), if_neg (by simpa using hB), if_pos (clsh_hit hx hf he)]
          subst e;simp only [c21r13, spl_one, ents, List.map_nil, go_sem, true_implies]
    · have hie : i = B.length := by omega
      subst hie;rw [List.take_length] at hcl hlt0 hll ⊢;clear hI;simp only [c21r18, go_sem, Nat.reduceAdd];intro _;refine ⟨fun h24 => ?_, fun h24 => ?_⟩
      · have e : R = ([], 6) := by rw [<- hR]; unfold joinR; rw [if_neg (by simpa using hA), if_neg (by simpa using hB), hcl, if_neg (by simp), if_pos (by rw [List.length_append] at h24; omega)]
        subst e;simp only [c21r19, spl_one, List.map_nil, go_sem, true_implies]
      · have e : R = (jn A B, 0) := by rw [<- hR]; exact join_ok hoA hoB hcl (by rw [List.length_append] at h24; omega)
        subst e;have hsl : (srtL (A ++ newL A B)).length = (A ++ newL A B).length := (srt_spec (app_dist hoA.ord hoB.ord)).2.2;have hjn : jn A B = srtL (A ++ newL A B) := rfl;generalize hO : A ++ newL A B = O at hll hsl hjn;simp only [c21r20, aop_callI, go_sem, true_implies];refine ⟨_, none, csem_k (k63 (b := 1) (L := O) rfl (by omega) (by rw [<- hO]; exact newL_ok hoA hoB) (by rw [<- hO]; exact app_dist hoA.ord hoB.ord)), ?_⟩
        rintro r H' ⟨rfl, rfl⟩;have hrow : sliceOf 0 O.length 4 (flE (srtL O)) = some (ents (srtL O)) := slice_ents hsl.symm;simp only [c21r21, hrow, spl_one, ents, hjn, go_sem, ↓reduceIte, Nat.reduceAdd, true_implies]
theorem k19 {A : List Ent} {e : Ent} : E.Fn Tryz.prog 19 [ssn A, ent e] [ssn (putR A e).1, .int .i64 (putR A e).2] := by
 refine fn_of_row okf19 ?_;generalize hR : putR A e = R;simp only [FRow.start, f19, c19r0, c19r1, ssn, SV.cells, ent, go_sem, Nat.reduceAdd, Nat.reduceSub, true_implies];refine callK_of (by simp only [ssn, go_sem]) (k25 (L := A)) (.inl rfl) ?_
 by_cases hA : ckS A = 0
 case neg =>
  have e : R = ([], ckS A) := by rw [<- hR]; unfold putR; rw [if_pos hA]
  subst e;simp only [c19r2, c19r3, hA, spl_one, ents, List.map_nil, go_sem, true_implies]
 simp only [hA, c19r2, c19r4, go_sem, Nat.reduceAdd, true_implies];refine callK_of (by simp only [ent, go_sem]) (k23 (e := e)) (.inl rfl) ?_
 by_cases hE : ckE e = 0
 case neg =>
  have e : R = ([], ckE e) := by rw [<- hR]; unfold putR; rw [if_neg (by simpa using hA), if_pos hE]
  subst e;simp only [c19r5, c19r6, hE, spl_one, ents, List.map_nil, go_sem, true_implies]
 have e : R = joinR A [e] := by rw [<- hR]; unfold putR; rw [if_neg (by simpa using hA), if_neg (by simpa using hE)]
 subst e;simp only [hE, c19r5, c19r7, go_sem, ↓reduceIte, Nat.reduceAdd, Nat.reduceMul, true_implies];refine ⟨by decide, by decide, rfl, four_cells, ?_⟩
 refine callK_of (by simp only [ssn, ents, ent, go_sem]) (k21 (A := A) (B := [e])) (.inr (.inl (by simp only [ssn, ents, ent, go_sem]))) ?_
 simp only [ssn, spl_one, go_sem, true_implies]
end Go.Proofs.YtdlfkbpddfeenaaGreatDoor.Sk
namespace Go.Proofs.YtdlfkbpddfeenaaGreatDoor.Sk
theorem newL_one {A : List Ent} {e : Ent} : newL A [e] = if (fnd A e.m e.n).isNone then [e] else [] := by
 unfold newL; cases h : (fnd A e.m e.n).isNone <;> simp [h]
theorem clsh_one {A : List Ent} {e : Ent} : clsh A [e] = (match fnd A e.m e.n with | some old => decide (old ≠ e) | none => false) := by
 unfold clsh; rw [List.any_cons, List.any_nil, Bool.or_false]; rfl
theorem srtL_self {A : List Ent} (h : A.Pairwise Bef) : srtL A = A := by
 obtain ⟨h1, h2, _⟩ := srt_spec (bef_dist h);exact sorted_ext h1 h fun e => h2 e
theorem putR_bad {A : List Ent} {e : Ent} (h : ckS A ≠ 0) : putR A e = ([], ckS A) := by unfold putR; rw [if_pos h]
theorem putR_ent {A : List Ent} {e : Ent} (h : ckS A = 0) (h2 : ckE e ≠ 0) : putR A e = ([], ckE e) := by unfold putR; rw [if_neg (by simpa using h), if_pos h2]
theorem putR_join {A : List Ent} {e : Ent} (h : ckS A = 0) (h2 : ckE e = 0) : putR A e = joinR A [e] := by unfold putR; rw [if_neg (by simpa using h), if_neg (by simpa using h2)]
theorem putR_same {A : List Ent} {e : Ent} (h : ckS A = 0) (h2 : ckE e = 0) (hf : fnd A e.m e.n = some e) : putR A e = (A, 0) := by
 have hA := ckS_zero.1 h;have hn : newL A [e] = [] := by rw [newL_one, hf]; rfl
 rw [putR_join h h2, join_ok hA (ckS_zero.1 (ck_one h2)) (by rw [clsh_one, hf]; simp) (by rw [hn]; simpa using hA.len), jn, hn, List.append_nil, srtL_self hA.ord]
theorem putR_clash {A : List Ent} {e old : Ent} (h : ckS A = 0) (h2 : ckE e = 0) (hf : fnd A e.m e.n = some old) (hne : old ≠ e) : putR A e = ([], 15) := by
 rw [putR_join h h2, joinR, if_neg (by simpa using h), if_neg (by simpa using ck_one h2), if_pos (by rw [clsh_one, hf]; simpa using hne)]
theorem putR_many {A : List Ent} {e : Ent} (h : ckS A = 0) (h2 : ckE e = 0) (hf : fnd A e.m e.n = none) (hl : A.length = 24) : putR A e = ([], 6) := by
 rw [putR_join h h2, joinR, if_neg (by simpa using h), if_neg (by simpa using ck_one h2), clsh_one, hf, if_neg (by simp), if_pos (by rw [newL_one, hf]; simp [hl])]
theorem putR_new {A : List Ent} {e : Ent} (h : ckS A = 0) (h2 : ckE e = 0) (hf : fnd A e.m e.n = none) (hl : A.length < 24) : putR A e = (ins e A, 0) := by
 have hA := ckS_zero.1 h;have hn : newL A [e] = [e] := by rw [newL_one, hf]; rfl
 have hoE := ckS_zero.1 (ck_one h2);rw [putR_join h h2, join_ok hA hoE (by rw [clsh_one, hf]) (by rw [hn, List.length_singleton]; omega)]
 congr 1
 have hs := jn_spec hA.ord hoE.ord;refine sorted_ext hs.1 (ins_ord hA.ord) fun x => ?_
 rw [hs.2.1, mem_ins hf, List.mem_singleton];constructor
 ·rintro (h | h)
  ·exact .inr h
  ·exact .inl h.1
 ·rintro (h | h)
  ·subst h; exact .inr ⟨rfl, hf⟩
  ·exact .inl h
theorem ins_at {P Q : List Ent} {e : Ent} (hP : ∀ x ∈ P, Bef x e) (hQ : ∀ x ∈ Q, Bef e x) : ins e (P ++ Q) = P ++ e :: Q := by
 have h1 : P.filter (fun x => decide (Bef x e)) = P := List.filter_eq_self.2 fun x hx => by simpa using hP x hx
 have h2 : Q.filter (fun x => decide (Bef x e)) = [] := List.filter_eq_nil_iff.2 fun x hx => by
  have := hQ x hx;simp only [decide_eq_true_eq]; exact fun h => Bef.irrefl (h.trans this)
 have h3 : P.filter (fun x => decide (Bef e x)) = [] := List.filter_eq_nil_iff.2 fun x hx => by
  have := hP x hx;simp only [decide_eq_true_eq]; exact fun h => Bef.irrefl (h.trans this)
 have h4 : Q.filter (fun x => decide (Bef e x)) = Q := List.filter_eq_self.2 fun x hx => by simpa using hQ x hx
 unfold ins;rw [List.filter_append, List.filter_append, h1, h2, h3, h4, List.append_nil, List.nil_append]
theorem bef_last {P : List Ent} {p e : Ent} (hs : (P ++ [p]).Pairwise Bef) (hne : ¬ Same p e) (h : ¬ Bef e p) : ∀ x ∈ P ++ [p], Bef x e := by
 have hp : Bef p e := by
  rcases bef_total (x := p) (y := e) with h1 | h1 | h1
  ·exact h1
  ·exact absurd h1 hne
  ·exact absurd h1 h
 intro x hx
 rcases List.mem_append.1 hx with h1 | h1
 ·exact ((List.pairwise_append.1 hs).2.2 x h1 p (by simp)).trans hp
 ·rw [List.mem_singleton.1 h1]; exact hp
end Go.Proofs.YtdlfkbpddfeenaaGreatDoor.Sk
namespace Go.Proofs.YtdlfkbpddfeenaaGreatDoor.Sk
open Go Go.E Go.E.Sm
set_option maxRecDepth 10000
theorem flE_get {P Q : List Ent} {x : Ent} : ((flE (P ++ x :: Q)).drop (P.length * 4)).take 4 = [.int .i64 x.m, .int .i64 x.n, .int .i64 x.k, .int .i64 x.a] := by
 rw [flE_drop, List.drop_left]; rfl
theorem flE_put {P Q : List Ent} {x y : Ent} : splice (flE (P ++ x :: Q)) (P.length * 4) [.int .i64 y.m, .int .i64 y.n, .int .i64 y.k, .int .i64 y.a] = flE (P ++ y :: Q) := by
 rw [flE_set (by simp), List.set_append_right _ _ (Nat.le_refl _), Nat.sub_self]; rfl
theorem k20 {A : List Ent} {e : Ent} : E.Fn Tryz.prog 20 [ssn A, ent e] [ssn (putR A e).1, .int .i64 (putR A e).2] := by
 refine fn_of_row okf20 ?_;generalize hR : putR A e = R;simp only [FRow.start, f20, c20r0, c20r1, ssn, SV.cells, ent, go_sem, Nat.reduceAdd, Nat.reduceSub, true_implies];refine callK_of (by simp only [ssn, go_sem]) (k26 (L := A)) (.inl rfl) ?_
 by_cases hA : ckS A = 0
 case neg =>
  rw [putR_bad hA] at hR;subst hR;simp only [hA, c20r2, go_sem, true_implies];refine callK_of (by simp only [ssn, go_sem]) (k26 (L := A)) (.inl rfl) ?_
  simp only [spl_one, ents, List.map_nil, go_sem, true_implies]
 have hoA := ckS_zero.1 hA;have hlA := hoA.len;simp only [hA, c20r3, go_sem, Nat.reduceAdd, true_implies];refine callK_of (by simp only [ent, go_sem]) (k24 (e := e)) (.inl rfl) ?_
 by_cases hE : ckE e = 0
 case neg =>
  rw [putR_ent hA hE] at hR;subst hR;simp only [hE, c20r4, go_sem, Nat.reduceAdd, true_implies];refine callK_of (by simp only [ent, go_sem]) (k24 (e := e)) (.inl rfl) ?_
  simp only [spl_one, ents, List.map_nil, go_sem, true_implies]
 have hoE := ckE_zero.1 hE;simp only [hE, c20r5, ents, newRowK_def, go_sem, ↓reduceIte, Nat.reduceAdd, Nat.reduceLeDiff, Nat.reduceMul, true_implies];refine ⟨by decide, by decide, rfl, by simp, ⟨by simp, ent_each, by simp only [List.length_nil, List.length_map]; omega, by simp only [List.length_nil, List.length_map]; omega, by decide⟩, fun hnil => ?_, fun hnn => ?_⟩
 ·have hn : A = [] := by simpa using hnil
  have hf : fnd A e.m e.n = none := by rw [hn]; rfl
  rw [putR_new hA hE hf (by rw [hn]; decide)] at hR
  subst hR;simp only [c20r6, spl_one, go_sem, Nat.reduceAdd, Nat.reduceLeDiff];refine callK_of (by simp only [ssn, ents, go_sem]) (k48 (L := A) (m := e.m) (n := e.n)) (.inl rfl) ?_
  rw [hf];simp only [ent, e0, spl4, c20r7, c20r9, c20r11, Option.getD_none, Option.isSome_none, hn, go_sem, Nat.reduceAdd, Nat.reduceLeDiff, true_implies];intro _;refine ⟨fun h => absurd h (by decide), fun _ => ?_⟩
  simp only [c20r13, go_sem, Nat.reduceAdd, Nat.reduceMul, true_implies];refine ⟨by decide, by decide, rfl, four_cells, ⟨by simp, four_cells, by simp, by simp, by decide⟩, ?_⟩
  have h1 : flatE [SV.agg [.int .i64 e.m, .int .i64 e.n, .int .i64 e.k, .int .i64 e.a]] = flE [e] := rfl;have h2 : ((1 : Nat) : Int) - 1 = 0 := rfl;simp only [c20r14, h1, h2, go_sem];refine ⟨inR_small (by decide) (by decide), fun _ => ?_⟩
  refine loop_rule (fun k τ => k = 0 /\ τ = ⟨(aN::aN::aN::aN::(.loc 0 0)::aN::aN::aN::aN::(.sl 4 0 1 4 false)::(aI 0)::aN::aN::aZ80), [.obj [.full []], .gone, .obj [.full []], .obj [aI 0, aI 0, aI 0, aI 0], .row (flE [e])]⟩) 0 rfl ?_ ?_
  ·simp only [c20l18m, go_sem, ↓reduceIte, reduceCtorEq, Nat.reduceAdd, Nat.reduceLeDiff]
  rintro I k τ ⟨rfl, rfl⟩ hI;simp only [c20l18, c20r15, c20r19, slice_ents (l := [e]) (n := 1) rfl, spl_one, Int.lt_irrefl, ents, go_sem, ↓reduceIte, Nat.reduceAdd, true_implies];rfl
 ·have hn : A ≠ [] := by simpa using hnn
  rw [flatE_ent];simp only [c20r6, spl_one, go_sem, Nat.reduceAdd, Nat.reduceLeDiff];refine callK_of (by simp only [ssn, ents, go_sem]) (k48 (L := A) (m := e.m) (n := e.n)) (.inl rfl) ?_
  cases hf : fnd A e.m e.n with
  | some old =>
   simp only [Option.getD_some, Option.isSome_some, ent_cells, spl4, go_sem, Nat.reduceAdd, true_implies];refine ⟨by simp, ?_⟩
   simp only [go_sem, ↓reduceIte, reduceCtorEq, Nat.reduceAdd, true_implies];refine ⟨?_, ?_⟩
   ·intro he
    have he : old = e := ent_inj.1 he;rw [he] at hf;rw [putR_same hA hE hf] at hR;subst hR;subst he;simp only [c20r8, spl_one, slice_ents rfl, ents, go_sem, true_implies]
   ·intro he
    have he : ¬ old = e := fun h => he (ent_inj.2 h)
    rw [putR_clash hA hE hf he] at hR;subst hR;simp only [c20r9, c20r10, spl_one, List.map_nil, go_sem, Nat.reduceAdd, true_implies]
  | none =>
   have hne := fnd_none.1 hf;simp only [Option.getD_none, Option.isSome_none, e0, ent_cells, spl4, go_sem, Nat.reduceAdd, true_implies];simp only [c20r7, c20r9, c20r11, go_sem, Nat.reduceAdd, Nat.reduceLeDiff, true_implies];intro _;refine ⟨fun h24 => ?_, fun h24 => ?_⟩
   ·rw [putR_many hA hE hf (by omega)] at hR
    subst hR;simp only [c20r12, spl_one, List.map_nil, go_sem, true_implies]
   rw [putR_new hA hE hf (by omega)] at hR
   subst hR;simp only [c20r13, go_sem, Nat.reduceAdd, Nat.reduceLeDiff, Nat.reduceMul, true_implies];refine ⟨by decide, by decide, rfl, four_cells, four_cells, by rw [flE_len]; omega, by omega, by omega, ?_⟩
   have e1 : ((A.length + 1 : Nat) : Int) - 1 = (A.length : Int) := by omega
   simp only [c20r14, e1, Nat.reduceBEq, Bool.false_eq_true, beq_self_eq_true, flE_snoc, go_sem, ↓reduceIte];refine ⟨inR_small (by omega) (by omega), fun _ => ?_⟩
   refine loop_rule (fun k τ => ∃ P Q : List Ent, k = P.length /\ A = P ++ Q /\ (∀ x ∈ Q, Bef e x) /\ τ = ⟨(aN::aN::aN::aN::(.loc 0 0)::aN::aN::aN::aN::(.sl 1 0 (A.length + 1) 4 false)::(aI P.length)::aN::aN::aZ80), [.obj [.full []], .row (flE (P ++ e :: Q)), .obj [.any], .obj [aI 0, aI 0, aI 0, aI 0], .gone]⟩) A.length rfl ?_ ?_
   ·simp only [c20l18m, go_sem, ↓reduceIte, reduceCtorEq, Nat.reduceAdd, Nat.reduceLeDiff]
    exact ⟨A, [], rfl, by simp, by simp, rfl⟩
   rintro I k τ ⟨P, Q, rfl, hPQ, hQ, rfl⟩ hI
   obtain rfl | ⟨P', p, rfl⟩ : P = [] \/ ∃ P' p, P = P' ++ [p] := by
    rcases List.eq_nil_or_concat P with h | ⟨l, a, h⟩
    ·exact .inl h
    ·exact .inr ⟨l, a, by rw [h, List.concat_eq_append]⟩
   ·have hsl : A.length + 1 = (e :: Q).length := by rw [hPQ]; rfl
    have hin : ins e A = e :: Q := by
     rw [hPQ]; exact ins_at (P := []) (by simp) hQ
    simp only [c20l18, c20r15, go_sem, ↓reduceIte, Nat.reduceAdd, Nat.reduceMul, true_implies];refine ⟨fun h => absurd h (by decide), fun _ => ?_⟩
    simp only [c20r19, List.nil_append, slice_ents (l := e :: Q) hsl, spl_one, hin, ents, go_sem, ↓reduceIte, true_implies]
   ·have hop := hoA.ord
    rw [hPQ] at hop;have hop2 := (List.pairwise_append.1 hop).1;have hsm : ¬ Same p e := fun h => hne p (by rw [hPQ]; simp) ⟨h.1, h.2⟩
    have hpl : (P' ++ [p]).length = P'.length + 1 := by simp
    have hAl : A.length = P'.length + 1 + Q.length := by rw [hPQ, List.length_append, hpl]
    have e2 : ((P'.length + 1 : Nat) : Int) - 1 = (P'.length : Int) := by omega
    have e3 : (0 : Int) < ((P'.length + 1 : Nat) : Int) := by omega
    have g1 : ((flE (P' ++ [p] ++ e :: Q)).drop ((P'.length + 1) * 4)).take 4 = [.int .i64 e.m, .int .i64 e.n, .int .i64 e.k, .int .i64 e.a] := by
     rw [<- hpl]; exact flE_get
    have g2 : ((flE (P' ++ [p] ++ e :: Q)).drop (P'.length * 4)).take 4 = [.int .i64 p.m, .int .i64 p.n, .int .i64 p.k, .int .i64 p.a] := by
     rw [List.append_assoc]; exact flE_get
    have hb1 : (flE (P' ++ [p] ++ e :: Q)).length = (P'.length + 1 + Q.length + 1) * 4 := by rw [flE_len, List.length_append, hpl, List.length_cons]; omega
    simp only [c20l18, c20r15, go_sem, ↓reduceIte, Nat.reduceAdd, true_implies];rw [hpl, hb1, hAl];refine ⟨fun _ => ⟨by omega, by omega, inR_small (by omega) (by omega), by omega, by omega, by omega, ?_⟩, fun h => by omega⟩
    rw [e2, Int.toNat_natCast, g1, g2];refine callK_of (by simp only [ent, go_sem]) (k59 (x := e) (y := p)) (.inl rfl) ?_
    by_cases hb : Bef e p
    ·rw [decide_eq_true hb]
     have q1 : splice (flE (P' ++ [p] ++ e :: Q)) ((P'.length + 1) * 4) [.int .i64 p.m, .int .i64 p.n, .int .i64 p.k, .int .i64 p.a] = flE (P' ++ [p] ++ p :: Q) := by
      rw [<- hpl]; exact flE_put
     have q2 : splice (flE (P' ++ [p] ++ p :: Q)) (P'.length * 4) [.int .i64 e.m, .int .i64 e.n, .int .i64 e.k, .int .i64 e.a] = flE (P' ++ e :: p :: Q) := by
      rw [List.append_assoc]; exact flE_put
     simp only [go_sem, Nat.reduceAdd, true_implies];simp only [c20r16, e2, Int.toNat_natCast, Nat.zero_add, g1, g2, q1, q2, go_sem, Nat.reduceAdd, true_implies];have hb2 : (flE (P' ++ [p] ++ p :: Q)).length = (P'.length + 1 + Q.length + 1) * 4 := by rw [flE_len, List.length_append, hpl, List.length_cons]; omega
     rw [hb1, hb2];refine ⟨inR_small (by omega) (by omega), inR_small (by omega) (by omega), by omega, by omega, by omega, by omega, by omega, by omega, by omega, by omega, ?_⟩
     simp only [c20r17, e2, c20l18m, go_sem, ↓reduceIte, reduceCtorEq, Nat.reduceLeDiff, true_implies];refine ⟨inR_small (by omega) (by omega), hI P'.length _ (by omega) ⟨P', p :: Q, rfl, by rw [hPQ, List.append_assoc]; rfl, fun x hx => ?_, by rw [hAl]⟩⟩
     rcases List.mem_cons.1 hx with rfl | hx
     ·exact hb
     ·exact hQ x hx
    ·rw [decide_eq_false hb]
     have hin : ins e A = P' ++ [p] ++ e :: Q := by
      rw [hPQ]; exact ins_at (bef_last hop2 hsm hb) hQ
     have hsl : P'.length + 1 + Q.length + 1 = (P' ++ [p] ++ e :: Q).length := by rw [List.length_append, hpl, List.length_cons]; omega
     simp only [c20r19, spl_one, slice_ents hsl, hin, ents, go_sem, ↓reduceIte, Nat.reduceAdd, true_implies]
end Go.Proofs.YtdlfkbpddfeenaaGreatDoor.Sk
namespace Go.Proofs.YtdlfkbpddfeenaaGreatDoor.Sk
open Go Go.E Go.E.Sm
set_option maxRecDepth 10000
def wds : List ByteArray := [bL [99, 111, 105, 110], bL [112, 108, 97, 121], bL [98, 111, 120], bL [112, 108, 101, 97], bL [98, 97, 99, 107]]
theorem k76 : E.Fn Tryz.prog 76 [] [.slice (wds.map SV.str)] := by
 refine fn_of_row okf76 ?_;simp only [FRow.start, f76, c76r0, c76r1, wds, bL, go_sem, Nat.reduceSub, Nat.reduceMul, true_implies]
 exact ⟨by decide, by decide, rfl, fun e h => by
  simp only [List.mem_cons, List.not_mem_nil, or_false] at h
  rcases h with rfl | rfl | rfl | rfl | rfl <;> rfl⟩
theorem k104 {l : List ByteArray} {x : ByteArray} (hl : l.length <= 1000) : E.Fn Tryz.prog 104 [.slice (l.map SV.str), .str x] [.int .i64 (Lib.idxOfS l x)] := by
 refine fn_of_row okf104 ?_;simp only [FRow.start, f104, c104r0, c104r1, go_sem, Nat.reduceAdd, Nat.reduceSub, true_implies];intro hmx
 refine loop_rule (fun k τ => ∃ i : Nat, k = l.length - i /\ i <= l.length /\ (∀ j, j < i -> l.getD j ByteArray.empty ≠ x) /\
  τ = ⟨[.s (.slice (l.map SV.str)), .s (.str x), .any, .any, .any, .any, .any, aI l.length, aI i, .any, .any, .any, .any, .any, .any, .any, .any, .any, .any], []⟩) l.length rfl ?_ ?_
 ·simp only [c104l7m, go_sem]
  exact ⟨0, rfl, Nat.zero_le _, fun j h => absurd h (Nat.not_lt_zero _), rfl⟩
 rintro I k τ ⟨i, rfl, hi, hne, rfl⟩ hI;simp only [c104l7, c104r2, go_sem, ↓reduceIte, true_implies];refine ⟨fun hlt => ?_, fun hge => ?_⟩
 ·have hx : l[i]? = some l[i] := List.getElem?_eq_getElem hlt
  have hg : l.getD i ByteArray.empty = l[i] := by simp [List.getD, hx]
  simp only [c104r3, c104r4, hx, go_sem, true_implies];refine ⟨fun he => ?_, fun he => ?_⟩
  ·have he : x = l[i] := by simpa using he
   simp only [c104r5, go_sem, true_implies];have := Lib.idxOfS_hit l l.length i x hlt (Nat.le_refl _) (hg.trans he.symm) hne;rw [List.take_length] at this;rw [this]
  ·have he : x ≠ l[i] := fun h => he (by rw [h])
   simp only [c104r6, c104l7m, go_sem, true_implies]
   exact ⟨inR_small (by omega) (by omega), hI (l.length - (i + 1)) _ (by omega) ⟨i + 1, rfl, by omega, fun j hj => by
    by_cases e : j = i
    ·subst e; rw [hg]; exact fun h => he h.symm
    ·exact hne j (by omega), rfl⟩⟩
 ·simp only [c104r8, go_sem, Int.reduceNeg, true_implies]
  have := Lib.idxOfS_miss l l.length x fun j hj => hne j (by omega)
  rw [List.take_length] at this;rw [this]
theorem splitB_size (sep : ByteArray) : ∀ (k : Nat) (s p : ByteArray), p ∈ Lib.splitB sep 0 k s -> p.size <= s.size
 | 0, s, p, h => by
  simp only [Lib.splitB, List.mem_singleton] at h;subst h; exact Nat.le_refl _
 | k + 1, s, p, h => by
  unfold Lib.splitB at h
  split at h
  ·simp only [List.mem_singleton] at h
   subst h; exact Nat.le_refl _
  ·simp only [List.mem_cons] at h
   rcases h with rfl | h
   ·simp only [ByteArray.size_extract]; omega
   ·have := splitB_size sep k _ p h
    simp only [ByteArray.size_extract] at this; omega
theorem wdx (c : ByteArray) : -1 <= Lib.idxOfS wds c /\ Lib.idxOfS wds c <= 4 := by
 by_cases h : ∃ k, k < 5 /\ wds.getD k ByteArray.empty = c /\ ∀ j, j < k -> wds.getD j ByteArray.empty ≠ c
 ·obtain ⟨k, h1, h2, h3⟩ := h
  have := Lib.idxOfS_hit wds 5 k c h1 (by decide) h2 h3
  have e : wds.take 5 = wds := rfl;rw [e] at this;omega
 ·have hm : ∀ j, j < 5 -> wds.getD j ByteArray.empty ≠ c := by
   intro j
   induction j using Nat.strongRecOn with
   | _ j ih => exact fun hj he => h ⟨j, hj, he, fun i hi => ih i hi (by omega)⟩
  have := Lib.idxOfS_miss wds 5 c hm;have e : wds.take 5 = wds := rfl;rw [e] at this;omega
def ldV (s : ByteArray) : Ent × Bool :=
 match spl s (bL [32]) with
 | [a, b, c, d] => (⟨nuV a, nuV b, Lib.idxOfS wds c + 1, nuV d⟩, nuB a && nuB b && nuB d && decide (0 < Lib.idxOfS wds c + 1))
 | _ => (⟨0, 0, 0, 0⟩, false)
theorem k81 {s : ByteArray} (hs : s.size <= 1000) : E.Fn Tryz.prog 81 [.str s] [ent (ldV s).1, .bool (ldV s).2] := by
 refine fn_of_row okf81 ?_;generalize hR : ldV s = R;simp only [FRow.start, f81, c81r0, c81r1, go_sem, Nat.reduceSub, true_implies];refine callK_of (by simp only [bL, go_sem]) (k80 (s := s) (sep := bL [32]) (by omega) (by decide)) (.inr (by simp only [bL, go_sem]; exact .inl trivial)) ?_
 have hsz : ∀ p ∈ spl s (bL [32]), p.size <= s.size := fun p hp => splitB_size _ _ s p hp
 unfold ldV at hR;generalize spl s (bL [32]) = P at hR hsz;simp only [c81r2, go_sem, true_implies];intro hmx;refine ⟨fun h => ?_, fun h => ?_⟩
 ·match P, h with
  | [a, b, c, d], _ =>
   have ha := hsz a (by simp); have hb := hsz b (by simp); have hc := hsz c (by simp); have hd := hsz d (by simp)
   simp only at hR;subst hR;simp only [c81r4, List.map_cons, List.map_nil, go_sem, Nat.reduceAdd, Int.reduceToNat];refine callK_of (by simp only [go_sem]) (k83 (s := a) (by omega)) (.inl rfl) ?_
   simp only [c81r5, go_sem, Int.reduceLE, Int.reduceToNat, true_implies];refine callK_of (by simp only [go_sem]) (k83 (s := b) (by omega)) (.inl rfl) ?_
   simp only [c81r6, go_sem, Int.reduceLE, Int.reduceToNat, true_implies];refine callK_of (by simp only [go_sem]) (k83 (s := d) (by omega)) (.inl rfl) ?_
   simp only [c81r7, go_sem, true_implies];refine callK_of (by simp only [go_sem]) k76 (.inr (by simp only [go_sem]; exact .inl trivial)) ?_
   simp only [go_sem, Int.reduceLE, Int.reduceToNat];refine callK_of (by simp only [go_sem]) (k104 (l := wds) (x := c) (by decide)) (.inl rfl) ?_
   have hw := wdx c;generalize Lib.idxOfS wds c = q at hw;generalize nuB a = x1; generalize nuB b = x2; generalize nuB d = x3;simp only [c81r8, go_sem, ↓reduceIte, Nat.reduceAdd, Nat.reduceLeDiff, true_implies];refine ⟨inR_small (by omega) (by omega), ?_⟩
   cases x1 <;> cases x2 <;> cases x3 <;> (simp only [spl4, ent, Bool.true_and, Bool.false_and, Bool.and_false, Bool.and_true, go_sem, Nat.reduceAdd, true_implies])
 ·have e : R = (⟨0, 0, 0, 0⟩, false) := by
   rw [<- hR]
   match P, h with
   | [], _ => rfl
   | [_], _ => rfl
   | [_, _], _ => rfl
   | [_, _, _], _ => rfl
   | _ :: _ :: _ :: _ :: _ :: _, _ => rfl
  subst e;simp only [c81r3, ent, spl4, go_sem, Nat.reduceAdd, true_implies]
def dcL (n : Int) : List UInt8 := Lib.decDigits n.toNat
def wdL : List (List UInt8) := [[99, 111, 105, 110], [112, 108, 97, 121], [98, 111, 120], [112, 108, 101, 97], [98, 97, 99, 107]]
def linL (e : Ent) : List UInt8 := dcL e.m ++ [32] ++ dcL e.n ++ [32] ++ wdL.getD (e.k - 1).toNat [] ++ [32] ++ dcL e.a ++ [10]
def endL (n : Nat) : List UInt8 := [101, 110, 100, 32] ++ dcL n ++ [10]
def filL (L : List Ent) : List UInt8 := L.flatMap linL ++ endL L.length
theorem bL_app {a b : List UInt8} : bL a ++ bL b = bL (a ++ b) := by
 apply ByteArray.ext; simp [bL, ByteArray.data_append]
theorem bL_size {a : List UInt8} : (bL a).size = a.length := rfl
theorem nD_le : ∀ (k u : Nat), u < 10 ^ (k + 1) -> Lib.nDigits u <= k + 1
 | 0, u, h => by rw [Lib.nDigits_small (by simpa using h)]; exact Nat.le_refl _
 | k + 1, u, h => by
  by_cases hs : u < 10
  ·rw [Lib.nDigits_small hs]; omega
  ·rw [Lib.nDigits_big hs]
   have := nD_le k (u / 10) (by rw [Nat.pow_succ] at h; omega)
   omega
theorem dcL_len {n : Int} (h : n < 1000000000) : 1 <= (dcL n).length /\ (dcL n).length <= 9 := by
 unfold dcL;rw [Lib.decDigits_length];refine ⟨Lib.nDigits_pos _, ?_⟩;exact nD_le 8 _ (by omega)
theorem b32 : (ByteArray.mk #[32]) = bL [32] := rfl
theorem b10 : (ByteArray.mk #[10]) = bL [10] := rfl
theorem wds_get {j : Nat} (h : j <= 4) : wds[j]? = some (bL (wdL.getD j [])) := by
 match j, h with
 | 0, _ => rfl
 | 1, _ => rfl
 | 2, _ => rfl
 | 3, _ => rfl
 | 4, _ => rfl
theorem wdL_len {j : Nat} (h : j <= 4) : (wdL.getD j []).length <= 4 := by
 revert j; decide
theorem linL_len {e : Ent} (h : OkE e) : (linL e).length <= 40 := by
 have l1 := dcL_len (n := e.m) (by have := h.m4; omega)
 have l2 := dcL_len (n := e.n) (by have := h.n30; omega)
 have l3 := dcL_len (n := e.a) (by have := h.a100; omega)
 have := wdL_len (j := (e.k - 1).toNat) (by have := h.k5; omega)
 simp only [linL, List.length_append, List.length_cons, List.length_nil]; omega
theorem flat_len : ∀ {l : List Ent}, (∀ e ∈ l, OkE e) -> (l.flatMap linL).length <= l.length * 40
 | [], _ => by simp
 | e :: l, h => by
  have := flat_len (l := l) fun x hx => h x (List.mem_cons_of_mem _ hx)
  have := linL_len (h e (List.mem_cons_self ..));simp only [List.flatMap_cons, List.length_append, List.length_cons]; omega
theorem bst_cl {l : List UInt8} {B C : ABlock} {p : Nat -> Bool} (h : BSt l B C) : fgtB p B = B := by
 rcases h with ⟨_, rfl, _⟩ | ⟨cb, g, cap, cs, rfl, _⟩ <;> rfl
theorem bst_cl2 {l : List UInt8} {B C : ABlock} {p : Nat -> Bool} (h : BSt l B C) : fgtB p C = C := by
 rcases h with ⟨_, _, rfl⟩ | ⟨cb, g, cap, cs, _, rfl, _⟩ <;> rfl
def filR (L : List Ent) : List UInt8 := if ckS L = 0 then filL L else []
theorem k40 {L : List Ent} : E.Fn Tryz.prog 40 [ssn L] [.str (bL (filR L)), .int .i64 (ckS L)] := by
 refine fn_of_row okf40 ?_;generalize hR : filR L = R;simp only [FRow.start, f40, c40r0, c40r1, ssn, SV.cells, go_sem, Nat.reduceSub, true_implies];refine callK_of (by simp only [ssn, go_sem]) (k25 (L := L)) (.inl rfl) ?_
 by_cases hA : ckS L = 0
 case neg =>
  have e : R = [] := by rw [<- hR]; unfold filR; rw [if_neg hA]
  subst e;simp only [hA, c40r2, c40r3, bL, go_sem, true_implies]
 have hoA := ckS_zero.1 hA;have hlA := hoA.len;simp only [hA, c40r2, c40r4, c40r5, ents, go_sem, Nat.reduceLeDiff, true_implies];intro hmx
 refine loop_rule (fun k τ => ∃ (i : Nat) (B C : ABlock), k = L.length - i /\ i <= L.length /\ BSt ((L.take i).flatMap linL) B C /\
  τ = ⟨(aN::(.s (.ptr [.slice (L.map ent)]))::aN::aN::aN::(.loc 0 0)::aN::aN::aN::aN::aN::aN::aN::aN::(.s (.slice (L.map ent)))::(aI L.length)::(aI i)::aN::aN::aN::aZ32), [B, C]⟩) L.length rfl ?_ ?_
 ·simp only [c40l10m, go_sem]
  exact ⟨0, _, _, rfl, Nat.zero_le _, .inl ⟨rfl, rfl, rfl⟩, rfl⟩
 rintro I k τ ⟨i, B, C, rfl, hi, hst, rfl⟩ hI;simp only [c40l10, c40r6, go_sem, ↓reduceIte, Nat.reduceAdd, true_implies];refine ⟨fun hlt => ?_, fun hge => ?_⟩
 ·have hx : L[i]? = some L[i] := List.getElem?_eq_getElem hlt
  have hox := hoA.ent L[i] (List.getElem_mem hlt);generalize L[i] = x at hx hox;have ht := take_snoc hx;simp only [c40r7, hx, ent_cells, spl4, c40r8, go_sem, Nat.reduceAdd, true_implies];refine callK_of (by simp only [go_sem]) (k75 (n := x.m) hox.m0 (by have := hox.m4; omega)) (.inl rfl) ?_
  obtain ⟨j, hj⟩ : ∃ j : Nat, x.k = (j : Int) + 1 := ⟨(x.k - 1).toNat, by have := hox.k1; omega⟩
  have hj4 : j <= 4 := by have := hox.k5; omega
  have hw : wds[j]? = some (bL (wdL.getD j [])) := wds_get hj4;have hwl := wdL_len hj4
  have hlin : linL x = dcL x.m ++ [32] ++ dcL x.n ++ [32] ++ wdL.getD j [] ++ [32] ++ dcL x.a ++ [10] := by
   unfold linL; rw [hj]; simp
  have l1 := dcL_len (n := x.m) (by have := hox.m4; omega)
  have l2 := dcL_len (n := x.n) (by have := hox.n30; omega)
  have l3 := dcL_len (n := x.a) (by have := hox.a100; omega)
  rw [hj];have e1 : bL (Lib.decDigits x.m.toNat) = bL (dcL x.m) := rfl;have e2 : bL (Lib.decDigits x.n.toNat) = bL (dcL x.n) := rfl;have e3 : bL (Lib.decDigits x.a.toNat) = bL (dcL x.a) := rfl;rw [e1];generalize dcL x.m = d1 at *; generalize hd2 : dcL x.n = d2 at *; generalize hd3 : dcL x.a = d3 at *; generalize wdL.getD j [] = d4 at *;have q1 : d1.length + 1 <= 2 ^ 40 := by omega
  have q2 : d1.length + 1 + d2.length <= 2 ^ 40 := by omega
  have q3 : d1.length + 1 + d2.length + 1 <= 2 ^ 40 := by omega
  have q4 : d1.length + 1 + d2.length + 1 + d4.length <= 2 ^ 40 := by omega
  have q5 : d1.length + 1 + d2.length + 1 + d4.length + 1 <= 2 ^ 40 := by omega
  have q6 : d1.length + 1 + d2.length + 1 + d4.length + 1 + d3.length <= 2 ^ 40 := by omega
  have q7 : d1.length + 1 + d2.length + 1 + d4.length + 1 + d3.length + 1 <= 2 ^ 40 := by omega
  simp only [b32, b10, bL_app, bL_size, q1, go_sem, ↓reduceIte];refine callK_of (by simp only [go_sem]) (k75 (n := x.n) (by have := hox.n1; omega) (by have := hox.n30; omega)) (.inl rfl) ?_
  rw [e2];simp only [bL_app, bL_size, List.length_append, q2, q3, go_sem, ↓reduceIte];refine callK_of (by simp only [go_sem]) k76 (.inr (by simp only [go_sem]; exact .inl trivial)) ?_
  simp only [go_sem];refine ⟨inR_small (by omega) (by omega), by omega, ?_⟩
  simp only [Int.add_sub_cancel, hw, bL_app, bL_size, List.length_append, q4, q5, go_sem, ↓reduceIte];refine callK_of (by simp only [go_sem]) (k75 (n := x.a) hox.a0 (by have := hox.a100; omega)) (.inl rfl) ?_
  rw [e3];simp only [bL_app, bL_size, List.length_append, q6, q7, aop_callI, go_sem, ↓reduceIte, true_implies];refine ⟨_, some 1, k74 (b := 0) (c := 1) (H := [B, C, .obj [aI x.m, aI x.n, aI ((j : Int) + 1), aI x.a]]) rfl rfl (by decide) (Nat.zero_le _) ?_ hst ?_ ?_, ?_⟩
  ·intro i' X hi' hX
   match i', hX with
   | 0, hX => cases hX; exact bst_cl hst
   | 1, _ => exact absurd rfl hi'
   | 2, hX => cases hX; rfl
  ·simp only [bL_size, List.length_append]; omega
  ·have := flat_len (l := L.take i) fun e he => hoA.ent e (List.mem_of_mem_take he)
   have : (L.take i).length <= 24 := by rw [List.length_take]; omega
   simp only [bL_size, List.length_append, List.length_cons, List.length_nil]; omega
  rintro r H' ⟨rfl, B', C', hst', rfl⟩;simp only [c40r9, c40l10m, go_sem, Nat.reduceAdd, true_implies];refine ⟨inR_small (by omega) (by omega), hI (L.length - (i + 1)) _ (by omega) ⟨i + 1, B', C', rfl, by omega, ?_, ?_⟩⟩
  ·rw [ht, List.flatMap_append, List.flatMap_singleton, hlin]
   exact hst'
  ·rw [AState.mk.injEq]
   refine ⟨rfl, ?_⟩
   show [fgtB _ B', fgtB _ C'] = _
   rw [bst_cl hst', bst_cl2 hst']
 ·have hi2 : i = L.length := by omega
  subst hi2;rw [List.take_length] at hst;simp only [c40r11, go_sem, Nat.reduceLeDiff];refine callK_of (by simp only [go_sem]) (k75 (n := (L.length : Int)) (by omega) (by omega)) (.inl rfl) ?_
  have l1 := dcL_len (n := (L.length : Int)) (by omega)
  have hend : endL L.length = [101, 110, 100, 32] ++ dcL L.length ++ [10] := rfl;have e1 : bL (Lib.decDigits (L.length : Int).toNat) = bL (dcL L.length) := rfl;rw [e1];generalize dcL L.length = d1 at *;have q1 : 4 + d1.length <= 2 ^ 40 := by omega
  have q2 : d1.length + 1 + 1 + 1 + 1 + 1 <= 2 ^ 40 := by omega
  have bend : (ByteArray.mk #[101, 110, 100, 32]) = bL [101, 110, 100, 32] := rfl;simp only [bend, b10, bL_app, bL_size, q1, q2, aop_callI, go_sem, ↓reduceIte, Nat.reduceAdd];refine ⟨_, some 1, k74 (b := 0) (c := 1) (H := [B, C]) rfl rfl (by decide) (Nat.zero_le _) ?_ hst ?_ ?_, ?_⟩
  ·intro i' X hi' hX
   match i', hX with
   | 0, hX => cases hX; exact bst_cl hst
   | 1, _ => exact absurd rfl hi'
  ·simp only [bL_size, List.length_append, List.length_cons]; omega
  ·have := flat_len (l := L) hoA.ent
   simp only [bL_size, List.length_append, List.length_cons, List.length_nil]; omega
  rintro r H' ⟨rfl, B', C', hst', rfl⟩ _;simp only [c40r12, aop_callI, go_sem, Nat.reduceAdd];refine ⟨_, some 1, k77 (b := 0) (c := 1) (H := [B', C']) rfl rfl (by decide) (Nat.zero_le _) ?_ hst' ?_, ?_⟩
  ·intro i' X hi' hX
   match i', hX with
   | 0, hX => cases hX; exact bst_cl hst'
   | 1, _ => exact absurd rfl hi'
  ·simp only [bL, List.length_append, List.length_cons]; omega
  rintro r H' ⟨rfl, rfl⟩;simp only [go_sem, true_implies]
  have e : R = L.flatMap linL ++ (bL (101 :: 110 :: 100 :: 32 :: (d1 ++ [10]))).data.toList := by
   rw [<- hR]; unfold filR filL; rw [if_pos hA, hend]; rfl
  rw [e];rfl
end Go.Proofs.YtdlfkbpddfeenaaGreatDoor.Sk
namespace Go.Proofs.YtdlfkbpddfeenaaGreatDoor.Sk
open Go.Lib
def prt (c : UInt8) : List UInt8 -> List (List UInt8)
 | [] => [[]]
 | x :: l => if x = c then [] :: prt c l else match prt c l with
  | [] => [[x]]
  | p :: ps => (x :: p) :: ps
theorem prt_ne (c : UInt8) (l : List UInt8) : prt c l ≠ [] := by
 cases l with
 | nil => simp [prt]
 | cons x l => unfold prt; split; simp; split <;> simp
def prtS (c x : UInt8) (P : List (List UInt8)) : List (List UInt8) := if x = c then P ++ [[]] else P.dropLast ++ [P.getLastD [] ++ [x]]
theorem prt_snoc (c x : UInt8) : ∀ l, prt c (l ++ [x]) = prtS c x (prt c l)
 | [] => by simp [prt, prtS]
 | y :: l => by
  have ih := prt_snoc c x l;have hne := prt_ne c l;simp only [List.cons_append, prt, ih]
  by_cases hy : y = c
  ·simp only [if_pos hy]
   unfold prtS
   by_cases hx : x = c
   ·simp [hx]
   ·simp only [if_neg hx]
    cases hp : prt c l with
    | nil => exact absurd hp hne
    | cons p ps => simp [List.dropLast, List.getLastD]
  ·simp only [if_neg hy]
   unfold prtS
   by_cases hx : x = c
   ·simp only [if_pos hx]
    cases hp : prt c l with
    | nil => exact absurd hp hne
    | cons p ps => simp
   ·simp only [if_neg hx]
    cases hp : prt c l with
    | nil => exact absurd hp hne
    | cons p ps =>
     cases ps with
     | nil => simp
     | cons q qs => simp [List.dropLast, List.getLastD]
theorem index_cons (b c : UInt8) (l : List UInt8) : index (b :: l) [c] = if b = c then 0 else if index l [c] = -1 then -1 else index l [c] + 1 := by
 rw [index]
 by_cases h : b = c
 ·subst h; simp [List.isPrefixOf]
 ·have : ([c] : List UInt8).isPrefixOf (b :: l) = false := by simp [List.isPrefixOf, Ne.symm h]
  simp [this, h]
theorem index_no {c : UInt8} : ∀ {l : List UInt8}, l.count c = 0 -> index l [c] = -1
 | [], _ => rfl
 | b :: l, h => by
  have hb : b ≠ c := fun e => by subst e; simp at h
  have hl : l.count c = 0 := by rw [List.count_cons_of_ne (by simpa using hb)] at h; exact h
  rw [index_cons, if_neg hb, if_pos (index_no hl)]
theorem split_prt (c : UInt8) : ∀ (l : List UInt8) (k : Nat), l.count c <= k -> splitK [c] 0 k l = prt c l
 | [], 0, _ => rfl
 | [], k + 1, _ => rfl
 | b :: l, k, hk => by
  by_cases hb : b = c
  ·subst hb
   rw [List.count_cons_self] at hk;obtain ⟨k, rfl⟩ : ∃ k', k = k' + 1 := ⟨k - 1, by omega⟩
   have hi : index (b :: l) [b] = 0 := by rw [index_cons, if_pos rfl]
   rw [splitK, hi];simp only [prt, if_pos];rw [<- split_prt b l k (by omega)]
   rfl
  ·rw [List.count_cons_of_ne (by simpa using hb)] at hk
   have ih := split_prt c l k hk;have hi := index_cons b c l;rw [if_neg hb] at hi
   by_cases hm : index l [c] = -1
   ·rw [if_pos hm] at hi
    have e1 : splitK [c] 0 k l = [l] := by
     cases k with
     | zero => rfl
     | succ k => rw [splitK, hm]; rfl
    have e2 : splitK [c] 0 k (b :: l) = [b :: l] := by
     cases k with
     | zero => rfl
     | succ k => rw [splitK, hi]; rfl
    rw [e2, prt, if_neg hb, <- ih, e1]
   ·rw [if_neg hm] at hi
    have hge := index_ge l [c];obtain ⟨j, hj⟩ : ∃ j : Nat, index l [c] = j := ⟨(index l [c]).toNat, by omega⟩
    cases k with
    | zero => exact absurd (index_no (Nat.le_zero.1 hk)) hm
    | succ k =>
     rw [hj] at hi
     have e1 : splitK [c] 0 (k + 1) l = l.take (j + 0) :: splitK [c] 0 k (l.drop (j + 1)) := by
      rw [splitK, hj, if_neg (by simp)]; rfl
     have e2 : splitK [c] 0 (k + 1) (b :: l) = (b :: l).take (j + 1 + 0) :: splitK [c] 0 k ((b :: l).drop (j + 1 + 1)) := by
      rw [splitK, hi, if_neg (by simp; omega)]; rfl
     rw [e2, prt, if_neg hb, <- ih, e1];rfl
theorem prt_count {c : UInt8} {l : List UInt8} : splitK [c] 0 (count l [c]) l = prt c l := split_prt c l _ (by rw [count_one]; exact Nat.le_refl _)
theorem prt_len {c : UInt8} : ∀ {l p : List UInt8}, p ∈ prt c l -> p.length <= l.length
 | [], p, h => by simp [prt] at h; simp [h]
 | x :: l, p, h => by
  unfold prt at h
  split at h
  ·rcases List.mem_cons.1 h with rfl | h
   ·simp
   ·have := prt_len h; simp only [List.length_cons]; omega
  ·split at h
   ·rename_i hp; exact absurd hp (prt_ne c l)
   ·rename_i q qs hp
    rcases List.mem_cons.1 h with rfl | h
    ·have := prt_len (l := l) (p := q) (by rw [hp]; exact List.mem_cons_self ..); simp only [List.length_cons]; omega
    ·have := prt_len (l := l) (p := p) (by rw [hp]; exact List.mem_cons_of_mem _ h); simp only [List.length_cons]; omega
theorem prt_num (c : UInt8) : ∀ l : List UInt8, (prt c l).length <= l.length + 1
 | [] => by simp [prt]
 | x :: l => by
  have := prt_num c l;unfold prt
  split
  ·simp only [List.length_cons]; omega
  ·split
   ·simp
   ·rename_i p ps hp; rw [hp] at this; simp only [List.length_cons] at *; omega
theorem prt_none {c : UInt8} : ∀ {l : List UInt8}, c ∉ l -> prt c l = [l]
 | [], _ => rfl
 | x :: l, h => by
  rw [prt, if_neg (fun e => h (by rw [e]; exact List.mem_cons_self ..)), prt_none fun hl => h (List.mem_cons_of_mem _ hl)]
theorem prt_app {c : UInt8} : ∀ {a b : List UInt8}, c ∉ a -> prt c (a ++ c :: b) = a :: prt c b
 | [], b, _ => by simp [prt]
 | x :: a, b, h => by
  rw [List.cons_append, prt, if_neg (fun e => h (by rw [e]; exact List.mem_cons_self ..)), prt_app fun hl => h (List.mem_cons_of_mem _ hl)]
theorem prt_two {c : UInt8} : ∀ {l a b : List UInt8}, prt c l = [a, b] -> l = a ++ c :: b
 | [], a, b, h => by simp [prt] at h
 | x :: l, a, b, h => by
  unfold prt at h
  split at h
  ·rename_i hx
   simp only [List.cons.injEq] at h;obtain ⟨rfl, h⟩ := h
   have : l = b := by
    clear hx
    induction l generalizing b with
    | nil => simp only [prt, List.cons.injEq, and_true] at h; exact h
    | cons y l ih =>
     unfold prt at h
     split at h
     ·have := prt_ne c l; simp only [List.cons.injEq] at h; exact absurd h.2 this
     ·split at h
      ·rename_i hp; exact absurd hp (prt_ne c l)
      ·rename_i q qs hp
       simp only [List.cons.injEq] at h;obtain ⟨rfl, rfl⟩ := h;rw [ih q hp]
   subst this; simp [hx]
  ·split at h
   ·rename_i hp; exact absurd hp (prt_ne c l)
   ·rename_i q qs hp
    simp only [List.cons.injEq] at h;obtain ⟨rfl, rfl⟩ := h;rw [prt_two hp]; rfl
def digs : Nat -> List UInt8 -> Option Nat
 | a, [] => some a
 | a, x :: l => if x.toNat < 48 \/ 57 < x.toNat then none else digs (10 * a + (x.toNat - 48)) l
def numR (l : List UInt8) : Int × Bool :=
 if l.length = 0 \/ 9 < l.length \/ l.head? = some 48 /\ 1 < l.length then (0, false) else match digs 0 l with
 | some n => ((n : Int), true)
 | none => (0, false)
theorem digs_snoc : ∀ (l : List UInt8) (a : Nat) (x : UInt8), digs a (l ++ [x]) = match digs a l with
  | some n => if x.toNat < 48 \/ 57 < x.toNat then none else some (10 * n + (x.toNat - 48))
  | none => none
 | [], a, x => by simp [digs]
 | y :: l, a, x => by
  simp only [List.cons_append, digs]
  split
  ·rfl
  ·exact digs_snoc l _ x
theorem digs_bad2 {x : UInt8} (hb : x.toNat < 48 \/ 57 < x.toNat) : ∀ {l : List UInt8} {a : Nat}, x ∈ l -> digs a l = none
 | y :: l, a, h => by
  simp only [digs]
  rcases List.mem_cons.1 h with rfl | h
  ·rw [if_pos hb]
  ·split
   ·rfl
   ·exact digs_bad2 hb h
theorem dec_big {u : Nat} (h : ¬ u < 10) : decDigits u = decDigits (u / 10) ++ [UInt8.ofNat (48 + u % 10)] := by
 rw [decDigits, dif_neg h]
theorem dec_small {u : Nat} (h : u < 10) : decDigits u = [UInt8.ofNat (48 + u)] := by rw [decDigits, dif_pos h]
theorem u8_toNat {n : Nat} (h : n < 256) : (UInt8.ofNat n).toNat = n := by simp; omega
theorem digs_dec (u : Nat) : digs 0 (decDigits u) = some u := by
 induction u using Nat.strongRecOn with
 | _ u ih =>
  by_cases h : u < 10
  ·rw [dec_small h]
   simp only [digs, u8_toNat (show 48 + u < 256 by omega)]
   rw [if_neg (by omega)]; congr 1; omega
  ·rw [dec_big h, digs_snoc, ih _ (by omega)]
   simp only [u8_toNat (show 48 + u % 10 < 256 by omega)]
   rw [if_neg (by omega)]; congr 1; omega
theorem dec_head {u : Nat} (h : 1 <= u) : ∃ x l, decDigits u = x :: l /\ 49 <= x.toNat := by
 induction u using Nat.strongRecOn with
 | _ u ih =>
  by_cases hs : u < 10
  ·rw [dec_small hs]
   exact ⟨_, _, rfl, by rw [u8_toNat (by omega)]; omega⟩
  ·obtain ⟨x, l, e, hx⟩ := ih (u / 10) (by omega) (by omega)
   rw [dec_big hs, e];exact ⟨_, _, rfl, hx⟩
theorem dec_lead {u : Nat} : ¬ ((decDigits u).head? = some 48 /\ 1 < (decDigits u).length) := by
 rintro ⟨h1, h2⟩
 by_cases h : u < 10
 ·rw [dec_small h] at h2; simp at h2
 ·obtain ⟨x, l, e, hx⟩ := dec_head (u := u) (by omega)
  rw [e] at h1;simp only [List.head?_cons, Option.some.injEq] at h1;subst h1;exact absurd hx (by decide)
theorem dec_of_digs : ∀ (l : List UInt8) (n : Nat), l ≠ [] -> ¬ (l.head? = some 48 /\ 1 < l.length) -> digs 0 l = some n -> l = decDigits n := by
 intro l
 induction hl : l.length generalizing l with
 | zero => intro n h; exact absurd (List.length_eq_zero_iff.1 hl) h
 | succ k ih =>
  intro n hne hlead hd;obtain ⟨l', x, rfl⟩ : ∃ l' x, l = l' ++ [x] := ⟨l.dropLast, l.getLast hne, (List.dropLast_concat_getLast hne).symm⟩;rw [digs_snoc] at hd
  by_cases h0 : l' = []
  ·subst h0
   simp only [digs] at hd
   split at hd
   ·cases hd
   ·simp only [Option.some.injEq] at hd
    have hx := x.toNat_lt;rw [dec_small (by omega), <- hd]
    simp only [List.nil_append, List.cons.injEq, and_true]
    apply UInt8.toNat_inj.1
    rw [u8_toNat (by omega)]; omega
  ·cases hd' : digs 0 l' with
   | none => rw [hd'] at hd; cases hd
   | some n' =>
    rw [hd'] at hd;simp only at hd
    split at hd
    ·cases hd
    ·simp only [Option.some.injEq] at hd
     have hln : l'.length = k := by simp at hl; exact hl
     have hh : l'.head? = (l' ++ [x]).head? := by
      cases l' with
      | nil => exact absurd rfl h0
      | cons y l' => rfl
     have hle : 1 < (l' ++ [x]).length := by
      have := List.length_pos_iff.2 h0;simp; omega
     have h48 : l'.head? ≠ some 48 := fun e => hlead ⟨by rw [<- hh]; exact e, by have := List.length_pos_iff.2 h0; omega⟩
     have e1 := ih l' hln n' h0 (fun h => h48 h.1) hd'
     have hn' : 1 <= n' := by
      rcases Nat.eq_zero_or_pos n' with e | h
      ·subst e
       rw [e1, dec_small (by decide)] at h48
       exact absurd rfl h48
      ·exact h
     have hx := x.toNat_lt;have hdiv : n / 10 = n' := by omega
     rw [dec_big (u := n) (by omega), hdiv, <- e1]
     congr 1
     simp only [List.cons.injEq, and_true]
     apply UInt8.toNat_inj.1
     rw [u8_toNat (by omega)]; omega
theorem digs_le : ∀ (l : List UInt8) (a n : Nat), digs a l = some n -> a <= n
 | [], a, n, h => by simp only [digs, Option.some.injEq] at h; omega
 | x :: l, a, n, h => by
  simp only [digs] at h
  split at h
  ·cases h
  ·have := digs_le l _ n h; omega
theorem parse_digs : ∀ (l : List UInt8) (a n : Nat), digs a l = some n -> n < 1000000000000 -> parseUint10 a l = .ok n
 | [], a, n, h, _ => by simp only [digs, Option.some.injEq] at h; subst h; rfl
 | x :: l, a, n, h, hn => by
  simp only [digs] at h
  split at h
  ·cases h
  ·rename_i hx
   have hle := digs_le l _ n h;have hx2 := x.toNat_lt;simp only [parseUint10];rw [if_pos (by omega), if_neg (by omega), if_neg (by omega), show a * 10 + (x.toNat - 48) = 10 * a + (x.toNat - 48) by omega]
   exact parse_digs l _ n h hn
theorem digs_first {x : UInt8} {l : List UInt8} {a n : Nat} (h : digs a (x :: l) = some n) : 48 <= x.toNat /\ x.toNat <= 57 := by
 simp only [digs] at h
 split at h
 ·cases h
 ·omega
theorem atoi_digs {l : List UInt8} {n : Nat} (hne : l ≠ []) (h : digs 0 l = some n) (hn : n < 1000000000000) : atoiAll l = .ok (n : Int) := by
 cases l with
 | nil => exact absurd rfl hne
 | cons x l =>
  obtain ⟨h1, h2⟩ := digs_first h;have hp := parse_digs _ _ _ h hn;simp only [atoiAll];rw [if_neg (show ¬ (x.toNat = 43 \/ x.toNat = 45) by omega), parseMag, if_neg hne, hp]
  simp only;rw [if_neg (by omega), if_neg (by omega), if_neg (by omega)]
theorem dec_lt {n : Nat} (h : (decDigits n).length <= 9) : n < 1000000000 := by
 have := lt_pow_nDigits n;rw [decDigits_length] at h;exact Nat.lt_of_lt_of_le this (Nat.pow_le_pow_right (by decide) h)
def nuL (l : List UInt8) : Int := match atoiAll l with | .ok v => v | .range => atoiSat l | _ => 0
def nuF (l : List UInt8) : Bool := match atoiAll l with | .ok v => decide (l.length <= 9) && decide (0 <= v) && (itoa v == l) | _ => false
theorem nuF_eq (l : List UInt8) : nuF l = (numR l).2 /\ ((numR l).2 = true -> nuL l = (numR l).1) := by
 by_cases hr : (numR l).2 = true
 ·have hr0 := hr
  unfold numR at hr
  split at hr
  ·cases hr
  ·rename_i hc
   have h1 : l.length ≠ 0 := fun e => hc (.inl e)
   have h2 : l.length <= 9 := by omega
   have h3 : ¬ (l.head? = some 48 /\ 1 < l.length) := fun e => hc (.inr (.inr e))
   have hne : l ≠ [] := fun e => h1 (by rw [e]; rfl)
   cases hd : digs 0 l with
   | none => rw [hd] at hr; cases hr
   | some n =>
    have hl := dec_of_digs l n hne h3 hd;have hn : n < 1000000000 := dec_lt (by rw [<- hl]; exact h2)
    have ha := atoi_digs hne hd (by omega)
    have e : numR l = ((n : Int), true) := by unfold numR; rw [if_neg hc, hd]
    have e2 : itoa (n : Int) = l := by rw [itoa, if_neg (by omega), Int.toNat_natCast, <- hl]
    refine ⟨?_, fun _ => ?_⟩
    ·rw [e]; unfold nuF; rw [ha]; simp [h2, e2]
    ·rw [e]; unfold nuL; rw [ha]
 ·refine ⟨?_, fun h => absurd h hr⟩
  cases hf : nuF l with
  | false => simp at hr; exact hr.symm
  | true =>
   exfalso
   apply hr
   unfold nuF at hf
   split at hf
   ·rename_i v hv
    simp only [Bool.and_eq_true, decide_eq_true_eq, beq_iff_eq] at hf;obtain ⟨⟨h1, h2⟩, h3⟩ := hf;have hl : l = decDigits v.toNat := by rw [<- h3, itoa, if_neg (by omega)]
    have hd := digs_dec v.toNat;have hlead := dec_lead (u := v.toNat);have hlen := decDigits_length v.toNat;have hpos := nDigits_pos v.toNat;rw [<- hl] at hd hlead hlen;unfold numR;rw [if_neg (by rintro (h | h | h); omega; omega; exact hlead h), hd]
   ·cases hf
end Go.Proofs.YtdlfkbpddfeenaaGreatDoor.Sk
namespace Go.Proofs.YtdlfkbpddfeenaaGreatDoor.Sk
open Go Go.E Go.E.Sm
set_option maxRecDepth 10000
def strs (P : List (List UInt8)) : List SV := P.map fun p => .str (bL p)
theorem bL_data {l : List UInt8} : (bL l).data.toList = l := by simp [bL]
theorem bL_of (s : ByteArray) : bL s.data.toList = s := by apply ByteArray.ext; simp [bL]
theorem spl_prt {c : UInt8} {l : List UInt8} : spl (bL l) (bL [c]) = (prt c l).map bL := by
 have h := Lib.splitB_data (bL [c]) 0 (Lib.countB (bL l) (bL [c])) (bL l)
 have hc : Lib.countB (bL l) (bL [c]) = Lib.count l [c] := by
  show Lib.count (bL l).data.toList (bL [c]).data.toList = _
  rw [bL_data, bL_data]
 rw [bL_data, bL_data, hc, prt_count] at h;unfold spl;rw [hc, <- h, List.map_map]
 conv => lhs; rw [<- List.map_id (Lib.splitB _ _ _ _)]
 exact List.map_congr_left fun s _ => (bL_of s).symm
theorem nuV_bL {l : List UInt8} : nuV (bL l) = nuL l := by unfold nuV nuL; rw [bL_data]; cases Lib.atoiAll l <;> rfl
theorem nuB_bL {l : List UInt8} : nuB (bL l) = nuF l := by
 unfold nuB nuF;rw [bL_data];have : (bL l).toList = l := by rw [ByteArray.toList_eq]; exact bL_data
 simp only [bL_size, this];rfl
def kdL (c : List UInt8) : Int := Lib.idxOfS wds (bL c) + 1
def enR (l : List UInt8) : Ent × Bool := match prt 32 l with
 | [a, b, c, d] => if kdL c = 0 \/ (numR a).2 = false \/ (numR b).2 = false \/ (numR d).2 = false then (⟨0, 0, 0, 0⟩, false) else (⟨(numR a).1, (numR b).1, kdL c, (numR d).1⟩, true)
 | _ => (⟨0, 0, 0, 0⟩, false)
theorem ldV_eq (l : List UInt8) : (ldV (bL l)).2 = (enR l).2 /\ ((enR l).2 = true -> (ldV (bL l)).1 = (enR l).1) := by
 unfold ldV enR;rw [spl_prt]
 match prt 32 l with
 | [a, b, c, d] =>
  have ha := nuF_eq a; have hb := nuF_eq b; have hd := nuF_eq d;have hk := wdx (bL c);simp only [List.map_cons, List.map_nil, nuV_bL, nuB_bL, ha.1, hb.1, hd.1]
  by_cases h : kdL c = 0 \/ (numR a).2 = false \/ (numR b).2 = false \/ (numR d).2 = false
  ·rw [if_pos h]
   refine ⟨?_, fun h => by cases h⟩
   rcases h with h | h | h | h
   ·have : Lib.idxOfS wds (bL c) + 1 = 0 := h
    rw [this]; simp
   ·rw [h]; simp
   ·rw [h]; simp
   ·rw [h]; simp
  ·rw [if_neg h]
   have h1 : kdL c ≠ 0 := fun e => h (.inl e)
   have h2 : (numR a).2 = true := by cases e : (numR a).2 with | true => rfl | false => exact absurd (.inr (.inl e)) h
   have h3 : (numR b).2 = true := by cases e : (numR b).2 with | true => rfl | false => exact absurd (.inr (.inr (.inl e))) h
   have h4 : (numR d).2 = true := by cases e : (numR d).2 with | true => rfl | false => exact absurd (.inr (.inr (.inr e))) h
   rw [h2, h3, h4, ha.2 h2, hb.2 h3, hd.2 h4];have : 0 < Lib.idxOfS wds (bL c) + 1 := by unfold kdL at h1; omega
   exact ⟨by rw [decide_eq_true this]; rfl, fun _ => rfl⟩
 | [] => exact ⟨rfl, fun h => by cases h⟩
 | [_] => exact ⟨rfl, fun h => by cases h⟩
 | [_, _] => exact ⟨rfl, fun h => by cases h⟩
 | [_, _, _] => exact ⟨rfl, fun h => by cases h⟩
 | _ :: _ :: _ :: _ :: _ :: _ => exact ⟨rfl, fun h => by cases h⟩
def endN (z : List UInt8) : Option Int := match prt 32 z with
 | [e, d] => if e = [101, 110, 100] /\ (numR d).2 = true then some (numR d).1 else none
 | _ => none
def bodyR (B : List (List UInt8)) (z : List UInt8) : List Ent × Int :=
 if B.all (fun p => (enR p).2) = true then match endN z with
  | none => ([], 8)
  | some n => if n = B.length then (if ckS (B.map fun p => (enR p).1) = 0 then (B.map fun p => (enR p).1, 0) else ([], ckS (B.map fun p => (enR p).1))) else ([], 16)
 else ([], 8)
def lodR (l : List UInt8) : List Ent × Int :=
 if 500 < l.length then ([], 7)
 else if l.getLast? = some 10 then bodyR (prt 10 l.dropLast).dropLast ((prt 10 l.dropLast).getLastD []) else ([], 8)
theorem split_last {α : Type} {P : List α} (h : P ≠ []) : ∃ Q q, P = Q ++ [q] := ⟨P.dropLast, P.getLast h, (List.dropLast_concat_getLast h).symm⟩
theorem lod_nl {l : List UInt8} (h : l.getLast? = some 10) : ∃ B z, prt 10 l = B ++ [z, []] /\ prt 10 l.dropLast = B ++ [z] := by
 have hne : l ≠ [] := fun e => by rw [e] at h; cases h
 obtain ⟨t, x, rfl⟩ := split_last hne;rw [List.getLast?_concat] at h
 cases h
 obtain ⟨B, z, hB⟩ := split_last (prt_ne 10 t);refine ⟨B, z, ?_, ?_⟩
 ·rw [prt_snoc, prtS, if_pos rfl, hB]; simp
 ·rw [List.dropLast_concat, hB]
theorem strs_app {A B : List (List UInt8)} : strs (A ++ B) = strs A ++ strs B := by simp [strs]
theorem strs_len {A : List (List UInt8)} : (strs A).length = A.length := by simp [strs]
theorem strs_get {A : List (List UInt8)} {i : Nat} : (strs A)[i]? = (A[i]?).map fun p => SV.str (bL p) := by simp [strs]
theorem bl_toList {l : List UInt8} : (bL l).toList = l := by rw [ByteArray.toList_eq]; exact bL_data
theorem bl_ext {l : List UInt8} {a b : Nat} : (bL l).extract a b = bL ((l.drop a).take (b - a)) := by
 apply ByteArray.ext
 simp only [bL, ByteArray.data_extract]
 apply Array.ext'
 simp [List.drop_take]
theorem suf_nl {l : List UInt8} : hasSuf (bL l) (bL [10]) = decide (l.getLast? = some 10) /\ (l.getLast? = some 10 -> cutSuf (bL l) (bL [10]) = bL l.dropLast) := by
 have key : hasSuf (bL l) (bL [10]) = decide (l.getLast? = some 10) := by
  unfold hasSuf;rw [bl_ext, bl_toList, bl_toList, bL_size, bL_size]
  by_cases h : l = []
  ·subst h; rfl
  ·obtain ⟨t, x, rfl⟩ := split_last h
   have e1 : (t ++ [x]).length - ([10] : List UInt8).length = t.length := by simp
   rw [e1, List.drop_left, List.getLast?_concat, Bool.eq_iff_iff];simp
 refine ⟨key, fun h => ?_⟩
 unfold cutSuf;rw [if_pos (by rw [key]; exact decide_eq_true h), bl_ext, bL_size]
 congr 1
 rw [List.drop_zero, List.dropLast_eq_take];rfl
theorem end_eq {z : List UInt8} : (endN z = none /\ (hasPre (bL z) (bL [101, 110, 100, 32]) && nuB (cutPre (bL z) (bL [101, 110, 100, 32]))) = false) \/
  (∃ n, endN z = some n /\ hasPre (bL z) (bL [101, 110, 100, 32]) = true /\ nuB (cutPre (bL z) (bL [101, 110, 100, 32])) = true /\ nuV (cutPre (bL z) (bL [101, 110, 100, 32])) = n) := by
 have hp : hasPre (bL z) (bL [101, 110, 100, 32]) = true ↔ ∃ d, z = [101, 110, 100, 32] ++ d := by
  unfold hasPre;rw [bl_ext, bl_toList, bl_toList, bL_size, bL_size, List.drop_zero];constructor
  ·intro h
   simp only [Bool.and_eq_true, decide_eq_true_eq, beq_iff_eq] at h;exact ⟨z.drop 4, by rw [<- h.2]; exact (List.take_append_drop 4 z).symm⟩
  ·rintro ⟨d, rfl⟩
   simp
 have hc : ∀ d, z = [101, 110, 100, 32] ++ d -> cutPre (bL z) (bL [101, 110, 100, 32]) = bL d := fun d hd => by
  unfold cutPre;rw [if_pos (hp.2 ⟨d, hd⟩), bl_ext, bL_size, bL_size]
  congr 1
  subst hd;simp
 have h32 : ∀ d : List UInt8, (numR d).2 = true -> (32 : UInt8) ∉ d := by
  intro d hd hm;unfold numR at hd
  split at hd
  ·cases hd
  ·cases hg : digs 0 d with
   | none => rw [hg] at hd; cases hd
   | some n =>
    have := digs_bad2 (x := 32) (.inl (by decide)) (a := 0) hm
    rw [hg] at this; cases this
 cases he : endN z with
 | none =>
  refine .inl ⟨rfl, ?_⟩
  cases hb : hasPre (bL z) (bL [101, 110, 100, 32]) with
  | false => rfl
  | true =>
   obtain ⟨d, hd⟩ := hp.1 hb;rw [hc d hd, nuB_bL, (nuF_eq d).1]
   cases hn : (numR d).2 with
   | false => rfl
   | true =>
    exfalso;unfold endN at he
    have : prt 32 z = [[101, 110, 100], d] := by
     rw [hd, show ([101, 110, 100, 32] ++ d : List UInt8) = [101, 110, 100] ++ 32 :: d from rfl, prt_app (by decide), prt_none (h32 d hn)]
    rw [this] at he;simp only at he;rw [if_pos ⟨trivial, hn⟩] at he
    cases he
 | some n =>
  refine .inr ⟨n, rfl, ?_⟩;unfold endN at he
  split at he
  ·rename_i e d hq
   split at he
   ·rename_i h
    obtain ⟨rfl, hn⟩ := h
    cases he
    have hd : z = [101, 110, 100, 32] ++ d := prt_two hq;exact ⟨hp.2 ⟨d, hd⟩, by rw [hc d hd, nuB_bL, (nuF_eq d).1, hn], by rw [hc d hd, nuV_bL, (nuF_eq d).2 hn]⟩
   ·cases he
  ·cases he
theorem k42 {l : List UInt8} (hl : l.length <= 1000) : E.Fn Tryz.prog 42 [.str (bL l)] [ssn (lodR l).1, .int .i64 (lodR l).2] := by
 refine fn_of_row okf42 ?_;generalize hR : lodR l = R;unfold lodR at hR;have b10 : (ByteArray.mk #[10]) = bL [10] := rfl;have hcut := suf_nl (l := l);simp only [FRow.start, f42, c42r0, c42r1, bL_size, go_sem, Nat.reduceSub, true_implies];refine ⟨fun hlt => ?_, fun hge => ?_⟩
 ·rw [if_pos (by omega)] at hR
  subst hR;simp only [c42r2, spl_one, ssn, ents, go_sem, true_implies]
 rw [if_neg (by omega)] at hR
 have hsz : ∀ p ∈ prt 10 l, p.length <= 500 := fun p hp => Nat.le_trans (prt_len hp) (by omega)
 have hnum := prt_num 10 l;simp only [c42r3, b10, go_sem];refine callK_of (by simp only [go_sem]) (k79 (s := bL l) (p := bL [10]) (by rw [bL_size]; omega)) (.inl rfl) ?_
 by_cases hnl : l.getLast? = some 10
 case neg =>
  rw [if_neg hnl] at hR;subst hR;rw [hcut.1, decide_eq_false hnl];simp only [c42r4, c42r5, spl_one, ssn, ents, go_sem, true_implies]
 rw [if_pos hnl] at hR;rw [hcut.1, decide_eq_true hnl, hcut.2 hnl];obtain ⟨B, z, hP, hQ⟩ := lod_nl hnl;rw [hP] at hsz hnum;simp only [c42r4, c42r6, b10, go_sem, true_implies];refine callK_of (by simp only [go_sem]) (k80 (s := bL l.dropLast) (sep := bL [10]) (by rw [bL_size, List.length_dropLast]; omega) (by decide)) (.inr (by simp only [go_sem]; exact .inl trivial)) ?_
 rw [spl_prt, hQ];rw [hQ, List.dropLast_concat, List.getLastD_concat] at hR;clear hP hQ hcut;have hPl : (B ++ [z]).length = B.length + 1 := by simp
 have hBl : B.length <= 500 := by simp at hnum; omega
 have est : ((B ++ [z]).map bL).map SV.str = strs (B ++ [z]) := by simp [strs]
 rw [est];have ez : ((B.length + 1 : Nat) : Int) - 1 = B.length := by omega
 have hse : (if (0 : Int) <= (B.length : Int) then some (B.length : Int).toNat else none) = some B.length := by rw [if_pos (by omega), Int.toNat_natCast]
 have htk : (strs (B ++ [z])).take (B.length - 0) = strs B := by
  rw [Nat.sub_zero, strs_app, List.take_append_of_le_length (by rw [strs_len]; exact Nat.le_refl _), List.take_of_length_le (by rw [strs_len]; exact Nat.le_refl _)]
 simp only [c42r7, c42r8, strs_len, hPl, ez, htk, go_sem, ↓reduceIte, Nat.reduceAdd, true_implies];refine ⟨inR_small (by omega) (by omega), by omega, by omega, fun _ => ?_⟩
 clear hse htk
 refine loop_rule (fun k τ => ∃ i : Nat, k = B.length - i /\ i <= B.length /\ (∀ p ∈ B.take i, (enR p).2 = true) /\
  τ = ⟨(aN::aN::(.loc 0 0)::aN::aN::aN::(.s (.slice (strs (B ++ [z]))))::(.loc 1 0)::aN::aN::aN::aN::aN::aN::aN::aN::aN::aN::aN::aN::aN::aN::aN::aN::aN::aN::aN::aN::aN::aN::aN::aN::aN::aN::(.s (.slice (strs B)))::(aI B.length)::(aI i)::aZ56), [.obj [.full []], .obj [.sl 2 0 (B.take i).length 4 false], .row (flE ((B.take i).map fun p => (enR p).1))]⟩) B.length rfl ?_ ?_
 ·simp only [c42l16m, go_sem]
  exact ⟨0, rfl, Nat.zero_le _, fun p h => by simp at h, rfl⟩
 rintro I k τ ⟨i, rfl, hi, hok, rfl⟩ hI;have hlt' : (B.take i).length = i := by rw [List.length_take]; omega
 simp only [c42l16, c42r9, go_sem, ↓reduceIte, Nat.reduceAdd, true_implies];refine ⟨fun hlt => ?_, fun hge => ?_⟩
 ·have hx : B[i]? = some B[i] := List.getElem?_eq_getElem hlt
  have hpx := hsz B[i] (List.mem_append_left _ (List.getElem_mem hlt));generalize B[i] = p at hx hpx;have ht := take_snoc hx;have hget : (strs B)[i]? = some (.str (bL p)) := by rw [strs_get, hx]; rfl
  have hld := ldV_eq p;simp only [c42r10, hget, c42r11, go_sem, Nat.reduceAdd, true_implies];refine callK_of (by simp only [go_sem]) (k81 (s := bL p) (by rw [bL_size]; omega)) (.inl rfl) ?_
  cases hp : (enR p).2 with
  | false =>
   rw [hp] at hld
   have e : R = ([], 8) := by
    rw [<- hR]; unfold bodyR;rw [if_neg];intro h;have := List.all_eq_true.1 h p (List.mem_of_getElem? hx);rw [hp] at this; cases this
   subst e;rw [hld.1];simp only [ent, spl4, c42r12, c42r13, spl_one, ssn, ents, go_sem, Nat.reduceAdd, true_implies]
  | true =>
   rw [hp] at hld;rw [hld.1, hld.2 rfl];simp only [ent, spl4, c42r12, c42r14, go_sem, Nat.reduceAdd, Nat.reduceLeDiff, Nat.reduceMul, true_implies];refine ⟨by decide, by decide, rfl, four_cells, four_cells, by rw [flE_len, List.length_map]; omega, by omega, by omega, ?_⟩
   have hes : (B.take (i + 1)).map (fun p => (enR p).1) = (B.take i).map (fun p => (enR p).1) ++ [(enR p).1] := by rw [ht, List.map_append]; rfl
   have hsn : flE ((B.take i).map fun p => (enR p).1) ++ flatE [SV.agg [.int .i64 (enR p).1.m, .int .i64 (enR p).1.n, .int .i64 (enR p).1.k, .int .i64 (enR p).1.a]] = flE ((B.take (i + 1)).map fun p => (enR p).1) := by
    rw [hes]; exact flE_snoc
   rw [hsn];simp only [spl_one, Nat.reduceBEq, Bool.false_eq_true, beq_self_eq_true, c42r15, c42l16m, go_sem, ↓reduceIte, Nat.reduceAdd, true_implies];refine ⟨inR_small (by omega) (by omega), hI (B.length - (i + 1)) _ (by omega) ⟨i + 1, rfl, by omega, fun q hq => ?_, ?_⟩⟩
   ·rw [ht] at hq
    rcases List.mem_append.1 hq with hq | hq
    ·exact hok q hq
    ·simp only [List.mem_singleton] at hq
     subst hq; exact hp
   ·rw [ht, List.length_append]; rfl
 ·have hi2 : i = B.length := by omega
  subst hi2;rw [List.take_length] at hok ⊢;clear hI hi;have hzl := hsz z (by simp)
  have hall : B.all (fun p => (enR p).2) = true := List.all_eq_true.2 hok
  unfold bodyR at hR;rw [if_pos hall] at hR;generalize hL : B.map (fun p => (enR p).1) = L at *
  have hLl : L.length = B.length := by rw [<- hL, List.length_map]
  have ez : ((B.length + 1 : Nat) : Int) - 1 = B.length := by omega
  have hget : (strs (B ++ [z]))[B.length]? = some (.str (bL z)) := by rw [strs_get]; simp
  have hend := end_eq (z := z);have bend : (ByteArray.mk #[101, 110, 100, 32]) = bL [101, 110, 100, 32] := rfl;simp only [c42r17, strs_len, hPl, ez, Int.toNat_natCast, hget, bend, go_sem];refine ⟨inR_small (by omega) (by omega), ?_⟩
  refine callK_of (by simp only [go_sem]) (k82 (s := bL z) (p := bL [101, 110, 100, 32])) (.inl rfl) ?_
  have hms : (cutPre (bL z) (bL [101, 110, 100, 32])).size <= 500 := by
   unfold cutPre
   split
   ·rw [bl_ext, bL_size, List.length_take, List.length_drop]; omega
   ·rw [bL_size]; exact hzl
  generalize cutPre (bL z) (bL [101, 110, 100, 32]) = m at hend hms;generalize hasPre (bL z) (bL [101, 110, 100, 32]) = pb at hend;have h83 := k83 (s := m) (by omega)
  generalize nuB m = nb at hend h83;generalize nuV m = nv at hend h83;have hse := slice_ents (l := L) (n := B.length) hLl.symm;simp only [c42r18, go_sem, Nat.reduceAdd];intro _;refine callK_of (by simp only [go_sem]) h83 (.inl rfl) ?_
  simp only [c42r19, go_sem, Nat.reduceAdd, true_implies];refine callK_of (by simp only [hse, ssn, go_sem]) (k25 (L := L)) (.inl rfl) ?_
  rcases hend with ⟨h1, h2⟩ | ⟨n, h1, rfl, rfl, rfl⟩
  ·rw [h1] at hR
   simp only at hR;subst hR
   cases pb <;> cases nb <;> simp at h2 <;> (simp only [c42r20, c42r21, spl_one, ssn, ents, go_sem, Nat.reduceAdd, true_implies])
  ·rw [h1] at hR
   simp only at hR;simp only [c42r20, c42r22, go_sem, Nat.reduceAdd, true_implies];intro _;refine ⟨fun hn => ?_, fun hn => ?_⟩
   case refine_2 =>
    rw [if_neg hn] at hR;subst hR;simp only [c42r23, spl_one, ssn, ents, go_sem, true_implies]
   rw [if_pos hn] at hR
   by_cases hA : ckS L = 0
   case neg =>
    rw [if_neg hA] at hR;subst hR;simp only [hA, c42r24, c42r25, spl_one, ssn, ents, go_sem, Nat.reduceAdd, true_implies]
   rw [if_pos hA] at hR;subst hR;simp only [hA, c42r24, c42r26, hse, spl_one, ssn, go_sem, Nat.reduceAdd, true_implies]
end Go.Proofs.YtdlfkbpddfeenaaGreatDoor.Sk
namespace Go.Proofs.YtdlfkbpddfeenaaGreatDoor.Sk
open Go Go.E Go.RowKit
set_option maxRecDepth 100000
def rc95 (b : Nat) : Array Value := #[.int .i64 1, .func (.func 120) #[] #[], .func (.func 124) #[] #[],
 .int .i64 2, .func (.func 123) #[] #[.pointer (some ⟨b, 0, none⟩)], .func (.func 125) #[] #[],
 .int .i64 3, .func (.func 121) #[] #[], .func (.func 126) #[] #[], .int .i64 4, .func (.func 122) #[] #[], .func (.func 127) #[] #[]]
theorem w95 (w : World) : Calls Tryz.prog 95 #[] w fun e w' => e = .returned (.slice (some ⟨w.heap.size + 1, 0, none⟩) 4 4) /\
  w' = (w.alloc (.cells #[.func (.func 121) #[] #[]] 128)).alloc (.cells (rc95 w.heap.size) 131) := by
 go_enter Tryz.func95, Tryz.ntmps95
 go_wp2
 go_ret
 exact ⟨rfl, rfl⟩
theorem crel_fn0 {M : Mem} {f : FuncId} : CRel M (.fn f [] []) [.func (.func f) #[] #[]] := by
 simp only [CRel]; exact ⟨[], [], rfl, by simp [ones, CRelC], by simp [ones, CRelC]⟩
theorem k95 : E.Fn Tryz.prog 95 [] [.slice rlsL] := by
 intro M w vs hM hv;have hvs : vs = [] := by simpa [VRelL] using hv
 subst hvs;refine (w95 w).mono fun e w' ⟨he, hw⟩ => ?_
 obtain ⟨a1, a2, a3, a4⟩ := Mem.lay_spec hM #[.func (.func 121) #[] #[]] 128;obtain ⟨b1, b2, b3, b4⟩ := Mem.lay_spec a3 (rc95 w.heap.size) 131;generalize hM1 : M.lay w.heap.size (#[Value.func (.func 121) #[] #[]]).toList = M1 at a1 a2 a3 a4 b1 b2 b3 b4;have hs : (w.alloc (.cells #[.func (.func 121) #[] #[]] 128)).heap.size = w.heap.size + 1 := by simp
 rw [hs] at b1 b2 b3 b4;generalize hM2 : M1.lay (w.heap.size + 1) (rc95 w.heap.size).toList = M2 at b1 b2 b3 b4;refine ⟨[.slice (some ⟨w.heap.size + 1, 0, none⟩) 4 4], M2, he, Mem.le_trans a1 b1, by rw [hw]; exact b3, ?_, by rw [hw]; exact (touch_alloc w _).trans (touch_alloc _ _), ?_⟩
 ·refine ⟨_, _, rfl, vrel_of_one ?_ rfl, rfl⟩
  simp only [CRel]
  refine ⟨_, _, _, rfl, rfl, Nat.le_refl _, by decide, .inr ⟨w.heap.size + 1, 0, 3, [[.int .i64 1, .func (.func 120) #[] #[], .func (.func 124) #[] #[]],
   [.int .i64 2, .func (.func 123) #[] #[.pointer (some ⟨w.heap.size, 0, none⟩)], .func (.func 125) #[] #[]],
   [.int .i64 3, .func (.func 121) #[] #[], .func (.func 126) #[] #[]], [.int .i64 4, .func (.func 122) #[] #[], .func (.func 127) #[] #[]]], rfl, ?_, by simp, b4⟩⟩
  have hr : ∀ (k : Int) (r d : SV) (x y : Value), CRel M2 r [x] -> CRel M2 d [y] -> CRel M2 (rule k r d) [.int .i64 k, x, y] := fun k r d x y h1 h2 => by
   simp only [rule, CRel, CRelC, ones_cons, ones_nil];exact ⟨_, _, rfl, rfl, _, _, rfl, h1, _, _, rfl, h2, rfl⟩
  refine crelC_cons (hr _ _ _ _ _ crel_fn0 crel_fn0) (crelC_cons (hr _ _ _ _ _ ?_ crel_fn0) (crelC_cons (hr _ _ _ _ _ crel_fn0 crel_fn0) (crelC_cons (hr _ _ _ _ _ crel_fn0 crel_fn0) crelC_nil)));simp only [CRel];refine ⟨[], [.pointer (some ⟨w.heap.size, 0, none⟩)], rfl, by simp [ones, CRelC], ?_⟩
  refine crelC_cons ?_ crelC_nil;simp only [CRel];exact ⟨w.heap.size, 0, [.func (.func 121) #[] #[]], rfl, crelC_cons crel_fn0 crelC_nil, a4.mono b1⟩
 ·refine ⟨fun b o v h => ?_, fun b es h => ?_⟩
  ·rcases b2.1 b o v h with h | h | h
   ·exact a2.1 b o v h
   ·exact .inr (.inl (by rw [hs] at h; omega))
   ·exact .inr (.inr h)
  ·rcases b2.2 b es h with h | h | h
   ·exact a2.2 b es h
   ·exact .inr (.inl (by rw [hs] at h; omega))
   ·exact .inr (.inr h)
end Go.Proofs.YtdlfkbpddfeenaaGreatDoor.Sk
