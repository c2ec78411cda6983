/- How the value semantics is reckoned by simp: one lemma a step, first order throughout. -/
import Derived.Test.YtmcjoahnlbckoaaJ4

set_option linter.all false

namespace Go.E.Sm
open Go
theorem nr {α : Sort _} {a b : α} (h : a = b) : a = b := h ▸ rfl
@[go_sem] theorem exO_some {α : Type} {a : α} {f : α -> Prop} : exO (some a) f = f a := propext Iff.rfl
theorem exO_of {α : Type} {o : Option α} {f : α -> Prop} {a : α} (h : o = some a) (k : f a) : exO o f := by rw [h]; exact k
@[go_sem] theorem fget_zero {v : LV} {vs : List LV} : fget (v :: vs) 0 = v := nr rfl
@[go_sem] theorem fget_succ {v : LV} {vs : List LV} {n : Nat} : fget (v :: vs) (n + 1) = fget vs n := nr rfl
@[go_sem] theorem fset_zero {v x : LV} {vs : List LV} : fset (v :: vs) 0 x = x :: vs := nr rfl
@[go_sem] theorem fset_succ {v x : LV} {vs : List LV} {n : Nat} : fset (v :: vs) (n + 1) x = v :: fset vs n x := nr rfl
@[go_sem] theorem fmask_t {v : LV} {vs : List LV} {m : List Bool} : fmask (true :: m) (v :: vs) = v :: fmask m vs := nr rfl
@[go_sem] theorem fmask_f {v : LV} {vs : List LV} {m : List Bool} : fmask (false :: m) (v :: vs) = .any :: fmask m vs := nr rfl
@[go_sem] theorem fmask_n {vs : List LV} : fmask [] vs = vs := nr rfl
@[go_sem] theorem ev_t {fr : List LV} {n : Nat} : AX.ev fr (.t n) = fget fr n := nr rfl
@[go_sem] theorem ev_c {fr : List LV} {v : LV} : AX.ev fr (.c v) = v := nr rfl
@[go_sem] theorem isOne_s {v : SV} : LV.isOne (.s v) = !v.isAgg := nr rfl
@[go_sem] theorem isOne_any : LV.isOne (.any) = false := nr rfl
@[go_sem] theorem isOne_agg {cs : List LV} : LV.isOne (.agg cs) = false := nr rfl
@[go_sem] theorem isOne_tup {vs : List SV} : LV.isOne (.tup vs) = false := nr rfl
@[go_sem] theorem isOne_full {xs : List SV} : LV.isOne (.full xs) = true := nr rfl
@[go_sem] theorem isOne_loc {b off : Nat} : LV.isOne (.loc b off) = true := nr rfl
@[go_sem] theorem isOne_sl {b off len sz : Nat} {c : Bool} : LV.isOne (.sl b off len sz c) = true := nr rfl
@[go_sem] theorem isOne_mp {b : Nat} : LV.isOne (.mp b) = true := nr rfl
@[go_sem] theorem isOne_fn {f : FuncId} {a b : List LV} : LV.isOne (.fn f a b) = true := nr rfl
@[go_sem] theorem optEv_some {fr : List LV} {x : AX} : optEv fr (some x) = some (x.ev fr) := nr rfl
@[go_sem] theorem optEv_none {fr : List LV} : optEv fr none = none := nr rfl
@[go_sem] theorem fgt_s {p : Nat -> Bool} {v : SV} : fgt p (.s v) = .s v := nr rfl
@[go_sem] theorem fgt_any {p : Nat -> Bool} : fgt p (.any) = .any := nr rfl
@[go_sem] theorem fgt_full {p : Nat -> Bool} {xs : List SV} : fgt p (.full xs) = .full xs := nr rfl
@[go_sem] theorem fgt_tup {p : Nat -> Bool} {vs : List SV} : fgt p (.tup vs) = .tup vs := nr rfl
@[go_sem] theorem fgt_loc {p : Nat -> Bool} {b off : Nat} : fgt p (.loc b off) = if p b then .any else .loc b off := nr rfl
@[go_sem] theorem fgt_sl {p : Nat -> Bool} {b off len sz : Nat} {c : Bool} : fgt p (.sl b off len sz c) = if p b then .any else .sl b off len sz c := nr rfl
@[go_sem] theorem fgt_mp {p : Nat -> Bool} {b : Nat} : fgt p (.mp b) = if p b then .any else .mp b := nr rfl
@[go_sem] theorem fgt_agg {p : Nat -> Bool} {cs : List LV} : fgt p (.agg cs) = .agg (fgtL p cs) := nr rfl
@[go_sem] theorem fgt_fn {p : Nat -> Bool} {f : FuncId} {a b : List LV} : fgt p (.fn f a b) = .fn f (fgtL p a) (fgtL p b) := nr rfl
@[go_sem] theorem fgtL_nil {p : Nat -> Bool} : fgtL p [] = [] := nr rfl
@[go_sem] theorem fgtL_cons {p : Nat -> Bool} {c : LV} {cs : List LV} : fgtL p (c :: cs) = fgt p c :: fgtL p cs := nr rfl
@[go_sem] theorem fgtL_append {p : Nat -> Bool} : ∀ (cs ds : List LV), fgtL p (cs ++ ds) = fgtL p cs ++ fgtL p ds
 | [], _ => rfl
 | c :: cs, ds => by simp only [List.cons_append, fgtL_cons, fgtL_append cs ds]
@[go_sem] theorem fgtL_map_s {p : Nat -> Bool} : ∀ (cs : List SV), fgtL p (cs.map .s) = cs.map .s
 | [] => rfl
 | c :: cs => by simp only [List.map_cons, fgtL_cons, fgt_s, fgtL_map_s cs]
@[go_sem] theorem fgtB_obj {p : Nat -> Bool} {cs : List LV} : fgtB p (.obj cs) = .obj (fgtL p cs) := nr rfl
@[go_sem] theorem fgtB_row {p : Nat -> Bool} {cs : List SV} : fgtB p (.row cs) = .row cs := nr rfl
@[go_sem] theorem fgtB_frz {p : Nat -> Bool} {cs : List SV} : fgtB p (.frz cs) = .frz cs := nr rfl
@[go_sem] theorem fgtB_map {p : Nat -> Bool} {ks vs : List SV} : fgtB p (.map ks vs) = .map ks vs := nr rfl
@[go_sem] theorem fgtB_frzm {p : Nat -> Bool} {ks vs : List SV} : fgtB p (.frzm ks vs) = .frzm ks vs := nr rfl
@[go_sem] theorem fgtB_mit {p : Nat -> Bool} {left : List (SV × SV)} {last : Option (SV × SV)} : fgtB p (.mit left last) = .mit left last := nr rfl
@[go_sem] theorem fgtB_gone {p : Nat -> Bool} : fgtB p (.gone) = .gone := nr rfl
@[go_sem] theorem frzAll_nil {g : LV -> Option SV} : frzAll g [] = some [] := nr rfl
@[go_sem] theorem frzAll_cons {g : LV -> Option SV} {c : LV} {cs : List LV} : frzAll g (c :: cs) = (g c).bind fun a => (frzAll g cs).map fun as => a :: as := by
 simp only [frzAll]; cases g c with
 | none => rfl
 | some a => cases frzAll g cs <;> rfl
@[go_sem] theorem frzAll_append {g : LV -> Option SV} : ∀ (cs ds : List LV), frzAll g (cs ++ ds) = (frzAll g cs).bind fun a => (frzAll g ds).map fun b => a ++ b
 | [], ds => by simp [frzAll]
 | c :: cs, ds => by
  simp only [List.cons_append, frzAll_cons, frzAll_append cs ds]
  cases g c <;> cases frzAll g cs <;> cases frzAll g ds <;> simp
@[go_sem] theorem frzAll_map_s {H : List ABlock} {n : Nat} : ∀ (cs : List SV), frzAll (frzV H (n + 1)) (cs.map .s) = some cs
 | [] => rfl
 | c :: cs => by
  have h : frzV H (n + 1) (.s c) = some c := by simp only [frzV]
  simp only [List.map_cons, frzAll_cons, frzAll_map_s cs, h]; rfl
@[go_sem] theorem frz_def {H : List ABlock} {v : LV} : frz H v = frzV H 4 v := nr rfl
@[go_sem] theorem frz_def' {H : List ABlock} : frz H = frzV H 4 := nr rfl
@[go_sem] theorem frzV_s {H : List ABlock} {n : Nat} {v : SV} : frzV H (n + 1) (.s v) = some v := nr rfl
@[go_sem] theorem frzV_full {H : List ABlock} {n : Nat} {xs : List SV} : frzV H (n + 1) (.full xs) = some (.slice xs) := nr rfl
@[go_sem] theorem frzV_agg {H : List ABlock} {n : Nat} {cs : List LV} : frzV H (n + 1) (.agg cs) = (frzAll (frzV H n) cs).map .agg := nr rfl
@[go_sem] theorem frzV_fn {H : List ABlock} {n : Nat} {f : FuncId} {a b : List LV} : frzV H (n + 1) (.fn f a b) = (frzAll (frzV H n) a).bind fun x => (frzAll (frzV H n) b).map fun y => .fn f x y := by
 simp only [frzV]; cases frzAll (frzV H n) a <;> cases frzAll (frzV H n) b <;> rfl
def ptrOf (off : Nat) (cs : List SV) : Option SV := if off <= cs.length then some (.ptr (cs.drop off)) else none
def sliceOf (off len sz : Nat) (cs : List SV) : Option SV := if off + len * sz <= cs.length then some (.slice (elems sz len (cs.drop off))) else none
@[go_sem] theorem frzV_loc {H : List ABlock} {n b off : Nat} : frzV H (n + 1) (.loc b off) = (blkCells (frzV H n) H[b]?).bind (ptrOf off) := by
 simp only [frzV]
 cases hb : H[b]? with
 | none => rfl
 | some B => cases B <;> simp only [blkCells, ptrOf, Option.bind] <;> (try rfl) <;> (rename_i cs; cases frzAll (frzV H n) cs <;> rfl)
@[go_sem] theorem frzV_sl {H : List ABlock} {n b off len sz : Nat} {c : Bool} : frzV H (n + 1) (.sl b off len sz c) = (blkCells (frzV H n) H[b]?).bind (sliceOf off len sz) := by
 simp only [frzV]
 cases hb : H[b]? with
 | none => rfl
 | some B => cases B <;> simp only [blkCells, sliceOf, Option.bind] <;> (try rfl) <;> (rename_i cs; cases frzAll (frzV H n) cs <;> rfl)
@[go_sem] theorem ptrOf_zero {cs : List SV} : ptrOf 0 cs = some (.ptr cs) := nr (by simp [ptrOf])
@[go_sem] theorem elems_one {n : Nat} {cs : List SV} : elems 1 n cs = cs.take n := nr (by simp [elems])
theorem sliceOf_all {len : Nat} {cs : List SV} (h : len = cs.length) : sliceOf 0 len 1 cs = some (.slice cs) := by
 subst h; simp [sliceOf, elems]
@[go_sem] theorem blk_obj {g : LV -> Option SV} {cs : List LV} : blkCells g (some (.obj cs)) = frzAll g cs := nr rfl
@[go_sem] theorem blk_row {g : LV -> Option SV} {cs : List SV} : blkCells g (some (.row cs)) = some cs := nr rfl
@[go_sem] theorem blk_frz {g : LV -> Option SV} {cs : List SV} : blkCells g (some (.frz cs)) = some cs := nr rfl
@[go_sem] theorem elemsOf_s {H : List ABlock} {xs : List SV} : elemsOf H (.s (.slice xs)) = some xs := nr rfl
@[go_sem] theorem elemsOf_full {H : List ABlock} {xs : List SV} : elemsOf H (.full xs) = some xs := nr rfl
@[go_sem] theorem elemsOf_sl {H : List ABlock} {b off len sz : Nat} {c : Bool} : elemsOf H (.sl b off len sz c) = (blkCells (frz []) H[b]?).bind (rowOf off len sz) := nr rfl
@[go_sem] theorem isAgg_bool {b : Bool} : SV.isAgg (.bool b) = false := nr rfl
@[go_sem] theorem cells_bool {b : Bool} : SV.cells (.bool b) = [.bool b] := nr rfl
@[go_sem] theorem flat_bool {b : Bool} : SV.flat (.bool b) = true := nr rfl
@[go_sem] theorem flat1_bool {b : Bool} : SV.flat1 (.bool b) = true := nr rfl
@[go_sem] theorem isAgg_int {K : IntKind} {n : Int} : SV.isAgg (.int K n) = false := nr rfl
@[go_sem] theorem cells_int {K : IntKind} {n : Int} : SV.cells (.int K n) = [.int K n] := nr rfl
@[go_sem] theorem flat_int {K : IntKind} {n : Int} : SV.flat (.int K n) = true := nr rfl
@[go_sem] theorem flat1_int {K : IntKind} {n : Int} : SV.flat1 (.int K n) = true := nr rfl
@[go_sem] theorem isAgg_str {s : ByteArray} : SV.isAgg (.str s) = false := nr rfl
@[go_sem] theorem cells_str {s : ByteArray} : SV.cells (.str s) = [.str s] := nr rfl
@[go_sem] theorem flat_str {s : ByteArray} : SV.flat (.str s) = true := nr rfl
@[go_sem] theorem flat1_str {s : ByteArray} : SV.flat1 (.str s) = true := nr rfl
@[go_sem] theorem isAgg_slice {xs : List SV} : SV.isAgg (.slice xs) = false := nr rfl
@[go_sem] theorem cells_slice {xs : List SV} : SV.cells (.slice xs) = [.slice xs] := nr rfl
@[go_sem] theorem isAgg_ptr {cs : List SV} : SV.isAgg (.ptr cs) = false := nr rfl
@[go_sem] theorem cells_ptr {cs : List SV} : SV.cells (.ptr cs) = [.ptr cs] := nr rfl
@[go_sem] theorem flat_ptr {cs : List SV} : SV.flat (.ptr cs) = false := nr rfl
@[go_sem] theorem flat1_ptr {cs : List SV} : SV.flat1 (.ptr cs) = false := nr rfl
@[go_sem] theorem isAgg_nilp : SV.isAgg (.nilp) = false := nr rfl
@[go_sem] theorem cells_nilp : SV.cells (.nilp) = [.nilp] := nr rfl
@[go_sem] theorem flat_nilp : SV.flat (.nilp) = true := nr rfl
@[go_sem] theorem flat1_nilp : SV.flat1 (.nilp) = true := nr rfl
@[go_sem] theorem isAgg_fn {f : FuncId} {a c : List SV} : SV.isAgg (.fn f a c) = false := nr rfl
@[go_sem] theorem cells_fn {f : FuncId} {a c : List SV} : SV.cells (.fn f a c) = [.fn f a c] := nr rfl
@[go_sem] theorem flat_fn {f : FuncId} {a c : List SV} : SV.flat (.fn f a c) = false := nr rfl
@[go_sem] theorem flat1_fn {f : FuncId} {a c : List SV} : SV.flat1 (.fn f a c) = false := nr rfl
@[go_sem] theorem isAgg_map {a c : List SV} : SV.isAgg (.map a c) = false := nr rfl
@[go_sem] theorem cells_map {a c : List SV} : SV.cells (.map a c) = [.map a c] := nr rfl
@[go_sem] theorem flat_map {a c : List SV} : SV.flat (.map a c) = false := nr rfl
@[go_sem] theorem flat1_map {a c : List SV} : SV.flat1 (.map a c) = false := nr rfl
@[go_sem] theorem isAgg_nili : SV.isAgg (.nili) = false := nr rfl
@[go_sem] theorem cells_nili : SV.cells (.nili) = [.nili] := nr rfl
@[go_sem] theorem flat_nili : SV.flat (.nili) = true := nr rfl
@[go_sem] theorem flat1_nili : SV.flat1 (.nili) = true := nr rfl
@[go_sem] theorem flat_slice_nil : SV.flat (.slice []) = true := nr rfl
@[go_sem] theorem flat1_slice_nil : SV.flat1 (.slice []) = true := nr rfl
@[go_sem] theorem flat_slice_cons {x : SV} {xs : List SV} : SV.flat (.slice (x :: xs)) = false := nr rfl
@[go_sem] theorem flat1_slice_cons {x : SV} {xs : List SV} : SV.flat1 (.slice (x :: xs)) = false := nr rfl
@[go_sem] theorem isAgg_agg {cs : List SV} : SV.isAgg (.agg cs) = true := nr rfl
@[go_sem] theorem cells_agg {cs : List SV} : SV.cells (.agg cs) = cs := nr rfl
@[go_sem] theorem flat_agg {cs : List SV} : SV.flat (.agg cs) = cs.all SV.flat1 := nr rfl
@[go_sem] theorem lisAgg_s {v : SV} : LV.isAgg (.s v) = v.isAgg := nr rfl
@[go_sem] theorem lisAgg_agg {cs : List LV} : LV.isAgg (.agg cs) = true := nr rfl
@[go_sem] theorem lisAgg_loc {b o : Nat} : LV.isAgg (.loc b o) = false := nr rfl
@[go_sem] theorem lcells_loc {b o : Nat} : LV.cells (.loc b o) = some [.loc b o] := nr rfl
@[go_sem] theorem lisAgg_sl {b o l z : Nat} {c : Bool} : LV.isAgg (.sl b o l z c) = false := nr rfl
@[go_sem] theorem lcells_sl {b o l z : Nat} {c : Bool} : LV.cells (.sl b o l z c) = some [.sl b o l z c] := nr rfl
@[go_sem] theorem lisAgg_full {xs : List SV} : LV.isAgg (.full xs) = false := nr rfl
@[go_sem] theorem lcells_full {xs : List SV} : LV.cells (.full xs) = some [.full xs] := nr rfl
@[go_sem] theorem lisAgg_fn {f : FuncId} {a c : List LV} : LV.isAgg (.fn f a c) = false := nr rfl
@[go_sem] theorem lcells_fn {f : FuncId} {a c : List LV} : LV.cells (.fn f a c) = some [.fn f a c] := nr rfl
@[go_sem] theorem lisAgg_mp {b : Nat} : LV.isAgg (.mp b) = false := nr rfl
@[go_sem] theorem lcells_mp {b : Nat} : LV.cells (.mp b) = some [.mp b] := nr rfl
@[go_sem] theorem lisAgg_any : LV.isAgg (.any) = false := nr rfl
@[go_sem] theorem lcells_s {v : SV} : LV.cells (.s v) = some (v.cells.map .s) := nr rfl
@[go_sem] theorem lcells_agg {cs : List LV} : LV.cells (.agg cs) = some cs := nr rfl
@[go_sem] theorem ofRes_one {v : SV} : LV.ofResults [v] = .s v := nr rfl
@[go_sem] theorem ofRes_two {v u : SV} {vs : List SV} : LV.ofResults (v :: u :: vs) = .tup (v :: u :: vs) := nr rfl
@[go_sem] theorem ofRes_nil : LV.ofResults [] = .tup [] := nr rfl
def selS (H : List ABlock) (k : AK) (o : Option SV) : Prop := exO o fun c => c.isAgg = false /\ k (.s c) H none True
@[go_sem] theorem selS_0 {H : List ABlock} {k : AK} {c : SV} : (selS H k (some c)) = (c.isAgg = false /\ k (.s c) H none True) := propext Iff.rfl
def selL (H : List ABlock) (k : AK) (o : Option LV) : Prop := exO o fun c => c.isAgg = false /\ k c H none True
@[go_sem] theorem selL_0 {H : List ABlock} {k : AK} {c : LV} : (selL H k (some c)) = (c.isAgg = false /\ k c H none True) := propext Iff.rfl
@[go_sem] theorem partS_t {H : List ABlock} {k : AK} {cs : List SV} {off n : Nat} : (partS H cs off n k true) = (off + n <= cs.length /\ k (.s (.agg ((cs.drop off).take n))) H none True) := propext Iff.rfl
@[go_sem] theorem partS_f {H : List ABlock} {k : AK} {cs : List SV} {off n : Nat} : (partS H cs off n k false) = (selS H k cs[off]?) := propext Iff.rfl
@[go_sem] theorem partL_t {H : List ABlock} {k : AK} {cs : List LV} {off n : Nat} : (partL H cs off n k true) = (off + n <= cs.length /\ k (.agg ((cs.drop off).take n)) H none True) := propext Iff.rfl
@[go_sem] theorem partL_f {H : List ABlock} {k : AK} {cs : List LV} {off n : Nat} : (partL H cs off n k false) = (selL H k cs[off]?) := propext Iff.rfl
@[go_sem] theorem ldB_obj {H : List ABlock} {k : AK} {cs : List LV} {off n : Nat} {g : Bool} : (ldB H off n g k (some (.obj cs))) = (partL H cs off n k g) := propext Iff.rfl
@[go_sem] theorem ldB_row {H : List ABlock} {k : AK} {cs : List SV} {off n : Nat} {g : Bool} : (ldB H off n g k (some (.row cs))) = (partS H cs off n k g) := propext Iff.rfl
@[go_sem] theorem ldB_frz {H : List ABlock} {k : AK} {cs : List SV} {off n : Nat} {g : Bool} : (ldB H off n g k (some (.frz cs))) = (partS H cs off n k g) := propext Iff.rfl
@[go_sem] theorem ldK_ptr {H : List ABlock} {k : AK} {cs : List SV} {n : Nat} {g : Bool} : (ldK H n g k (.s (.ptr cs))) = (partS H cs 0 n k g) := propext Iff.rfl
@[go_sem] theorem ldK_loc {H : List ABlock} {k : AK} {b off n : Nat} {g : Bool} : (ldK H n g k (.loc b off)) = (ldB H off n g k H[b]?) := propext Iff.rfl
def stX (H : List ABlock) (k : AK) (b : Nat) (off : Nat) (n : Nat) (cs : List LV) (o : Option (List LV)) : Prop := exO o fun xs => xs.length = n /\ off + n <= cs.length /\ k (.tup []) (H.set b (.obj (splice cs off xs))) none True
@[go_sem] theorem stX_0 {H : List ABlock} {k : AK} {b : Nat} {off : Nat} {n : Nat} {cs : List LV} {xs : List LV} : (stX H k b off n cs (some xs)) = (xs.length = n /\ off + n <= cs.length /\ k (.tup []) (H.set b (.obj (splice cs off xs))) none True) := propext Iff.rfl
def stY (H : List ABlock) (k : AK) (b : Nat) (off : Nat) (n : Nat) (cs : List SV) (o : Option SV) : Prop := exO o fun v => v.cells.length = n /\ off + n <= cs.length /\ k (.tup []) (H.set b (.row (splice cs off v.cells))) none True
@[go_sem] theorem stY_0 {H : List ABlock} {k : AK} {b : Nat} {off : Nat} {n : Nat} {cs : List SV} {v : SV} : (stY H k b off n cs (some v)) = (v.cells.length = n /\ off + n <= cs.length /\ k (.tup []) (H.set b (.row (splice cs off v.cells))) none True) := propext Iff.rfl
@[go_sem] theorem stB_obj {H : List ABlock} {k : AK} {b off n : Nat} {x : LV} {cs : List LV} : (stB H b off n x k (some (.obj cs))) = (stX H k b off n cs x.cells) := propext Iff.rfl
@[go_sem] theorem stB_row {H : List ABlock} {k : AK} {b off n : Nat} {x : LV} {cs : List SV} : (stB H b off n x k (some (.row cs))) = (stY H k b off n cs (frz [] x)) := propext Iff.rfl
@[go_sem] theorem stK_loc {H : List ABlock} {k : AK} {b off n : Nat} {x : LV} : (stK H n x k (.loc b off)) = (stB H b off n x k H[b]?) := propext Iff.rfl
def pickC (H : List ABlock) (k : AK) (a b : LV) (t : Bool) : Prop := bsplit (k a H none True) (k b H none True) t
@[go_sem] theorem pickC_dec {H : List ABlock} {k : AK} {a b : LV} {p : Prop} [Decidable p] : (pickC H k a b (decide p)) = ((p -> k a H none True) /\ (¬ p -> k b H none True)) := by
 unfold pickC; by_cases h : p <;> simp [h, bsplit]
@[go_sem] theorem pickC_not {H : List ABlock} {k : AK} {a b : LV} {t : Bool} : pickC H k a b (!t) = pickC H k b a t := by unfold pickC; cases t <;> rfl
@[go_sem] theorem pickC_t {H : List ABlock} {k : AK} {a b : LV} : (pickC H k a b true) = (k a H none True) := propext Iff.rfl
@[go_sem] theorem pickC_f {H : List ABlock} {k : AK} {a b : LV} : (pickC H k a b false) = (k b H none True) := propext Iff.rfl
@[go_sem] theorem pickK_b {H : List ABlock} {k : AK} {a b : LV} {t : Bool} : (pickK H a b k (.s (.bool t))) = (pickC H k a b t) := propext Iff.rfl
@[go_sem] theorem nilckK_ptr {H : List ABlock} {k : AK} {cs : List SV} : (nilckK H k (.s (.ptr cs))) = (k (.s (.ptr cs)) H none True) := propext Iff.rfl
@[go_sem] theorem nilckK_loc {H : List ABlock} {k : AK} {b o : Nat} : (nilckK H k (.loc b o)) = (k (.loc b o) H none True) := propext Iff.rfl
@[go_sem] theorem arithI_add {H : List ABlock} {k : AK} {K : IntKind} {a b : Int} : (arithI H K a b k .add) = (inR K (a + b) /\ k (.s (.int K (a + b))) H none True) := propext Iff.rfl
@[go_sem] theorem arithI_sub {H : List ABlock} {k : AK} {K : IntKind} {a b : Int} : (arithI H K a b k .sub) = (inR K (a - b) /\ k (.s (.int K (a - b))) H none True) := propext Iff.rfl
@[go_sem] theorem arithI_mul {H : List ABlock} {k : AK} {K : IntKind} {a b : Int} : (arithI H K a b k .mul) = (inR K (a * b) /\ k (.s (.int K (a * b))) H none True) := propext Iff.rfl
@[go_sem] theorem arithK_i {H : List ABlock} {k : AK} {K K' : IntKind} {a b : Int} {op : BinOp} : (arithK H op k (.s (.int K a)) (.s (.int K' b))) = (K = K' /\ arithI H K a b k op) := propext Iff.rfl
@[go_sem] theorem divI_quo {H : List ABlock} {k : AK} {K : IntKind} {a b : Int} : (divI H K a b k .quo) = (inR K (a.tdiv b) /\ k (.s (.int K (a.tdiv b))) H none True) := propext Iff.rfl
@[go_sem] theorem divI_rem {H : List ABlock} {k : AK} {K : IntKind} {a b : Int} : (divI H K a b k .rem) = (k (.s (.int K (a.tmod b))) H none True) := propext Iff.rfl
@[go_sem] theorem divK_i {H : List ABlock} {k : AK} {K K' : IntKind} {a b : Int} {op : BinOp} : (divK H op k (.s (.int K a)) (.s (.int K' b))) = (K = K' /\ b ≠ 0 /\ divI H K a b k op) := propext Iff.rfl
@[go_sem] theorem bitsK_i {H : List ABlock} {k : AK} {K K' : IntKind} {a b : Int} {op : BinOp} : (bitsK H op k (.s (.int K a)) (.s (.int K' b))) = (K = K' /\ k (.s (.int K (bitOf K a b op))) H none True) := propext Iff.rfl
@[go_sem] theorem shiftI_shl {H : List ABlock} {k : AK} {K : IntKind} {a b : Int} : (shiftI H K a b k .shl) = (inR K (a * 2 ^ b.toNat) /\ k (.s (.int K (a * 2 ^ b.toNat))) H none True) := propext Iff.rfl
@[go_sem] theorem shiftI_shr {H : List ABlock} {k : AK} {K : IntKind} {a b : Int} : (shiftI H K a b k .shr) = (k (.s (.int K (a.fdiv (2 ^ b.toNat)))) H none True) := propext Iff.rfl
@[go_sem] theorem shiftK_i {H : List ABlock} {k : AK} {K K' : IntKind} {a b : Int} {op : BinOp} : (shiftK H op k (.s (.int K a)) (.s (.int K' b))) = (0 <= b /\ b < K.bits /\ shiftI H K a b k op) := propext Iff.rfl
@[go_sem] theorem cmpI_lss {H : List ABlock} {k : AK} {a b : Int} : (cmpI H a b k .lss) = (k (.s (.bool (decide (a < b)))) H none True) := propext Iff.rfl
@[go_sem] theorem cmpI_leq {H : List ABlock} {k : AK} {a b : Int} : (cmpI H a b k .leq) = (k (.s (.bool (decide (a <= b)))) H none True) := propext Iff.rfl
@[go_sem] theorem cmpI_gtr {H : List ABlock} {k : AK} {a b : Int} : (cmpI H a b k .gtr) = (k (.s (.bool (decide (b < a)))) H none True) := propext Iff.rfl
@[go_sem] theorem cmpI_geq {H : List ABlock} {k : AK} {a b : Int} : (cmpI H a b k .geq) = (k (.s (.bool (decide (b <= a)))) H none True) := propext Iff.rfl
@[go_sem] theorem cmpI_eql {H : List ABlock} {k : AK} {a b : Int} : (cmpI H a b k .eql) = (k (.s (.bool (decide (a = b)))) H none True) := propext Iff.rfl
@[go_sem] theorem cmpI_neq {H : List ABlock} {k : AK} {a b : Int} : (cmpI H a b k .neq) = (k (.s (.bool (!decide (a = b)))) H none True) := propext Iff.rfl
@[go_sem] theorem cmpK_i {H : List ABlock} {k : AK} {K K' : IntKind} {a b : Int} {op : BinOp} : (cmpK H op k (.s (.int K a)) (.s (.int K' b))) = (K = K' /\ cmpI H a b k op) := propext Iff.rfl
open Classical in
@[go_sem] theorem eqlR_t {H : List ABlock} {k : AK} {a b : SV} : (eqlR H a b k true) = (k (.s (.bool (!decide (a = b)))) H none True) := propext Iff.rfl
open Classical in
@[go_sem] theorem eqlR_f {H : List ABlock} {k : AK} {a b : SV} : (eqlR H a b k false) = (k (.s (.bool (decide (a = b)))) H none True) := propext Iff.rfl
noncomputable def eqlC (H : List ABlock) (ag : Bool) (ts : List Tag) (k : AK) (ne : Bool) (x y : Option SV) : Prop := exO x fun a => exO y fun b => eqOk ts ag a b /\ eqlR H a b k ne
@[go_sem] theorem eqlC_ss {H : List ABlock} {k : AK} {ag : Bool} {ts : List Tag} {ne : Bool} {a b : SV} : (eqlC H ag ts k ne (some a) (some b)) = (eqOk ts ag a b /\ eqlR H a b k ne) := propext Iff.rfl
@[go_sem] theorem eqlK_def {H : List ABlock} {k : AK} {ag : Bool} {ts : List Tag} {ne : Bool} {x y : LV} : (eqlK H ag ts ne k x y) = (eqlC H ag ts k ne (frz H x) (frz H y)) := propext Iff.rfl
@[go_sem] theorem tag_bool {b : Bool} : SV.tag (.bool b) = .bool := nr rfl
@[go_sem] theorem tag_int {k : IntKind} {n : Int} : SV.tag (.int k n) = .int k := nr rfl
@[go_sem] theorem tag_str {s : ByteArray} : SV.tag (.str s) = .str := nr rfl
@[go_sem] theorem tag_nilp : SV.tag (.nilp) = .other := nr rfl
@[go_sem] theorem tag_nili : SV.tag (.nili) = .other := nr rfl
@[go_sem] theorem eqOk_t {ts : List Tag} {cs ds : List SV} : (eqOk ts true (.agg cs) (.agg ds)) = (cs.map SV.tag = ts /\ ds.map SV.tag = ts) := propext Iff.rfl
@[go_sem] theorem eqOk_f {ts : List Tag} {a b : SV} : (eqOk ts false a b) = ([a.tag] = ts /\ [b.tag] = ts) := by cases a <;> cases b <;> rfl
@[go_sem] theorem notK_b {H : List ABlock} {k : AK} {b : Bool} : (notK H k (.s (.bool b))) = (k (.s (.bool (!b))) H none True) := propext Iff.rfl
@[go_sem] theorem negK_i {H : List ABlock} {k : AK} {K : IntKind} {n : Int} : (negK H k (.s (.int K n))) = (inR K (0 - n) /\ k (.s (.int K (-n))) H none True) := propext Iff.rfl
@[go_sem] theorem convK_i {H : List ABlock} {k : AK} {K K' : IntKind} {n : Int} : (convK H K k (.s (.int K' n))) = (inR K n /\ k (.s (.int K n)) H none True) := propext Iff.rfl
@[go_sem] theorem boundOf_none {d : Nat} : boundOf d none = some d := nr rfl
@[go_sem] theorem boundOf_int {d : Nat} {K : IntKind} {n : Int} : boundOf d (some (.s (.int K n))) = if 0 <= n then some n.toNat else none := nr rfl
@[go_sem] theorem boundOf_nat {d n : Nat} {K : IntKind} : boundOf d (some (.s (.int K (n : Int)))) = some n := nr (by simp [boundOf])
@[go_sem] theorem szAt_zero {sz : Nat} {xs : List SV} : szAt sz 0 xs = True := nr (by simp [szAt])
@[go_sem] theorem sliceM_none {H : List ABlock} {k : AK} {h : Nat} {a b : LV} : (sliceM H h a b k none) = (k a H none True) := propext Iff.rfl
@[go_sem] theorem sliceM_some {H : List ABlock} {k : AK} {h : Nat} {a b m : LV} : (sliceM H h a b k (some m)) = (boundOf 0 (some m) = some h /\ k b H none True) := propext Iff.rfl
def slcS (H : List ABlock) (k : AK) (sz : Nat) (xs : List SV) (mx : Option LV) (l : Option Nat) (h : Option Nat) : Prop := exO l fun l => exO h fun h => l <= h /\ h <= xs.length /\ szAt sz l xs /\ sliceM H h (.s (.slice ((xs.drop l).take (h - l)))) (.full ((xs.drop l).take (h - l))) k mx
@[go_sem] theorem slcS_0 {H : List ABlock} {k : AK} {sz : Nat} {xs : List SV} {mx : Option LV} {l h : Nat} : (slcS H k sz xs mx (some l) (some h)) = (l <= h /\ h <= xs.length /\ szAt sz l xs /\ sliceM H h (.s (.slice ((xs.drop l).take (h - l)))) (.full ((xs.drop l).take (h - l))) k mx) := propext Iff.rfl
def slcF (H : List ABlock) (k : AK) (sz : Nat) (xs : List SV) (mx : Option LV) (l : Option Nat) (h : Option Nat) : Prop := exO l fun l => exO h fun h => l <= h /\ h <= xs.length /\ szAt sz l xs /\ sliceM H h (if h = xs.length then .full (xs.drop l) else .s (.slice ((xs.drop l).take (h - l)))) (.full ((xs.drop l).take (h - l))) k mx
@[go_sem] theorem slcF_0 {H : List ABlock} {k : AK} {sz : Nat} {xs : List SV} {mx : Option LV} {l h : Nat} : (slcF H k sz xs mx (some l) (some h)) = (l <= h /\ h <= xs.length /\ szAt sz l xs /\ sliceM H h (if h = xs.length then .full (xs.drop l) else .s (.slice ((xs.drop l).take (h - l)))) (.full ((xs.drop l).take (h - l))) k mx) := propext Iff.rfl
def slcL (H : List ABlock) (k : AK) (b : Nat) (off : Nat) (len : Nat) (sz : Nat) (c : Bool) (mx : Option LV) (l : Option Nat) (h : Option Nat) : Prop := exO l fun l => exO h fun h => l <= h /\ h <= len /\ sliceM H h (.sl b (off + l * sz) (h - l) sz (c && decide (h = len))) (.sl b (off + l * sz) (h - l) sz true) k mx
@[go_sem] theorem slcL_0 {H : List ABlock} {k : AK} {b : Nat} {off : Nat} {len : Nat} {sz : Nat} {c : Bool} {mx : Option LV} {l h : Nat} : (slcL H k b off len sz c mx (some l) (some h)) = (l <= h /\ h <= len /\ sliceM H h (.sl b (off + l * sz) (h - l) sz (c && decide (h = len))) (.sl b (off + l * sz) (h - l) sz true) k mx) := propext Iff.rfl
def slcA (H : List ABlock) (k : AK) (n : Nat) (sz : Nat) (cs : List SV) (l : Option Nat) (h : Option Nat) : Prop := exO l fun l => exO h fun h => l <= h /\ h <= n /\ 0 < n /\ 0 < sz /\ n <= maxLen /\ n * sz <= cs.length /\ k (if h = n then .full (elems sz (h - l) (cs.drop (l * sz))) else .s (.slice (elems sz (h - l) (cs.drop (l * sz))))) H none True
@[go_sem] theorem slcA_0 {H : List ABlock} {k : AK} {n : Nat} {sz : Nat} {cs : List SV} {l h : Nat} : (slcA H k n sz cs (some l) (some h)) = (l <= h /\ h <= n /\ 0 < n /\ 0 < sz /\ n <= maxLen /\ n * sz <= cs.length /\ k (if h = n then .full (elems sz (h - l) (cs.drop (l * sz))) else .s (.slice (elems sz (h - l) (cs.drop (l * sz))))) H none True) := propext Iff.rfl
def slcO (H : List ABlock) (k : AK) (n : Nat) (sz : Nat) (b : Nat) (off : Nat) (l : Option Nat) (h : Option Nat) : Prop := exO l fun l => exO h fun h => l <= h /\ h <= n /\ 0 < n /\ 0 < sz /\ n <= maxLen /\ arrFits (off + n * sz) H[b]? /\ k (.sl b (off + l * sz) (h - l) sz (decide (h = n))) H none True
@[go_sem] theorem slcO_0 {H : List ABlock} {k : AK} {n : Nat} {sz : Nat} {b : Nat} {off : Nat} {l h : Nat} : (slcO H k n sz b off (some l) (some h)) = (l <= h /\ h <= n /\ 0 < n /\ 0 < sz /\ n <= maxLen /\ arrFits (off + n * sz) H[b]? /\ k (.sl b (off + l * sz) (h - l) sz (decide (h = n))) H none True) := propext Iff.rfl
@[go_sem] theorem sliceK_s {H : List ABlock} {k : AK} {sz : Nat} {lo hi mx : Option LV} {xs : List SV} : (sliceK H sz lo hi mx k (.s (.slice xs))) = (slcS H k sz xs mx (boundOf 0 lo) (boundOf xs.length hi)) := by unfold sliceK slcS; congr
@[go_sem] theorem sliceK_full {H : List ABlock} {k : AK} {sz : Nat} {lo hi mx : Option LV} {xs : List SV} : (sliceK H sz lo hi mx k (.full xs)) = (slcF H k sz xs mx (boundOf 0 lo) (boundOf xs.length hi)) := by unfold sliceK slcF; congr
@[go_sem] theorem sliceK_sl {H : List ABlock} {k : AK} {sz b off len sz' : Nat} {c : Bool} {lo hi mx : Option LV} : (sliceK H sz lo hi mx k (.sl b off len sz' c)) = (sz = sz' /\ slcL H k b off len sz c mx (boundOf 0 lo) (boundOf len hi)) := by unfold sliceK slcL; congr
@[go_sem] theorem sliceArrK_ptr {H : List ABlock} {k : AK} {n sz : Nat} {lo hi : Option LV} {cs : List SV} : (sliceArrK H n sz lo hi k (.s (.ptr cs))) = (slcA H k n sz cs (boundOf 0 lo) (boundOf n hi)) := by unfold sliceArrK slcA; congr
@[go_sem] theorem sliceArrK_loc {H : List ABlock} {k : AK} {n sz b off : Nat} {lo hi : Option LV} : (sliceArrK H n sz lo hi k (.loc b off)) = (slcO H k n sz b off (boundOf 0 lo) (boundOf n hi)) := by unfold sliceArrK slcO; congr
@[go_sem] theorem arrFits_obj {n : Nat} {cs : List LV} : (arrFits n (some (.obj cs))) = (n <= cs.length) := propext Iff.rfl
@[go_sem] theorem arrFits_row {n : Nat} {cs : List SV} : (arrFits n (some (.row cs))) = (n <= cs.length) := propext Iff.rfl
def idxR (H : List ABlock) (k : AK) (sz : Nat) (o : Option SV) : Prop := exO o fun e => e.cells.length = sz /\ k (.s (.ptr e.cells)) H none True
@[go_sem] theorem idxR_0 {H : List ABlock} {k : AK} {sz : Nat} {e : SV} : (idxR H k sz (some e)) = (e.cells.length = sz /\ k (.s (.ptr e.cells)) H none True) := propext Iff.rfl
@[go_sem] theorem idxAI_s {H : List ABlock} {k : AK} {sz : Nat} {n : Int} {xs : List SV} : (idxAI H sz n k (.s (.slice xs))) = (idxR H k sz xs[n.toNat]?) := propext Iff.rfl
@[go_sem] theorem lenK_s {H : List ABlock} {k : AK} {xs : List SV} : (lenK H k false (.s (.slice xs))) = (k (.s (.int .i64 xs.length)) H none (xs.length <= maxLen)) := propext Iff.rfl
@[go_sem] theorem idxAI_full {H : List ABlock} {k : AK} {sz : Nat} {n : Int} {xs : List SV} : (idxAI H sz n k (.full xs)) = (idxR H k sz xs[n.toNat]?) := propext Iff.rfl
@[go_sem] theorem lenK_full {H : List ABlock} {k : AK} {xs : List SV} : (lenK H k false (.full xs)) = (k (.s (.int .i64 xs.length)) H none (xs.length <= maxLen)) := propext Iff.rfl
@[go_sem] theorem idxAI_sl {H : List ABlock} {k : AK} {sz b off len sz' : Nat} {c : Bool} {n : Int} : (idxAI H sz n k (.sl b off len sz' c)) = (sz = sz' /\ n < len /\ k (.loc b (off + n.toNat * sz)) H none True) := propext Iff.rfl
@[go_sem] theorem lenK_sl {H : List ABlock} {k : AK} {b off len sz : Nat} {c : Bool} : (lenK H k false (.sl b off len sz c)) = (k (.s (.int .i64 len)) H none (len <= maxLen)) := propext Iff.rfl
@[go_sem] theorem lenK_str {H : List ABlock} {k : AK} {s : ByteArray} : (lenK H k true (.s (.str s))) = (k (.s (.int .i64 s.size)) H none True) := propext Iff.rfl
@[go_sem] theorem idxAK_i {H : List ABlock} {k : AK} {sz : Nat} {x : LV} {K : IntKind} {n : Int} : (idxAK H sz x k (.s (.int K n))) = (0 <= n /\ idxAI H sz n k x) := propext Iff.rfl
@[go_sem] theorem idxArrAI_ptr {H : List ABlock} {k : AK} {sz : Nat} {n : Int} {cs : List SV} : (idxArrAI H sz n k (.s (.ptr cs))) = (n.toNat * sz <= cs.length /\ k (.s (.ptr (cs.drop (n.toNat * sz)))) H none True) := propext Iff.rfl
@[go_sem] theorem idxArrAI_loc {H : List ABlock} {k : AK} {sz b off : Nat} {n : Int} : (idxArrAI H sz n k (.loc b off)) = (k (.loc b (off + n.toNat * sz)) H none True) := propext Iff.rfl
@[go_sem] theorem idxArrAK_i {H : List ABlock} {k : AK} {m sz : Nat} {x : LV} {K : IntKind} {n : Int} : (idxArrAK H m sz x k (.s (.int K n))) = (0 <= n /\ n < m /\ idxArrAI H sz n k x) := propext Iff.rfl
@[go_sem] theorem fieldAddrK_ptr {H : List ABlock} {k : AK} {off : Nat} {cs : List SV} : (fieldAddrK H off k (.s (.ptr cs))) = (off <= cs.length /\ k (.s (.ptr (cs.drop off))) H none True) := propext Iff.rfl
@[go_sem] theorem fieldAddrK_loc {H : List ABlock} {k : AK} {off b o : Nat} : (fieldAddrK H off k (.loc b o)) = (k (.loc b (o + off)) H none True) := propext Iff.rfl
@[go_sem] theorem partK_s {H : List ABlock} {k : AK} {off n : Nat} {g : Bool} {cs : List SV} : (partK H off n g k (.s (.agg cs))) = (partS H cs off n k g) := propext Iff.rfl
@[go_sem] theorem partK_agg {H : List ABlock} {k : AK} {off n : Nat} {g : Bool} {cs : List LV} : (partK H off n g k (.agg cs)) = (partL H cs off n k g) := propext Iff.rfl
@[go_sem] theorem idxK_i {H : List ABlock} {k : AK} {m sz : Nat} {g : Bool} {x : LV} {K : IntKind} {n : Int} : (idxK H m sz g x k (.s (.int K n))) = (0 <= n /\ n < m /\ partK H (n.toNat * sz) sz g k x) := propext Iff.rfl
def extR (H : List ABlock) (k : AK) (o : Option SV) : Prop := exO o fun v => k (.s v) H none True
@[go_sem] theorem extR_0 {H : List ABlock} {k : AK} {v : SV} : (extR H k (some v)) = (k (.s v) H none True) := propext Iff.rfl
@[go_sem] theorem extK_t {H : List ABlock} {k : AK} {j : Nat} {vs : List SV} : (extK H j k (.tup vs)) = (extR H k vs[j]?) := propext Iff.rfl
@[go_sem] theorem newRowK_nil {H : List ABlock} {k : AK} {i sz : Nat} {s : LV} {xs : List SV} : (newRowK H i sz s xs [] k) = (k s H none True) := by simp [newRowK]
@[go_sem] theorem newRowK_cons {H : List ABlock} {k : AK} {i sz : Nat} {s : LV} {xs ys : List SV} {y : SV} : (newRowK H i sz s xs (y :: ys) k) = (H[i]? = some .gone /\ k (.sl i 0 (xs.length + (y :: ys).length) sz false) (H.set i (.row (flatE (xs ++ y :: ys)))) none True) := by simp [newRowK]
def apF (H : List ABlock) (k : AK) (i : Nat) (sz : Nat) (bs : Nat) (xs : List SV) (o : Option (List SV)) : Prop := exO o fun ys => fitsE sz bs xs ys /\ newRowK H i sz (.full xs) xs ys k
@[go_sem] theorem apF_0 {H : List ABlock} {k : AK} {i : Nat} {sz : Nat} {bs : Nat} {xs : List SV} {ys : List SV} : (apF H k i sz bs xs (some ys)) = (fitsE sz bs xs ys /\ newRowK H i sz (.full xs) xs ys k) := propext Iff.rfl
def apC (H : List ABlock) (k : AK) (i : Nat) (sz : Nat) (bs : Nat) (s : LV) (o : Option (List SV)) (q : Option (List SV)) : Prop := exO o fun ys => exO q fun xs => fitsE sz bs xs ys /\ newRowK H i sz s xs ys k
@[go_sem] theorem apC_0 {H : List ABlock} {k : AK} {i : Nat} {sz : Nat} {bs : Nat} {s : LV} {xs ys : List SV} : (apC H k i sz bs s (some ys) (some xs)) = (fitsE sz bs xs ys /\ newRowK H i sz s xs ys k) := propext Iff.rfl
@[go_sem] theorem appendNK_full {H : List ABlock} {k : AK} {i sz bs : Nat} {x : LV} {xs : List SV} : (appendNK H i sz bs x k (.full xs)) = (apF H k i sz bs xs (elemsOf H x)) := propext Iff.rfl
@[go_sem] theorem appendNK_sl {H : List ABlock} {k : AK} {i sz bs : Nat} {x : LV} {b off len sz' : Nat} : (appendNK H i sz bs x k (.sl b off len sz' true)) = (sz = sz' /\ apC H k i sz bs (.sl b off len sz' true) (elemsOf H x) (elemsOf H (.sl b off len sz' true))) := propext Iff.rfl
@[go_sem] theorem appendB_row {H : List ABlock} {k : AK} {b off len sz bs : Nat} {ys cs : List SV} : (appendB H b off len sz bs ys k (some (.row cs))) = (off + len * sz = cs.length /\ (len + ys.length) * bs <= 2 ^ 46 /\ len + ys.length < 2 ^ 60 /\ k (.sl b 0 (len + ys.length) sz false) (H.set b (.row (cs.drop off ++ flatE ys))) (some b) True) := propext Iff.rfl
def apG (H : List ABlock) (k : AK) (b : Nat) (off : Nat) (len : Nat) (sz : Nat) (bs : Nat) (o : Option (List SV)) : Prop := exO o fun ys => (∀ y ∈ ys, y.cells.length = sz) /\ appendB H b off len sz bs ys k H[b]?
@[go_sem] theorem apG_0 {H : List ABlock} {k : AK} {b : Nat} {off : Nat} {len : Nat} {sz : Nat} {bs : Nat} {ys : List SV} : (apG H k b off len sz bs (some ys)) = ((∀ y ∈ ys, y.cells.length = sz) /\ appendB H b off len sz bs ys k H[b]?) := propext Iff.rfl
def frC (H : List ABlock) (k : AK) (b : Nat) (off : Nat) (len : Nat) (sz : Nat) (o : Option ABlock) : Prop := frzvB H b off len sz k o
@[go_sem] theorem frC_0 {H : List ABlock} {k : AK} {b : Nat} {off : Nat} {len : Nat} {sz : Nat} {cs : List SV} : (frC H k b off len sz (some (.row cs))) = (∃ ys, rowOf off len sz cs = some ys /\ k (.s (.slice ys)) (H.set b (.frz cs)) none True) := propext Iff.rfl
def apZ (H : List ABlock) (k : AK) (b : Nat) (off : Nat) (len : Nat) (sz : Nat) (bs : Nat) (o : Option (List SV)) : Prop := exO o fun ys => (∀ y ∈ ys, y.cells.length = sz) /\ appendZB H b off len sz bs ys k H[b]?
@[go_sem] theorem apZ_0 {H : List ABlock} {k : AK} {b : Nat} {off : Nat} {len : Nat} {sz : Nat} {bs : Nat} {ys : List SV} : (apZ H k b off len sz bs (some ys)) = ((∀ y ∈ ys, y.cells.length = sz) /\ appendZB H b off len sz bs ys k H[b]?) := propext Iff.rfl
def apV (H : List ABlock) (k : AK) (sz : Nat) (bs : Nat) (xs : List SV) (o : Option (List SV)) : Prop := exO o fun ys => fitsE sz bs xs ys /\ ys ≠ [] /\ k (.s (.slice (xs ++ ys))) H none True
@[go_sem] theorem apV_0 {H : List ABlock} {k : AK} {sz : Nat} {bs : Nat} {xs : List SV} {ys : List SV} : (apV H k sz bs xs (some ys)) = (fitsE sz bs xs ys /\ ys ≠ [] /\ k (.s (.slice (xs ++ ys))) H none True) := propext Iff.rfl
@[go_sem] theorem appendZK_sl {H : List ABlock} {k : AK} {sz bs : Nat} {x : LV} {b off len sz' : Nat} {c : Bool} : (appendZK H sz bs x k (.sl b off len sz' c)) = (sz = sz' /\ apZ H k b off len sz bs (elemsOf H x)) := propext Iff.rfl
@[go_sem] theorem appendZK_full {H : List ABlock} {k : AK} {sz bs : Nat} {x : LV} {xs : List SV} : (appendZK H sz bs x k (.full xs)) = (apV H k sz bs xs (elemsOf H x)) := propext Iff.rfl
@[go_sem] theorem appendZB_row {H : List ABlock} {k : AK} {b off len sz bs : Nat} {ys cs : List SV} : (appendZB H b off len sz bs ys k (some (.row cs))) = (off + len * sz = cs.length /\ (len + ys.length) * bs <= 2 ^ 46 /\ len + ys.length < 2 ^ 60 /\ 0 < len /\ ys ≠ [] /\ ∃ xs, rowOf off len sz cs = some xs /\ (∀ x ∈ xs, x.cells.length = sz) /\ k (.s (.slice (xs ++ ys))) (H.set b (.frz [])) none True) := propext Iff.rfl
@[go_sem] theorem frzvK_sl {H : List ABlock} {k : AK} {b off len sz : Nat} {c : Bool} : (frzvK H k (.sl b off len sz c)) = (frC H k b off len sz H[b]?) := propext Iff.rfl
@[go_sem] theorem frzvK_full {H : List ABlock} {k : AK} {xs : List SV} : (frzvK H k (.full xs)) = (k (.s (.slice xs)) H none True) := propext Iff.rfl
@[go_sem] theorem frzvK_s {H : List ABlock} {k : AK} {v : SV} : (frzvK H k (.s v)) = (k (.s v) H none True) := propext Iff.rfl
@[go_sem] theorem appendK_sl {n0 : Nat} {H : List ABlock} {k : AK} {i sz bs : Nat} {x : LV} {b off len sz' : Nat} : (appendK H n0 i sz bs x k (.sl b off len sz' false)) = (sz = sz' /\ n0 <= b /\ apG H k b off len sz bs (elemsOf H x)) := propext Iff.rfl
@[go_sem] theorem appendK_slt {n0 : Nat} {H : List ABlock} {k : AK} {i sz bs : Nat} {x : LV} {b off len sz' : Nat} : (appendK H n0 i sz bs x k (.sl b off len sz' true)) = (appendK0 H n0 i sz bs x k (unclip n0 (.sl b off len sz' true))) := propext Iff.rfl
@[go_sem] theorem appendK0_sl {n0 : Nat} {H : List ABlock} {k : AK} {i sz bs : Nat} {x : LV} {b off len sz' : Nat} : (appendK0 H n0 i sz bs x k (.sl b off len sz' false)) = (sz = sz' /\ n0 <= b /\ apG H k b off len sz bs (elemsOf H x)) := propext Iff.rfl
@[go_sem] theorem appendK0_slt {n0 : Nat} {H : List ABlock} {k : AK} {i sz bs : Nat} {x : LV} {b off len sz' : Nat} : (appendK0 H n0 i sz bs x k (.sl b off len sz' true)) = (appendNK H i sz bs x k (.sl b off len sz' true)) := propext Iff.rfl
@[go_sem] theorem unclip_t {n0 b off len sz' : Nat} : unclip n0 (.sl b off len sz' true) = if n0 <= b then LV.sl b off len sz' false else LV.sl b off len sz' true := nr rfl
@[go_sem] theorem appendK_full {n0 : Nat} {H : List ABlock} {k : AK} {i sz bs : Nat} {x : LV} {xs : List SV} : (appendK H n0 i sz bs x k (.full xs)) = (appendNK H i sz bs x k (.full xs)) := propext Iff.rfl
@[go_sem] theorem copyB_row {H : List ABlock} {k : AK} {b off len sz : Nat} {ys cs : List SV} : (copyB H b off len sz ys k (some (.row cs))) = (off + len * sz <= cs.length /\ k (.s (.int .i64 (Nat.min ys.length len : Nat))) (H.set b (.row (splice cs off (flatE (ys.take len))))) none True) := propext Iff.rfl
@[go_sem] theorem copyB_obj {H : List ABlock} {k : AK} {b off len sz : Nat} {ys : List SV} {cs : List LV} : (copyB H b off len sz ys k (some (.obj cs))) = (off + len * sz <= cs.length /\ k (.s (.int .i64 (Nat.min ys.length len : Nat))) (H.set b (.obj (splice cs off ((flatE (ys.take len)).map .s)))) none True) := propext Iff.rfl
def cpR (H : List ABlock) (k : AK) (b : Nat) (off : Nat) (len : Nat) (sz : Nat) (o : Option (List SV)) : Prop := exO o fun ys => (∀ y ∈ ys, y.cells.length = sz) /\ copyB H b off len sz ys k H[b]?
@[go_sem] theorem cpR_0 {H : List ABlock} {k : AK} {b : Nat} {off : Nat} {len : Nat} {sz : Nat} {ys : List SV} : (cpR H k b off len sz (some ys)) = ((∀ y ∈ ys, y.cells.length = sz) /\ copyB H b off len sz ys k H[b]?) := propext Iff.rfl
@[go_sem] theorem copyK_sl {H : List ABlock} {k : AK} {sz : Nat} {s : LV} {b off len sz' : Nat} {c : Bool} : (copyK H sz s k (.sl b off len sz' c)) = (sz = sz' /\ cpR H k b off len sz (elemsOf H s)) := propext Iff.rfl
@[go_sem] theorem ldSK_s {H : List ABlock} {k : AK} {n : Nat} {g : Bool} {cs : List SV} : (ldSK H n g k (.s (.ptr cs))) = (partS H cs 0 n k g) := propext Iff.rfl
@[go_sem] theorem copyK_nil {H : List ABlock} {k : AK} {sz : Nat} {s : LV} : (copyK H sz s k (.full [])) = (exO (elemsOf H s) fun _ => k (.s (.int .i64 0)) H none True) := propext Iff.rfl
@[go_sem] theorem clearB_row {H : List ABlock} {k : AK} {b off len sz : Nat} {z cs : List SV} : (clearB H b off len sz z k (some (.row cs))) = (off + len * sz <= cs.length /\ k (.tup []) (H.set b (.row (splice cs off (List.replicate len z).flatten))) none True) := propext Iff.rfl
@[go_sem] theorem clearB_obj {H : List ABlock} {k : AK} {b off len sz : Nat} {z : List SV} {cs : List LV} : (clearB H b off len sz z k (some (.obj cs))) = (off + len * sz <= cs.length /\ k (.tup []) (H.set b (.obj (splice cs off ((List.replicate len z).flatten.map .s)))) none True) := propext Iff.rfl
@[go_sem] theorem clearK_sl {H : List ABlock} {k : AK} {sz : Nat} {z : List SV} {b off len sz' : Nat} {c : Bool} : (clearK H sz z k (.sl b off len sz' c)) = (sz = sz' /\ z.length = sz /\ clearB H b off len sz z k H[b]?) := propext Iff.rfl
@[go_sem] theorem clearK_nil {H : List ABlock} {k : AK} {sz : Nat} {z : List SV} : (clearK H sz z k (.full [])) = (k (.tup []) H none True) := propext Iff.rfl
@[go_sem] theorem mksliceK_i {H : List ABlock} {k : AK} {i sz bs : Nat} {z : List SV} {n m : Int} : (mksliceK H i sz bs z k (.s (.int .i64 n)) (.s (.int .i64 m))) = (0 <= n /\ n <= m /\ m * bs <= 2 ^ 46 /\ m < 2 ^ 60 /\ z.length = sz /\ 0 < sz /\ H[i]? = some .gone /\ k (.sl i 0 n.toNat sz (decide (n = m))) (H.set i (.row (List.replicate n.toNat z).flatten)) none True) := propext Iff.rfl
@[go_sem] theorem eqNilK_some {H : List ABlock} {k : AK} {ne : Bool} {xs : List SV} : (eqNilK H ne k (some xs)) = ((xs = [] -> k (.s (.bool (!ne))) H none True) /\ k (.s (.bool ne)) H none True) := propext Iff.rfl
theorem callK_of {P : Program} {H : List ABlock} {f : FuncId} {args : List LV} {k : AK} {as rs : List SV} (h : frzAll (frz H) args = some as) (hf : Fn P f as rs)
  (hr : rs.all SV.flat = true \/ frzAll (frz []) args = some as) (hk : k (LV.ofResults rs) H none True) : callK P H f args k := ⟨as, rs, h, hf, hr, hk⟩
@[go_sem] theorem callvK_s {P : Program} {H : List ABlock} {k : AK} {f : FuncId} {x y : List SV} {a : List LV} : (callvK P H a k (.s (.fn f x y))) = (okFn P f = true /\ ((x.map LV.s).all LV.isOne && (y.map LV.s).all LV.isOne) = true /\ callK P H f (x.map .s ++ a ++ y.map .s) k) := propext Iff.rfl
@[go_sem] theorem callvK_l {P : Program} {H : List ABlock} {k : AK} {f : FuncId} {x y a : List LV} : (callvK P H a k (.fn f x y)) = (okFn P f = true /\ (x.all LV.isOne && y.all LV.isOne) = true /\ callK P H f (x ++ a ++ y) k) := propext Iff.rfl
noncomputable def mgC (H : List ABlock) (k : AK) (c : Bool) (ts : List Tag) (zero : SV) (b : Nat) (o : Option SV) : Prop := exO o fun kv => mgetB H c ts zero kv k H[b]?
@[go_sem] theorem mgC_0 {H : List ABlock} {k : AK} {c : Bool} {ts : List Tag} {zero : SV} {b : Nat} {kv : SV} : (mgC H k c ts zero b (some kv)) = (mgetB H c ts zero kv k H[b]?) := propext Iff.rfl
noncomputable def mgS (H : List ABlock) (k : AK) (c : Bool) (ts : List Tag) (zero : SV) (ks : List SV) (vs : List SV) (o : Option SV) : Prop := exO o fun kv => keyOk ts kv ks /\ ks.Nodup /\ mgetI H c zero vs k (mFind kv ks)
@[go_sem] theorem mgS_0 {H : List ABlock} {k : AK} {c : Bool} {ts : List Tag} {zero : SV} {ks : List SV} {vs : List SV} {kv : SV} : (mgS H k c ts zero ks vs (some kv)) = (keyOk ts kv ks /\ ks.Nodup /\ mgetI H c zero vs k (mFind kv ks)) := propext Iff.rfl
@[go_sem] theorem mgetK_mp {H : List ABlock} {k : AK} {c : Bool} {ts : List Tag} {zero : SV} {kx : LV} {b : Nat} : (mgetK H c ts zero kx k (.mp b)) = (mgC H k c ts zero b (frz [] kx)) := propext Iff.rfl
@[go_sem] theorem mgetK_s {H : List ABlock} {k : AK} {c : Bool} {ts : List Tag} {zero : SV} {kx : LV} {ks vs : List SV} : (mgetK H c ts zero kx k (.s (.map ks vs))) = (mgS H k c ts zero ks vs (frz [] kx)) := propext Iff.rfl
@[go_sem] theorem mgetB_map {H : List ABlock} {k : AK} {c : Bool} {ts : List Tag} {zero kv : SV} {ks vs : List SV} : (mgetB H c ts zero kv k (some (.map ks vs))) = (keyOk ts kv ks /\ mgetI H c zero vs k (mFind kv ks)) := propext Iff.rfl
noncomputable def msC2 (H : List ABlock) (k : AK) (b : Nat) (ts : List Tag) (kv : SV) (o : Option SV) : Prop := exO o fun v => msetB H b ts kv v k H[b]?
@[go_sem] theorem msC2_0 {H : List ABlock} {k : AK} {b : Nat} {ts : List Tag} {kv : SV} {v : SV} : (msC2 H k b ts kv (some v)) = (msetB H b ts kv v k H[b]?) := propext Iff.rfl
noncomputable def msC (H : List ABlock) (k : AK) (b : Nat) (ts : List Tag) (x : LV) (o : Option SV) : Prop := exO o fun kv => msC2 H k b ts kv (frz [] x)
@[go_sem] theorem msC_0 {H : List ABlock} {k : AK} {b : Nat} {ts : List Tag} {x : LV} {kv : SV} : (msC H k b ts x (some kv)) = (msC2 H k b ts kv (frz [] x)) := propext Iff.rfl
@[go_sem] theorem msetK_mp {H : List ABlock} {k : AK} {ts : List Tag} {kx x : LV} {b : Nat} : (msetK H ts kx x k (.mp b)) = (msC H k b ts x (frz [] kx)) := propext Iff.rfl
@[go_sem] theorem msetB_map {H : List ABlock} {k : AK} {b : Nat} {ts : List Tag} {kv v : SV} {ks vs : List SV} : (msetB H b ts kv v k (some (.map ks vs))) = (keyOk ts kv ks /\ k (.tup []) (H.set b (mPut kv v ks vs (mFind kv ks))) none True) := propext Iff.rfl
noncomputable def mdC (H : List ABlock) (k : AK) (b : Nat) (ts : List Tag) (o : Option SV) : Prop := exO o fun kv => mdelB H b ts kv k H[b]?
@[go_sem] theorem mdC_0 {H : List ABlock} {k : AK} {b : Nat} {ts : List Tag} {kv : SV} : (mdC H k b ts (some kv)) = (mdelB H b ts kv k H[b]?) := propext Iff.rfl
@[go_sem] theorem mdelK_mp {H : List ABlock} {k : AK} {ts : List Tag} {kx : LV} {b : Nat} : (mdelK H ts kx k (.mp b)) = (mdC H k b ts (frz [] kx)) := propext Iff.rfl
@[go_sem] theorem mdelB_map {H : List ABlock} {k : AK} {b : Nat} {ts : List Tag} {kv : SV} {ks vs : List SV} : (mdelB H b ts kv k (some (.map ks vs))) = (keyOk ts kv ks /\ k (.tup []) (H.set b (mCut ks vs (mFind kv ks))) none True) := propext Iff.rfl
@[go_sem] theorem mlenK_mp {H : List ABlock} {k : AK} {b : Nat} : (mlenK H k (.mp b)) = (mlenB H k H[b]?) := propext Iff.rfl
@[go_sem] theorem mlenK_s {H : List ABlock} {k : AK} {ks vs : List SV} : (mlenK H k (.s (.map ks vs))) = (k (.s (.int .i64 ks.length)) H none True) := propext Iff.rfl
@[go_sem] theorem mlenB_map {H : List ABlock} {k : AK} {ks vs : List SV} : (mlenB H k (some (.map ks vs))) = (k (.s (.int .i64 ks.length)) H none True) := propext Iff.rfl
@[go_sem] theorem rangeMK_s {id : Nat} {H : List ABlock} {k : AK} {ks vs : List SV} : (rangeMK H id k (.s (.map ks vs))) = (H[id]? = some .gone /\ k (.loc id 0) (H.set id (.mit (ks.zip vs) none)) none True) := propext Iff.rfl
@[go_sem] theorem nextMK_loc {H : List ABlock} {k : AK} {b : Nat} : (nextMK H k (.loc b 0)) = (nextMB H b k H[b]?) := propext Iff.rfl
@[go_sem] theorem nextMB_mit {H : List ABlock} {k : AK} {b : Nat} {left : List (SV × SV)} {last : Option (SV × SV)} : (nextMB H b k (some (.mit left last))) = ((left = [] -> k (.tup [.bool false]) H none True) /\ ∀ l1 e l2, left = l1 ++ e :: l2 -> k (.tup [.bool true, e.1, e.2]) (H.set b (.mit (l1 ++ l2) (some e))) none True) := propext Iff.rfl
@[go_sem] theorem entryMK_loc {H : List ABlock} {k : AK} {b : Nat} : (entryMK H k (.loc b 0)) = (entryMB H k H[b]?) := propext Iff.rfl
@[go_sem] theorem entryMB_mit {H : List ABlock} {k : AK} {left : List (SV × SV)} {e : SV × SV} : (entryMB H k (some (.mit left (some e)))) = (k (.tup [e.1, e.2]) H none True) := propext Iff.rfl
def boxC (H : List ABlock) (k : AK) (id : Nat) (o : Option (List LV)) : Prop := exO o fun cs => H[id]? = some .gone /\ k (.loc id 0) (H.set id (.obj cs)) none True
@[go_sem] theorem boxC_0 {H : List ABlock} {k : AK} {id : Nat} {cs : List LV} : (boxC H k id (some cs)) = (H[id]? = some .gone /\ k (.loc id 0) (H.set id (.obj cs)) none True) := propext Iff.rfl
def boxP (H : List ABlock) (k : AK) (o : Option SV) : Prop := exO o fun v => k (.s (.ptr v.cells)) H none True
@[go_sem] theorem boxP_0 {H : List ABlock} {k : AK} {v : SV} : (boxP H k (some v)) = (k (.s (.ptr v.cells)) H none True) := propext Iff.rfl
def bldC (H : List ABlock) (k : AK) (o : Option (List LV)) : Prop := exO o fun cs => k (.agg cs) H none True
@[go_sem] theorem bldC_0 {H : List ABlock} {k : AK} {cs : List LV} : (bldC H k (some cs)) = (k (.agg cs) H none True) := propext Iff.rfl
def bsl (H : List ABlock) (k : AK) (sz : Nat) (n : Nat) (zero : SV) (is : List Nat) (o : Option (List SV)) : Prop := exO o fun xs => is = List.range n /\ (∀ e ∈ xs, e.cells.length = sz) /\ zero.cells.length = sz /\ k (.full xs) H none True
@[go_sem] theorem bsl_0 {H : List ABlock} {k : AK} {sz : Nat} {n : Nat} {zero : SV} {is : List Nat} {xs : List SV} : (bsl H k sz n zero is (some xs)) = (is = List.range n /\ (∀ e ∈ xs, e.cells.length = sz) /\ zero.cells.length = sz /\ k (.full xs) H none True) := propext Iff.rfl
def bslR (H : List ABlock) (k : AK) (id : Nat) (sz : Nat) (n : Nat) (zero : SV) (is : List Nat) (o : Option (List SV)) : Prop := exO o fun xs => is = List.range n /\ (∀ e ∈ xs, e.cells.length = sz) /\ zero.cells.length = sz /\ H[id]? = some .gone /\ k (.sl id 0 n sz false) (H.set id (.row (flatE xs))) none True
@[go_sem] theorem bslR_0 {H : List ABlock} {k : AK} {id : Nat} {sz : Nat} {n : Nat} {zero : SV} {is : List Nat} {xs : List SV} : (bslR H k id sz n zero is (some xs)) = (is = List.range n /\ (∀ e ∈ xs, e.cells.length = sz) /\ zero.cells.length = sz /\ H[id]? = some .gone /\ k (.sl id 0 n sz false) (H.set id (.row (flatE xs))) none True) := propext Iff.rfl
def mxC (H : List ABlock) (k : AK) (Kd : IntKind) (o : Option (List Int)) : Prop := exO o fun ns => ns ≠ [] /\ intK Kd (maxL ns) H k
@[go_sem] theorem mxC_0 {H : List ABlock} {k : AK} {Kd : IntKind} {ns : List Int} : (mxC H k Kd (some ns)) = (ns ≠ [] /\ k (.s (.int Kd (maxL ns))) H none True) := propext Iff.rfl
def mnC (H : List ABlock) (k : AK) (Kd : IntKind) (o : Option (List Int)) : Prop := exO o fun ns => ns ≠ [] /\ intK Kd (minL ns) H k
@[go_sem] theorem mnC_0 {H : List ABlock} {k : AK} {Kd : IntKind} {ns : List Int} : (mnC H k Kd (some ns)) = (ns ≠ [] /\ k (.s (.int Kd (minL ns))) H none True) := propext Iff.rfl
@[go_sem] theorem intsOf_nil {K : IntKind} : intsOf K [] = some [] := nr rfl
@[go_sem] theorem kindOf_cons {K : IntKind} {n : Int} {vs : List LV} : kindOf (.s (.int K n) :: vs) = K := nr rfl
@[go_sem] theorem intsOf_cons {K : IntKind} {n : Int} {vs : List LV} : intsOf K (.s (.int K n) :: vs) = (intsOf K vs).map (fun ns => n :: ns) := by
 simp only [intsOf]; cases intsOf K vs <;> simp
@[go_sem] theorem fills_nil {z : List LV} : fills z [] = some z := nr rfl
@[go_sem] theorem fills_cons {z : List LV} {off n : Nat} {v : LV} {ps : List (Nat × Nat × LV)} : fills z ((off, n, v) :: ps) = v.cells.bind fun cs => if cs.length = n /\ off + n <= z.length then fills (z.take off ++ cs ++ z.drop (off + n)) ps else none := by
 simp only [fills]; cases v.cells <;> rfl
@[go_sem] theorem aop_mov {P : Program} {n0 id : Nat} {fr : List LV} {H : List ABlock} {k : AK} {x : AX} : (aop P n0 id fr H (.mov x) k) = (k (x.ev fr) H none True) := propext Iff.rfl
@[go_sem] theorem takes_mov {x : AX} : AOp.takes (.mov x) = false := nr rfl
@[go_sem] theorem aop_pick {P : Program} {n0 id : Nat} {fr : List LV} {H : List ABlock} {k : AK} {c : AX} {a : AX} {b : AX} : (aop P n0 id fr H (.pick c a b) k) = (pickK H (a.ev fr) (b.ev fr) k (c.ev fr)) := propext Iff.rfl
@[go_sem] theorem takes_pick {c : AX} {a : AX} {b : AX} : AOp.takes (.pick c a b) = false := nr rfl
@[go_sem] theorem aop_alloc {P : Program} {n0 id : Nat} {fr : List LV} {H : List ABlock} {k : AK} {cells : List LV} : (aop P n0 id fr H (.alloc cells) k) = (H[id]? = some .gone /\ k (.loc id 0) (H.set id (.obj cells)) none True) := propext Iff.rfl
@[go_sem] theorem takes_alloc {cells : List LV} : AOp.takes (.alloc cells) = true := nr rfl
@[go_sem] theorem aop_boxM {P : Program} {n0 id : Nat} {fr : List LV} {H : List ABlock} {k : AK} {x : AX} : (aop P n0 id fr H (.boxM x) k) = (boxC H k id (x.ev fr).cells) := propext Iff.rfl
@[go_sem] theorem takes_boxM {x : AX} : AOp.takes (.boxM x) = true := nr rfl
@[go_sem] theorem aop_boxS {P : Program} {n0 id : Nat} {fr : List LV} {H : List ABlock} {k : AK} {x : AX} : (aop P n0 id fr H (.boxS x) k) = (boxP H k (frz [] (x.ev fr))) := propext Iff.rfl
@[go_sem] theorem takes_boxS {x : AX} : AOp.takes (.boxS x) = false := nr rfl
@[go_sem] theorem aop_build {P : Program} {n0 id : Nat} {fr : List LV} {H : List ABlock} {k : AK} {zero : List LV} {parts : List (Nat × Nat × AX)} : (aop P n0 id fr H (.build zero parts) k) = (bldC H k (fills zero (parts.map fun p => (p.1, p.2.1, p.2.2.ev fr)))) := propext Iff.rfl
@[go_sem] theorem takes_build {zero : List LV} {parts : List (Nat × Nat × AX)} : AOp.takes (.build zero parts) = false := nr rfl
@[go_sem] theorem aop_buildSl {P : Program} {n0 id : Nat} {fr : List LV} {H : List ABlock} {k : AK} {sz : Nat} {n : Nat} {zero : SV} {parts : List (Nat × AX)} : (aop P n0 id fr H (.buildSl sz n zero parts) k) = (n <= 2 ^ 20 /\ n * sz <= 2 ^ 24 /\ bsl H k sz n zero (parts.map (·.1)) (frzAll (frz []) (parts.map fun p => p.2.ev fr))) := propext Iff.rfl
@[go_sem] theorem takes_buildSl {sz : Nat} {n : Nat} {zero : SV} {parts : List (Nat × AX)} : AOp.takes (.buildSl sz n zero parts) = false := nr rfl
@[go_sem] theorem aop_load {P : Program} {n0 id : Nat} {fr : List LV} {H : List ABlock} {k : AK} {n : Nat} {agg : Bool} {a : AX} : (aop P n0 id fr H (.load n agg a) k) = (ldK H n agg k (a.ev fr)) := propext Iff.rfl
@[go_sem] theorem takes_load {n : Nat} {agg : Bool} {a : AX} : AOp.takes (.load n agg a) = false := nr rfl
@[go_sem] theorem aop_store {P : Program} {n0 id : Nat} {fr : List LV} {H : List ABlock} {k : AK} {n : Nat} {a : AX} {x : AX} : (aop P n0 id fr H (.store n a x) k) = (stK H n (x.ev fr) k (a.ev fr)) := propext Iff.rfl
@[go_sem] theorem takes_store {n : Nat} {a : AX} {x : AX} : AOp.takes (.store n a x) = false := nr rfl
@[go_sem] theorem aop_nilck {P : Program} {n0 id : Nat} {fr : List LV} {H : List ABlock} {k : AK} {x : AX} : (aop P n0 id fr H (.nilck x) k) = (nilckK H k (x.ev fr)) := propext Iff.rfl
@[go_sem] theorem takes_nilck {x : AX} : AOp.takes (.nilck x) = false := nr rfl
@[go_sem] theorem aop_arith {P : Program} {n0 id : Nat} {fr : List LV} {H : List ABlock} {k : AK} {op : BinOp} {x : AX} {y : AX} : (aop P n0 id fr H (.arith op x y) k) = (arithK H op k (x.ev fr) (y.ev fr)) := propext Iff.rfl
@[go_sem] theorem takes_arith {op : BinOp} {x : AX} {y : AX} : AOp.takes (.arith op x y) = false := nr rfl
@[go_sem] theorem aop_cmp {P : Program} {n0 id : Nat} {fr : List LV} {H : List ABlock} {k : AK} {op : BinOp} {x : AX} {y : AX} : (aop P n0 id fr H (.cmp op x y) k) = (cmpK H op k (x.ev fr) (y.ev fr)) := propext Iff.rfl
@[go_sem] theorem takes_cmp {op : BinOp} {x : AX} {y : AX} : AOp.takes (.cmp op x y) = false := nr rfl
@[go_sem] theorem aop_bits {P : Program} {n0 id : Nat} {fr : List LV} {H : List ABlock} {k : AK} {op : BinOp} {x : AX} {y : AX} : (aop P n0 id fr H (.bits op x y) k) = (bitsK H op k (x.ev fr) (y.ev fr)) := propext Iff.rfl
@[go_sem] theorem takes_bits {op : BinOp} {x : AX} {y : AX} : AOp.takes (.bits op x y) = false := nr rfl
@[go_sem] theorem aop_div {P : Program} {n0 id : Nat} {fr : List LV} {H : List ABlock} {k : AK} {op : BinOp} {x : AX} {y : AX} : (aop P n0 id fr H (.div op x y) k) = (divK H op k (x.ev fr) (y.ev fr)) := propext Iff.rfl
@[go_sem] theorem takes_div {op : BinOp} {x : AX} {y : AX} : AOp.takes (.div op x y) = false := nr rfl
@[go_sem] theorem aop_shift {P : Program} {n0 id : Nat} {fr : List LV} {H : List ABlock} {k : AK} {op : BinOp} {x : AX} {y : AX} : (aop P n0 id fr H (.shift op x y) k) = (shiftK H op k (x.ev fr) (y.ev fr)) := propext Iff.rfl
@[go_sem] theorem takes_shift {op : BinOp} {x : AX} {y : AX} : AOp.takes (.shift op x y) = false := nr rfl
@[go_sem] theorem aop_eql {P : Program} {n0 id : Nat} {fr : List LV} {H : List ABlock} {k : AK} {ag : Bool} {ts : List Tag} {ne : Bool} {x : AX} {y : AX} : (aop P n0 id fr H (.eql ag ts ne x y) k) = (eqlK H ag ts ne k (x.ev fr) (y.ev fr)) := propext Iff.rfl
@[go_sem] theorem takes_eql {ag : Bool} {ts : List Tag} {ne : Bool} {x : AX} {y : AX} : AOp.takes (.eql ag ts ne x y) = false := nr rfl
@[go_sem] theorem aop_not {P : Program} {n0 id : Nat} {fr : List LV} {H : List ABlock} {k : AK} {x : AX} : (aop P n0 id fr H (.not x) k) = (notK H k (x.ev fr)) := propext Iff.rfl
@[go_sem] theorem takes_not {x : AX} : AOp.takes (.not x) = false := nr rfl
@[go_sem] theorem aop_neg {P : Program} {n0 id : Nat} {fr : List LV} {H : List ABlock} {k : AK} {x : AX} : (aop P n0 id fr H (.neg x) k) = (negK H k (x.ev fr)) := propext Iff.rfl
@[go_sem] theorem takes_neg {x : AX} : AOp.takes (.neg x) = false := nr rfl
@[go_sem] theorem aop_conv {P : Program} {n0 id : Nat} {fr : List LV} {H : List ABlock} {k : AK} {K : IntKind} {x : AX} : (aop P n0 id fr H (.conv K x) k) = (convK H K k (x.ev fr)) := propext Iff.rfl
@[go_sem] theorem takes_conv {K : IntKind} {x : AX} : AOp.takes (.conv K x) = false := nr rfl
@[go_sem] theorem aop_mkfn {P : Program} {n0 id : Nat} {fr : List LV} {H : List ABlock} {k : AK} {f : FuncId} {first : List AX} {caps : List AX} : (aop P n0 id fr H (.mkfn f first caps) k) = (((first.map (·.ev fr)).all LV.isOne && (caps.map (·.ev fr)).all LV.isOne) = true /\ k (.fn f (first.map (·.ev fr)) (caps.map (·.ev fr))) H none True) := propext Iff.rfl
@[go_sem] theorem takes_mkfn {f : FuncId} {first : List AX} {caps : List AX} : AOp.takes (.mkfn f first caps) = false := nr rfl
@[go_sem] theorem aop_slice {P : Program} {n0 id : Nat} {fr : List LV} {H : List ABlock} {k : AK} {sz : Nat} {x : AX} {lo : Option AX} {hi : Option AX} {mx : Option AX} : (aop P n0 id fr H (.slice sz x lo hi mx) k) = (sliceK H sz (optEv fr lo) (optEv fr hi) (optEv fr mx) k (x.ev fr)) := propext Iff.rfl
@[go_sem] theorem takes_slice {sz : Nat} {x : AX} {lo : Option AX} {hi : Option AX} {mx : Option AX} : AOp.takes (.slice sz x lo hi mx) = false := nr rfl
@[go_sem] theorem aop_sliceArr {P : Program} {n0 id : Nat} {fr : List LV} {H : List ABlock} {k : AK} {n : Nat} {sz : Nat} {x : AX} {lo : Option AX} {hi : Option AX} : (aop P n0 id fr H (.sliceArr n sz x lo hi) k) = (sliceArrK H n sz (optEv fr lo) (optEv fr hi) k (x.ev fr)) := propext Iff.rfl
@[go_sem] theorem takes_sliceArr {n : Nat} {sz : Nat} {x : AX} {lo : Option AX} {hi : Option AX} : AOp.takes (.sliceArr n sz x lo hi) = false := nr rfl
@[go_sem] theorem aop_fieldAddr {P : Program} {n0 id : Nat} {fr : List LV} {H : List ABlock} {k : AK} {off : Nat} {x : AX} : (aop P n0 id fr H (.fieldAddr off x) k) = (fieldAddrK H off k (x.ev fr)) := propext Iff.rfl
@[go_sem] theorem takes_fieldAddr {off : Nat} {x : AX} : AOp.takes (.fieldAddr off x) = false := nr rfl
@[go_sem] theorem aop_field {P : Program} {n0 id : Nat} {fr : List LV} {H : List ABlock} {k : AK} {off : Nat} {n : Nat} {agg : Bool} {x : AX} : (aop P n0 id fr H (.field off n agg x) k) = (partK H off n agg k (x.ev fr)) := propext Iff.rfl
@[go_sem] theorem takes_field {off : Nat} {n : Nat} {agg : Bool} {x : AX} : AOp.takes (.field off n agg x) = false := nr rfl
@[go_sem] theorem aop_idxA {P : Program} {n0 id : Nat} {fr : List LV} {H : List ABlock} {k : AK} {sz : Nat} {x : AX} {i : AX} : (aop P n0 id fr H (.idxA sz x i) k) = (idxAK H sz (x.ev fr) k (i.ev fr)) := propext Iff.rfl
@[go_sem] theorem takes_idxA {sz : Nat} {x : AX} {i : AX} : AOp.takes (.idxA sz x i) = false := nr rfl
@[go_sem] theorem aop_idxArrA {P : Program} {n0 id : Nat} {fr : List LV} {H : List ABlock} {k : AK} {n : Nat} {sz : Nat} {x : AX} {i : AX} : (aop P n0 id fr H (.idxArrA n sz x i) k) = (idxArrAK H n sz (x.ev fr) k (i.ev fr)) := propext Iff.rfl
@[go_sem] theorem takes_idxArrA {n : Nat} {sz : Nat} {x : AX} {i : AX} : AOp.takes (.idxArrA n sz x i) = false := nr rfl
@[go_sem] theorem aop_idx {P : Program} {n0 id : Nat} {fr : List LV} {H : List ABlock} {k : AK} {n : Nat} {sz : Nat} {agg : Bool} {x : AX} {i : AX} : (aop P n0 id fr H (.idx n sz agg x i) k) = (idxK H n sz agg (x.ev fr) k (i.ev fr)) := propext Iff.rfl
@[go_sem] theorem takes_idx {n : Nat} {sz : Nat} {agg : Bool} {x : AX} {i : AX} : AOp.takes (.idx n sz agg x i) = false := nr rfl
@[go_sem] theorem aop_ext {P : Program} {n0 id : Nat} {fr : List LV} {H : List ABlock} {k : AK} {x : AX} {j : Nat} : (aop P n0 id fr H (.ext x j) k) = (extK H j k (x.ev fr)) := propext Iff.rfl
@[go_sem] theorem takes_ext {x : AX} {j : Nat} : AOp.takes (.ext x j) = false := nr rfl
@[go_sem] theorem aop_call {P : Program} {n0 id : Nat} {fr : List LV} {H : List ABlock} {k : AK} {f : FuncId} {args : List AX} : (aop P n0 id fr H (.call f args) k) = (callK P H f (args.map (·.ev fr)) k) := propext Iff.rfl
@[go_sem] theorem takes_call {f : FuncId} {args : List AX} : AOp.takes (.call f args) = false := nr rfl
@[go_sem] theorem aop_callv {P : Program} {n0 id : Nat} {fr : List LV} {H : List ABlock} {k : AK} {f : AX} {args : List AX} : (aop P n0 id fr H (.callv f args) k) = (callvK P H (args.map (·.ev fr)) k (f.ev fr)) := propext Iff.rfl
@[go_sem] theorem takes_callv {f : AX} {args : List AX} : AOp.takes (.callv f args) = false := nr rfl
@[go_sem] theorem aop_callN {P : Program} {n0 id : Nat} {fr : List LV} {H : List ABlock} {k : AK} {sz : Nat} {f : FuncId} {args : List AX} : (aop P n0 id fr H (.callN sz f args) k) = (callNK P H id sz f (args.map (·.ev fr)) k) := propext Iff.rfl
@[go_sem] theorem takes_callN {sz : Nat} {f : FuncId} {args : List AX} : AOp.takes (.callN sz f args) = true := nr rfl
@[go_sem] theorem takes_callI {f : FuncId} {args : List AX} : AOp.takes (.callI f args) = false := nr rfl
@[go_sem] theorem aop_len {P : Program} {n0 id : Nat} {fr : List LV} {H : List ABlock} {k : AK} {st : Bool} {x : AX} : (aop P n0 id fr H (.len st x) k) = (lenK H k st (x.ev fr)) := propext Iff.rfl
@[go_sem] theorem takes_len {st : Bool} {x : AX} : AOp.takes (.len st x) = false := nr rfl
@[go_sem] theorem aop_lenArr {P : Program} {n0 id : Nat} {fr : List LV} {H : List ABlock} {k : AK} {n : Nat} : (aop P n0 id fr H (.lenArr n) k) = (k (.s (.int .i64 n)) H none True) := propext Iff.rfl
@[go_sem] theorem takes_lenArr {n : Nat} : AOp.takes (.lenArr n) = false := nr rfl
@[go_sem] theorem aop_append {P : Program} {n0 id : Nat} {fr : List LV} {H : List ABlock} {k : AK} {sz : Nat} {bytes : Nat} {s : AX} {x : AX} : (aop P n0 id fr H (.append sz bytes s x) k) = (appendK H n0 id sz bytes (x.ev fr) k (s.ev fr)) := propext Iff.rfl
@[go_sem] theorem takes_append {sz : Nat} {bytes : Nat} {s : AX} {x : AX} : AOp.takes (.append sz bytes s x) = true := nr rfl
@[go_sem] theorem aop_appendN {P : Program} {n0 id : Nat} {fr : List LV} {H : List ABlock} {k : AK} {sz : Nat} {bytes : Nat} {s : AX} {x : AX} : (aop P n0 id fr H (.appendN sz bytes s x) k) = (appendNK H id sz bytes (x.ev fr) k (s.ev fr)) := propext Iff.rfl
@[go_sem] theorem takes_appendN {sz : Nat} {bytes : Nat} {s : AX} {x : AX} : AOp.takes (.appendN sz bytes s x) = true := nr rfl
@[go_sem] theorem aop_eqNil {P : Program} {n0 id : Nat} {fr : List LV} {H : List ABlock} {k : AK} {ne : Bool} {x : AX} : (aop P n0 id fr H (.eqNil ne x) k) = (eqNilK H ne k (elemsOf H (x.ev fr))) := propext Iff.rfl
@[go_sem] theorem takes_eqNil {ne : Bool} {x : AX} : AOp.takes (.eqNil ne x) = false := nr rfl
@[go_sem] theorem aop_copy {P : Program} {n0 id : Nat} {fr : List LV} {H : List ABlock} {k : AK} {sz : Nat} {d : AX} {s : AX} : (aop P n0 id fr H (.copy sz d s) k) = (copyK H sz (s.ev fr) k (d.ev fr)) := propext Iff.rfl
@[go_sem] theorem takes_copy {sz : Nat} {d : AX} {s : AX} : AOp.takes (.copy sz d s) = false := nr rfl
@[go_sem] theorem aop_clear {P : Program} {n0 id : Nat} {fr : List LV} {H : List ABlock} {k : AK} {sz : Nat} {zero : List SV} {d : AX} : (aop P n0 id fr H (.clear sz zero d) k) = (clearK H sz zero k (d.ev fr)) := propext Iff.rfl
@[go_sem] theorem takes_clear {sz : Nat} {zero : List SV} {d : AX} : AOp.takes (.clear sz zero d) = false := nr rfl
@[go_sem] theorem aop_max {P : Program} {n0 id : Nat} {fr : List LV} {H : List ABlock} {k : AK} {args : List AX} : (aop P n0 id fr H (.max args) k) = (mxC H k (kindOf (args.map (·.ev fr))) (intsOf (kindOf (args.map (·.ev fr))) (args.map (·.ev fr)))) := propext Iff.rfl
@[go_sem] theorem takes_max {args : List AX} : AOp.takes (.max args) = false := nr rfl
@[go_sem] theorem aop_min {P : Program} {n0 id : Nat} {fr : List LV} {H : List ABlock} {k : AK} {args : List AX} : (aop P n0 id fr H (.min args) k) = (mnC H k (kindOf (args.map (·.ev fr))) (intsOf (kindOf (args.map (·.ev fr))) (args.map (·.ev fr)))) := propext Iff.rfl
@[go_sem] theorem takes_min {args : List AX} : AOp.takes (.min args) = false := nr rfl
@[go_sem] theorem aop_mkslice {P : Program} {n0 id : Nat} {fr : List LV} {H : List ABlock} {k : AK} {sz : Nat} {bytes : Nat} {zero : List SV} {l : AX} {c : AX} : (aop P n0 id fr H (.mkslice sz bytes zero l c) k) = (mksliceK H id sz bytes zero k (l.ev fr) (c.ev fr)) := propext Iff.rfl
@[go_sem] theorem takes_mkslice {sz : Nat} {bytes : Nat} {zero : List SV} {l : AX} {c : AX} : AOp.takes (.mkslice sz bytes zero l c) = true := nr rfl
@[go_sem] theorem aop_loadO {P : Program} {n0 id : Nat} {fr : List LV} {H : List ABlock} {k : AK} {n : Nat} {agg : Bool} {a : AX} : (aop P n0 id fr H (.loadO n agg a) k) = (ldOK H n agg k (a.ev fr)) := propext Iff.rfl
@[go_sem] theorem takes_loadO {n : Nat} {agg : Bool} {a : AX} : AOp.takes (.loadO n agg a) = false := nr rfl
@[go_sem] theorem aop_loadX {P : Program} {n0 id : Nat} {fr : List LV} {H : List ABlock} {k : AK} {n : Nat} {agg : Bool} {a : AX} {r : Nat} : (aop P n0 id fr H (.loadX n agg a r) k) = (apX (fget fr r) (a.ev fr) /\ ldOK H n agg k (a.ev fr)) := propext Iff.rfl
@[go_sem] theorem takes_loadX {n : Nat} {agg : Bool} {a : AX} {r : Nat} : AOp.takes (.loadX n agg a r) = false := nr rfl
@[go_sem] theorem aop_storeR {P : Program} {n0 id : Nat} {fr : List LV} {H : List ABlock} {k : AK} {n : Nat} {a : AX} {x : AX} : (aop P n0 id fr H (.storeR n a x) k) = (stRK H n (x.ev fr) k (a.ev fr)) := propext Iff.rfl
@[go_sem] theorem takes_storeR {n : Nat} {a : AX} {x : AX} : AOp.takes (.storeR n a x) = false := nr rfl
@[go_sem] theorem aop_callF {P : Program} {n0 id : Nat} {fr : List LV} {H : List ABlock} {k : AK} {f : FuncId} {s : AX} {args : List AX} : (aop P n0 id fr H (.callF f s args) k) = (callFK P H f (args.map (·.ev fr)) k (s.ev fr)) := propext Iff.rfl
@[go_sem] theorem takes_callF {f : FuncId} {s : AX} {args : List AX} : AOp.takes (.callF f s args) = false := nr rfl
@[go_sem] theorem aop_frzv {P : Program} {n0 id : Nat} {fr : List LV} {H : List ABlock} {k : AK} {x : AX} : (aop P n0 id fr H (.frzv x) k) = (frzvK H k (x.ev fr)) := propext Iff.rfl
@[go_sem] theorem takes_frzv {x : AX} : AOp.takes (.frzv x) = false := nr rfl
@[go_sem] theorem aop_appendZ {P : Program} {n0 id : Nat} {fr : List LV} {H : List ABlock} {k : AK} {sz : Nat} {bytes : Nat} {s : AX} {x : AX} : (aop P n0 id fr H (.appendZ sz bytes s x) k) = (appendZK H sz bytes (x.ev fr) k (s.ev fr)) := propext Iff.rfl
@[go_sem] theorem takes_appendZ {sz : Nat} {bytes : Nat} {s : AX} {x : AX} : AOp.takes (.appendZ sz bytes s x) = false := nr rfl
@[go_sem] theorem aop_mkmap {P : Program} {n0 id : Nat} {fr : List LV} {H : List ABlock} {k : AK} : (aop P n0 id fr H (.mkmap) k) = (H[id]? = some .gone /\ k (.mp id) (H.set id (.map [] [])) none True) := propext Iff.rfl
@[go_sem] theorem takes_mkmap : AOp.takes (.mkmap) = true := nr rfl
@[go_sem] theorem aop_mget {P : Program} {n0 id : Nat} {fr : List LV} {H : List ABlock} {k : AK} {c : Bool} {ts : List Tag} {zero : SV} {m : AX} {kx : AX} : (aop P n0 id fr H (.mget c ts zero m kx) k) = (mgetK H c ts zero (kx.ev fr) k (m.ev fr)) := propext Iff.rfl
@[go_sem] theorem takes_mget {c : Bool} {ts : List Tag} {zero : SV} {m : AX} {kx : AX} : AOp.takes (.mget c ts zero m kx) = false := nr rfl
@[go_sem] theorem aop_mset {P : Program} {n0 id : Nat} {fr : List LV} {H : List ABlock} {k : AK} {ts : List Tag} {m : AX} {kx : AX} {x : AX} : (aop P n0 id fr H (.mset ts m kx x) k) = (msetK H ts (kx.ev fr) (x.ev fr) k (m.ev fr)) := propext Iff.rfl
@[go_sem] theorem takes_mset {ts : List Tag} {m : AX} {kx : AX} {x : AX} : AOp.takes (.mset ts m kx x) = false := nr rfl
@[go_sem] theorem aop_mdel {P : Program} {n0 id : Nat} {fr : List LV} {H : List ABlock} {k : AK} {ts : List Tag} {m : AX} {kx : AX} : (aop P n0 id fr H (.mdel ts m kx) k) = (mdelK H ts (kx.ev fr) k (m.ev fr)) := propext Iff.rfl
@[go_sem] theorem takes_mdel {ts : List Tag} {m : AX} {kx : AX} : AOp.takes (.mdel ts m kx) = false := nr rfl
@[go_sem] theorem aop_mlen {P : Program} {n0 id : Nat} {fr : List LV} {H : List ABlock} {k : AK} {m : AX} : (aop P n0 id fr H (.mlen m) k) = (mlenK H k (m.ev fr)) := propext Iff.rfl
@[go_sem] theorem takes_mlen {m : AX} : AOp.takes (.mlen m) = false := nr rfl
@[go_sem] theorem aop_sidx {P : Program} {n0 id : Nat} {fr : List LV} {H : List ABlock} {k : AK} {x : AX} {i : AX} : (aop P n0 id fr H (.sidx x i) k) = (sidxK H k (x.ev fr) (i.ev fr)) := propext Iff.rfl
@[go_sem] theorem takes_sidx {x : AX} {i : AX} : AOp.takes (.sidx x i) = false := nr rfl
@[go_sem] theorem aop_rangeM {P : Program} {n0 id : Nat} {fr : List LV} {H : List ABlock} {k : AK} {m : AX} : (aop P n0 id fr H (.rangeM m) k) = (rangeMK H id k (m.ev fr)) := propext Iff.rfl
@[go_sem] theorem takes_rangeM {m : AX} : AOp.takes (.rangeM m) = true := nr rfl
@[go_sem] theorem aop_nextM {P : Program} {n0 id : Nat} {fr : List LV} {H : List ABlock} {k : AK} {it : AX} : (aop P n0 id fr H (.nextM it) k) = (nextMK H k (it.ev fr)) := propext Iff.rfl
@[go_sem] theorem takes_nextM {it : AX} : AOp.takes (.nextM it) = false := nr rfl
@[go_sem] theorem aop_entryM {P : Program} {n0 id : Nat} {fr : List LV} {H : List ABlock} {k : AK} {it : AX} : (aop P n0 id fr H (.entryM it) k) = (entryMK H k (it.ev fr)) := propext Iff.rfl
@[go_sem] theorem takes_entryM {it : AX} : AOp.takes (.entryM it) = false := nr rfl
@[go_sem] theorem aop_callR {P : Program} {n0 id : Nat} {fr : List LV} {H : List ABlock} {k : AK} {f : FuncId} {args : List AX} : (aop P n0 id fr H (.callR f args) k) = (callRK P H f (args.map (·.ev fr)) k) := propext Iff.rfl
@[go_sem] theorem takes_callR {f : FuncId} {args : List AX} : AOp.takes (.callR f args) = false := nr rfl
@[go_sem] theorem aop_loadS {P : Program} {n0 id : Nat} {fr : List LV} {H : List ABlock} {k : AK} {n : Nat} {agg : Bool} {a : AX} : (aop P n0 id fr H (.loadS n agg a) k) = (ldSK H n agg k (a.ev fr)) := propext Iff.rfl
@[go_sem] theorem takes_loadS {n : Nat} {agg : Bool} {a : AX} : AOp.takes (.loadS n agg a) = false := nr rfl
@[go_sem] theorem aop_dead {P : Program} {n0 id : Nat} {fr : List LV} {H : List ABlock} {k : AK} : (aop P n0 id fr H (.dead) k) = (False /\ k (.tup []) H none True) := propext Iff.rfl
@[go_sem] theorem takes_dead : AOp.takes (.dead) = false := nr rfl
@[go_sem] theorem aop_buildR {P : Program} {n0 id : Nat} {fr : List LV} {H : List ABlock} {k : AK} {sz : Nat} {n : Nat} {zero : SV} {parts : List (Nat × AX)} : (aop P n0 id fr H (.buildR sz n zero parts) k) = (n <= 2 ^ 20 /\ n * sz <= 2 ^ 24 /\ 0 < sz /\ bslR H k id sz n zero (parts.map (·.1)) (frzAll (frz []) (parts.map fun p => p.2.ev fr))) := propext Iff.rfl
@[go_sem] theorem takes_buildR {sz : Nat} {n : Nat} {zero : SV} {parts : List (Nat × AX)} : AOp.takes (.buildR sz n zero parts) = true := nr rfl
def nextId (id : Nat) : Bool -> Nat
 | true => id + 1
 | false => id
noncomputable def ctxK (P : Program) (n0 : Nat) (dst : Option Nat) (os : List AOper) (id : Nat) (fr : List LV) (F : Prop) (q : AState -> Prop -> Prop) : AK := fun v H kl f => aops P n0 os id (AState.put fr H dst v kl) (F /\ f) q
noncomputable def grdC (P : Program) (n0 id : Nat) (fr : List LV) (H : List ABlock) (g : Nat) (dst : Option Nat) (op : AOp) (os : List AOper) (F : Prop) (q : AState -> Prop -> Prop) (want b : Bool) : Prop :=
 grdB (fun b => aop P n0 id (fset fr g (.s (.bool b))) H op (ctxK P n0 dst os (nextId id op.takes) (fset fr g (.s (.bool b))) F q))
   (fun b => aops P n0 os (nextId id op.takes) (AState.put (fset fr g (.s (.bool b))) H dst (.tup []) none) F q) b want
noncomputable def grdV (P : Program) (n0 id : Nat) (fr : List LV) (H : List ABlock) (g : Nat) (dst : Option Nat) (op : AOp) (os : List AOper) (F : Prop) (q : AState -> Prop -> Prop) (want : Bool) (v : LV) : Prop :=
 grdK want (fun b => aop P n0 id (fset fr g (.s (.bool b))) H op (ctxK P n0 dst os (nextId id op.takes) (fset fr g (.s (.bool b))) F q))
   (fun b => aops P n0 os (nextId id op.takes) (AState.put (fset fr g (.s (.bool b))) H dst (.tup []) none) F q)
   (aops P n0 os (nextId id op.takes) (AState.put fr H dst (.tup []) none) F q) v
@[go_sem] theorem nextId_t {id : Nat} : nextId id true = id + 1 := nr rfl
@[go_sem] theorem nextId_f {id : Nat} : nextId id false = id := nr rfl
@[go_sem] theorem ctxK_ap {P : Program} {n0 id : Nat} {fr : List LV} {H : List ABlock} {F : Prop} {q : AState -> Prop -> Prop} {dst : Option Nat} {os : List AOper} {v : LV} {kl : Option Nat} {f : Prop} : (ctxK P n0 dst os id fr F q v H kl f) = (aops P n0 os id (AState.put fr H dst v kl) (F /\ f) q) := propext Iff.rfl
@[go_sem] theorem grdC_tt {P : Program} {n0 id : Nat} {fr : List LV} {H : List ABlock} {F : Prop} {q : AState -> Prop -> Prop} {dst : Option Nat} {op : AOp} {os : List AOper} {g : Nat} : (grdC P n0 id fr H g dst op os F q true true) = (aop P n0 id (fset fr g (.s (.bool true))) H op (ctxK P n0 dst os (nextId id op.takes) (fset fr g (.s (.bool true))) F q)) := propext Iff.rfl
@[go_sem] theorem grdC_ff {P : Program} {n0 id : Nat} {fr : List LV} {H : List ABlock} {F : Prop} {q : AState -> Prop -> Prop} {dst : Option Nat} {op : AOp} {os : List AOper} {g : Nat} : (grdC P n0 id fr H g dst op os F q false false) = (aop P n0 id (fset fr g (.s (.bool false))) H op (ctxK P n0 dst os (nextId id op.takes) (fset fr g (.s (.bool false))) F q)) := propext Iff.rfl
@[go_sem] theorem grdC_tf {P : Program} {n0 id : Nat} {fr : List LV} {H : List ABlock} {F : Prop} {q : AState -> Prop -> Prop} {dst : Option Nat} {op : AOp} {os : List AOper} {g : Nat} : (grdC P n0 id fr H g dst op os F q true false) = (aops P n0 os (nextId id op.takes) (AState.put (fset fr g (.s (.bool false))) H dst (.tup []) none) F q) := propext Iff.rfl
@[go_sem] theorem grdC_ft {P : Program} {n0 id : Nat} {fr : List LV} {H : List ABlock} {F : Prop} {q : AState -> Prop -> Prop} {dst : Option Nat} {op : AOp} {os : List AOper} {g : Nat} : (grdC P n0 id fr H g dst op os F q false true) = (aops P n0 os (nextId id op.takes) (AState.put (fset fr g (.s (.bool true))) H dst (.tup []) none) F q) := propext Iff.rfl
@[go_sem] theorem grdC_dt {P : Program} {n0 id : Nat} {fr : List LV} {H : List ABlock} {F : Prop} {q : AState -> Prop -> Prop} {dst : Option Nat} {op : AOp} {os : List AOper} {g : Nat} {p : Prop} [Decidable p] : (grdC P n0 id fr H g dst op os F q true (decide p)) = ((p -> aop P n0 id (fset fr g (.s (.bool true))) H op (ctxK P n0 dst os (nextId id op.takes) (fset fr g (.s (.bool true))) F q)) /\ (¬ p -> aops P n0 os (nextId id op.takes) (AState.put (fset fr g (.s (.bool false))) H dst (.tup []) none) F q)) := by
 unfold grdC; by_cases h : p <;> simp [h, grdB, bsplit]
@[go_sem] theorem grdC_df {P : Program} {n0 id : Nat} {fr : List LV} {H : List ABlock} {F : Prop} {q : AState -> Prop -> Prop} {dst : Option Nat} {op : AOp} {os : List AOper} {g : Nat} {p : Prop} [Decidable p] : (grdC P n0 id fr H g dst op os F q false (decide p)) = ((p -> aops P n0 os (nextId id op.takes) (AState.put (fset fr g (.s (.bool true))) H dst (.tup []) none) F q) /\ (¬ p -> aop P n0 id (fset fr g (.s (.bool false))) H op (ctxK P n0 dst os (nextId id op.takes) (fset fr g (.s (.bool false))) F q))) := by
 unfold grdC; by_cases h : p <;> simp [h, grdB, bsplit]
@[go_sem] theorem grdC_nt {P : Program} {n0 id : Nat} {fr : List LV} {H : List ABlock} {F : Prop} {q : AState -> Prop -> Prop} {dst : Option Nat} {op : AOp} {os : List AOper} {g : Nat} {p : Prop} [Decidable p] : (grdC P n0 id fr H g dst op os F q true (!decide p)) = ((p -> aops P n0 os (nextId id op.takes) (AState.put (fset fr g (.s (.bool false))) H dst (.tup []) none) F q) /\ (¬ p -> aop P n0 id (fset fr g (.s (.bool true))) H op (ctxK P n0 dst os (nextId id op.takes) (fset fr g (.s (.bool true))) F q))) := by
 unfold grdC; by_cases h : p <;> simp [h, grdB, bsplit]
@[go_sem] theorem grdC_nf {P : Program} {n0 id : Nat} {fr : List LV} {H : List ABlock} {F : Prop} {q : AState -> Prop -> Prop} {dst : Option Nat} {op : AOp} {os : List AOper} {g : Nat} {p : Prop} [Decidable p] : (grdC P n0 id fr H g dst op os F q false (!decide p)) = ((p -> aop P n0 id (fset fr g (.s (.bool false))) H op (ctxK P n0 dst os (nextId id op.takes) (fset fr g (.s (.bool false))) F q)) /\ (¬ p -> aops P n0 os (nextId id op.takes) (AState.put (fset fr g (.s (.bool true))) H dst (.tup []) none) F q)) := by
 unfold grdC; by_cases h : p <;> simp [h, grdB, bsplit]
@[go_sem] theorem grdV_b {P : Program} {n0 id : Nat} {fr : List LV} {H : List ABlock} {F : Prop} {q : AState -> Prop -> Prop} {dst : Option Nat} {op : AOp} {os : List AOper} {g : Nat} {want b : Bool} : (grdV P n0 id fr H g dst op os F q want (.s (.bool b))) = (grdC P n0 id fr H g dst op os F q want b) := propext Iff.rfl
@[go_sem] theorem grdV_u {P : Program} {n0 id : Nat} {fr : List LV} {H : List ABlock} {F : Prop} {q : AState -> Prop -> Prop} {dst : Option Nat} {op : AOp} {os : List AOper} {g : Nat} {want : Bool} : (grdV P n0 id fr H g dst op os F q want (.tup [])) = (aops P n0 os (nextId id op.takes) (AState.put fr H dst (.tup []) none) F q) := propext Iff.rfl
@[go_sem] theorem aops_nil {P : Program} {n0 id : Nat} {F : Prop} {q : AState -> Prop -> Prop} {σ : AState} : (aops P n0 [] id σ F q) = (q σ F) := propext Iff.rfl
theorem nextId_eq {id : Nat} {b : Bool} : (if b = true then id + 1 else id) = nextId id b := by cases b <;> rfl
@[go_sem] theorem aops_go {P : Program} {n0 id : Nat} {fr : List LV} {H : List ABlock} {F : Prop} {q : AState -> Prop -> Prop} {dst : Option Nat} {op : AOp} {os : List AOper} : (aops P n0 (⟨dst, none, op⟩ :: os) id ⟨fr, H⟩ F q) = (aop P n0 id fr H op (ctxK P n0 dst os (nextId id op.takes) fr F q)) := by
 simp only [aops, nextId_eq]; exact propext Iff.rfl
@[go_sem] theorem aops_guard {P : Program} {n0 id : Nat} {fr : List LV} {H : List ABlock} {F : Prop} {q : AState -> Prop -> Prop} {dst : Option Nat} {op : AOp} {os : List AOper} {g : Nat} {want : Bool} : (aops P n0 (⟨dst, some (g, want), op⟩ :: os) id ⟨fr, H⟩ F q) = (grdV P n0 id fr H g dst op os F q want (fget fr g)) := by
 simp only [aops, nextId_eq]; exact propext Iff.rfl
@[go_sem] theorem put_some {fr : List LV} {H : List ABlock} {d : Nat} {v : LV} : AState.put fr H (some d) v none = ⟨fset fr d v, H⟩ := nr rfl
@[go_sem] theorem put_none {fr : List LV} {H : List ABlock} {v : LV} : AState.put fr H none v none = ⟨fr, H⟩ := nr rfl
@[go_sem] theorem put_kill {fr : List LV} {H : List ABlock} {d b : Nat} {v : LV} : AState.put fr H (some d) v (some b) = ⟨fset (fgtL (· == b) fr) d v, H.map (fgtB (· == b))⟩ := nr rfl
@[go_sem] theorem awp_skip {P : Program} {n0 : Nat} {σ : AState} {Q : AExit -> AState -> Prop} : (awp P n0 .skip σ Q) = (Q .normal σ) := propext Iff.rfl
@[go_sem] theorem awp_ret {P : Program} {n0 : Nat} {σ : AState} {Q : AExit -> AState -> Prop} : (awp P n0 .ret σ Q) = (Q .ret σ) := propext Iff.rfl
@[go_sem] theorem awp_exit {P : Program} {n0 : Nat} {σ : AState} {Q : AExit -> AState -> Prop} {i : Nat} : (awp P n0 (.exit i) σ Q) = (Q (.exit i) σ) := propext Iff.rfl
@[go_sem] theorem awp_label {P : Program} {n0 : Nat} {σ : AState} {Q : AExit -> AState -> Prop} {i : Nat} : (awp P n0 (.label i) σ Q) = (Q .normal σ) := propext Iff.rfl
@[go_sem] theorem awp_scope {P : Program} {n0 : Nat} {σ : AState} {Q : AExit -> AState -> Prop} {a : ACode} : (awp P n0 (.scope a) σ Q) = (awp P n0 a σ Q) := propext Iff.rfl
@[go_sem] theorem awp_zap {P : Program} {n0 : Nat} {fr : List LV} {σ : AState} {Q : AExit -> AState -> Prop} {t off : Nat} {a : ACode} : (awp P n0 (.zap t off a) σ Q) = (zapK σ.hp off (fun H' => awp P n0 a { fr := σ.fr, hp := H' } Q) (fget σ.fr t)) := propext Iff.rfl
@[go_sem] theorem apX_loc {b o c p : Nat} : (apX (.loc b o) (.loc c p)) = (b ≠ c) := propext Iff.rfl
@[go_sem] theorem awp_ren {P : Program} {n0 : Nat} {σ : AState} {Q : AExit -> AState -> Prop} {t j : Nat} {a : ACode} : (awp P n0 (.ren t j a) σ Q) = (renK (n0 + j) t σ (fun τ => awp P n0 a τ Q) (fget σ.fr t)) := propext Iff.rfl
@[go_sem] theorem renK_loc {b c t : Nat} {σ : AState} {Q : AState -> Prop} : (renK b t σ Q (.loc c 0)) = (b < c /\ renC b c t σ.fr σ.hp Q σ.hp[b]? σ.hp[c]?) := propext Iff.rfl
@[go_sem] theorem renC_obj {b c t : Nat} {fr : List LV} {H : List ABlock} {Q : AState -> Prop} {cs ds : List LV} : (renC b c t fr H Q (some (.obj ds)) (some (.obj cs))) = (Q { fr := fset (fgtL (fun x => x == b || x == c) fr) t (.loc b 0), hp := ((H.map (fgtB fun x => x == b || x == c)).set b (.obj (fgtL (fun x => x == b || x == c) cs))).set c .gone }) := propext Iff.rfl
@[go_sem] theorem zapK_loc {H : List ABlock} {Q : List ABlock -> Prop} {b off o : Nat} : (zapK H off Q (.loc b o)) = (zapB H b (o + off) Q H[b]?) := propext Iff.rfl
@[go_sem] theorem zapB_obj {H : List ABlock} {Q : List ABlock -> Prop} {b i : Nat} {cs : List LV} : (zapB H b i Q (some (.obj cs))) = (zapC H b i cs Q cs[i]?) := propext Iff.rfl
@[go_sem] theorem zapC_some {H : List ABlock} {Q : List ABlock -> Prop} {b i : Nat} {cs : List LV} {c : LV} : (zapC H b i cs Q (some c)) = (frzvK H (fun v H' _ _ => Q (H'.set b (.obj (cs.set i v)))) c) := propext Iff.rfl
def regK (Q : AExit -> AState -> Prop) : AState -> Prop -> Prop := fun τ F => F -> Q .normal τ
noncomputable def thenK (P : Program) (n0 : Nat) (b : ACode) (Q : AExit -> AState -> Prop) : AExit -> AState -> Prop
 | .normal, τ => awp P n0 b τ Q
 | e, τ => Q e τ
def blockK (id : Nat) (Q : AExit -> AState -> Prop) : AExit -> AState -> Prop
 | .exit i, τ => if i = id then Q .normal τ else Q (.exit i) τ
 | e, τ => Q e τ
@[go_sem] theorem awp_seq {P : Program} {n0 : Nat} {σ : AState} {Q : AExit -> AState -> Prop} {a b : ACode} : (awp P n0 (.seq a b) σ Q) = (awp P n0 a σ (thenK P n0 b Q)) := by
 have h : (fun (e : AExit) (τ : AState) => match e with | .normal => awp P n0 b τ Q | e => Q e τ) = thenK P n0 b Q := by funext e τ; cases e <;> rfl
 rw [<- h]; exact propext Iff.rfl
@[go_sem] theorem awp_block {P : Program} {n0 : Nat} {σ : AState} {Q : AExit -> AState -> Prop} {i : Nat} {a : ACode} : (awp P n0 (.block i a) σ Q) = (awp P n0 a σ (blockK i Q)) := by
 have h : (fun (e : AExit) (τ : AState) => match e with | .exit j => if j = i then Q .normal τ else Q (.exit j) τ | e => Q e τ) = blockK i Q := by funext e τ; cases e <;> rfl
 rw [<- h]; exact propext Iff.rfl
noncomputable def condC (P : Program) (n0 : Nat) (a b : ACode) (σ : AState) (Q : AExit -> AState -> Prop) (t : Bool) : Prop := bsplit (awp P n0 a σ Q) (awp P n0 b σ Q) t
noncomputable def condV (P : Program) (n0 : Nat) (a b : ACode) (σ : AState) (Q : AExit -> AState -> Prop) (v : LV) : Prop := condK (awp P n0 a σ Q) (awp P n0 b σ Q) v
@[go_sem] theorem condC_dec {P : Program} {n0 : Nat} {a b : ACode} {σ : AState} {Q : AExit -> AState -> Prop} {p : Prop} [Decidable p] : (condC P n0 a b σ Q (decide p)) = ((p -> awp P n0 a σ Q) /\ (¬ p -> awp P n0 b σ Q)) := by
 unfold condC; by_cases h : p <;> simp [h, bsplit]
@[go_sem] theorem condC_not {P : Program} {n0 : Nat} {a b : ACode} {σ : AState} {Q : AExit -> AState -> Prop} {t : Bool} : condC P n0 a b σ Q (!t) = condC P n0 b a σ Q t := by unfold condC; cases t <;> rfl
@[go_sem] theorem condC_t {P : Program} {n0 : Nat} {a b : ACode} {σ : AState} {Q : AExit -> AState -> Prop} : (condC P n0 a b σ Q true) = (awp P n0 a σ Q) := propext Iff.rfl
@[go_sem] theorem condC_f {P : Program} {n0 : Nat} {a b : ACode} {σ : AState} {Q : AExit -> AState -> Prop} : (condC P n0 a b σ Q false) = (awp P n0 b σ Q) := propext Iff.rfl
@[go_sem] theorem condV_b {P : Program} {n0 : Nat} {a b : ACode} {σ : AState} {Q : AExit -> AState -> Prop} {t : Bool} : (condV P n0 a b σ Q (.s (.bool t))) = (condC P n0 a b σ Q t) := propext Iff.rfl
@[go_sem] theorem awp_cond {P : Program} {n0 : Nat} {fr : List LV} {H : List ABlock} {Q : AExit -> AState -> Prop} {x : AX} {a b : ACode} : (awp P n0 (.cond x a b) ⟨fr, H⟩ Q) = (condV P n0 a b ⟨fr, H⟩ Q (x.ev fr)) := propext Iff.rfl
@[go_sem] theorem awp_reg {P : Program} {n0 : Nat} {fr : List LV} {H : List ABlock} {Q : AExit -> AState -> Prop} {n : Nat} {ops : List AOper} : (awp P n0 (.reg n ops) ⟨fr, H⟩ Q) = (aops P n0 ops H.length ⟨fr, H ++ List.replicate n .gone⟩ True (regK Q)) := propext Iff.rfl
@[go_sem] theorem regK_ap {Q : AExit -> AState -> Prop} {τ : AState} {F : Prop} : (regK Q τ F) = (F -> Q .normal τ) := propext Iff.rfl
@[go_sem] theorem thenK_n {P : Program} {n0 : Nat} {b : ACode} {Q : AExit -> AState -> Prop} {τ : AState} : (thenK P n0 b Q .normal τ) = (awp P n0 b τ Q) := propext Iff.rfl
@[go_sem] theorem thenK_e {P : Program} {n0 : Nat} {b : ACode} {Q : AExit -> AState -> Prop} {τ : AState} {i : Nat} : (thenK P n0 b Q (.exit i) τ) = (Q (.exit i) τ) := propext Iff.rfl
@[go_sem] theorem thenK_r {P : Program} {n0 : Nat} {b : ACode} {Q : AExit -> AState -> Prop} {τ : AState} : (thenK P n0 b Q .ret τ) = (Q .ret τ) := propext Iff.rfl
@[go_sem] theorem blockK_n {Q : AExit -> AState -> Prop} {τ : AState} {i : Nat} : (blockK i Q .normal τ) = (Q .normal τ) := propext Iff.rfl
@[go_sem] theorem blockK_e {Q : AExit -> AState -> Prop} {τ : AState} {i j : Nat} : (blockK i Q (.exit j) τ) = (if j = i then Q .normal τ else Q (.exit j) τ) := propext Iff.rfl
@[go_sem] theorem blockK_r {Q : AExit -> AState -> Prop} {τ : AState} {i : Nat} : (blockK i Q .ret τ) = (Q .ret τ) := propext Iff.rfl
/-! Code with ranges over functions. -/
noncomputable def thenB (P : Program) (n0 : Nat) (b : BCode) (Q : AExit -> AState -> Prop) : AExit -> AState -> Prop
 | .normal, τ => bwp P n0 b τ Q
 | e, τ => Q e τ
@[go_sem] theorem bwp_seq {P : Program} {n0 : Nat} {σ : AState} {Q : AExit -> AState -> Prop} {a b : BCode} : (bwp P n0 (.seq a b) σ Q) = (bwp P n0 a σ (thenB P n0 b Q)) := by
 have h : (fun (e : AExit) (τ : AState) => match e with | .normal => bwp P n0 b τ Q | e => Q e τ) = thenB P n0 b Q := by funext e τ; cases e <;> rfl
 rw [<- h]; exact propext Iff.rfl
@[go_sem] theorem bwp_block {P : Program} {n0 : Nat} {σ : AState} {Q : AExit -> AState -> Prop} {i : Nat} {a : BCode} : (bwp P n0 (.block i a) σ Q) = (bwp P n0 a σ (blockK i Q)) := by
 have h : (fun (e : AExit) (τ : AState) => match e with | .exit j => if j = i then Q .normal τ else Q (.exit j) τ | e => Q e τ) = blockK i Q := by funext e τ; cases e <;> rfl
 rw [<- h]; exact propext Iff.rfl
noncomputable def condBC (P : Program) (n0 : Nat) (a b : BCode) (σ : AState) (Q : AExit -> AState -> Prop) (t : Bool) : Prop := bsplit (bwp P n0 a σ Q) (bwp P n0 b σ Q) t
noncomputable def condBV (P : Program) (n0 : Nat) (a b : BCode) (σ : AState) (Q : AExit -> AState -> Prop) (v : LV) : Prop := condK (bwp P n0 a σ Q) (bwp P n0 b σ Q) v
@[go_sem] theorem condBC_dec {P : Program} {n0 : Nat} {a b : BCode} {σ : AState} {Q : AExit -> AState -> Prop} {p : Prop} [Decidable p] : (condBC P n0 a b σ Q (decide p)) = ((p -> bwp P n0 a σ Q) /\ (¬ p -> bwp P n0 b σ Q)) := by
 unfold condBC; by_cases h : p <;> simp [h, bsplit]
@[go_sem] theorem condBC_not {P : Program} {n0 : Nat} {a b : BCode} {σ : AState} {Q : AExit -> AState -> Prop} {t : Bool} : condBC P n0 a b σ Q (!t) = condBC P n0 b a σ Q t := by unfold condBC; cases t <;> rfl
@[go_sem] theorem condBC_t {P : Program} {n0 : Nat} {a b : BCode} {σ : AState} {Q : AExit -> AState -> Prop} : (condBC P n0 a b σ Q true) = (bwp P n0 a σ Q) := propext Iff.rfl
@[go_sem] theorem condBC_f {P : Program} {n0 : Nat} {a b : BCode} {σ : AState} {Q : AExit -> AState -> Prop} : (condBC P n0 a b σ Q false) = (bwp P n0 b σ Q) := propext Iff.rfl
@[go_sem] theorem condBV_b {P : Program} {n0 : Nat} {a b : BCode} {σ : AState} {Q : AExit -> AState -> Prop} {t : Bool} : (condBV P n0 a b σ Q (.s (.bool t))) = (condBC P n0 a b σ Q t) := propext Iff.rfl
@[go_sem] theorem bwp_cond {P : Program} {n0 : Nat} {fr : List LV} {H : List ABlock} {Q : AExit -> AState -> Prop} {x : AX} {a b : BCode} : (bwp P n0 (.cond x a b) ⟨fr, H⟩ Q) = (condBV P n0 a b ⟨fr, H⟩ Q (x.ev fr)) := propext Iff.rfl
@[go_sem] theorem bwp_code {P : Program} {n0 : Nat} {σ : AState} {Q : AExit -> AState -> Prop} {a : ACode} : (bwp P n0 (.code a) σ Q) = (awp P n0 a σ Q) := propext Iff.rfl
@[go_sem] theorem bwp_scope {P : Program} {n0 : Nat} {σ : AState} {Q : AExit -> AState -> Prop} {a : BCode} : (bwp P n0 (.scope a) σ Q) = (bwp P n0 a σ Q) := propext Iff.rfl
@[go_sem] theorem thenB_n {P : Program} {n0 : Nat} {b : BCode} {Q : AExit -> AState -> Prop} {τ : AState} : (thenB P n0 b Q .normal τ) = (bwp P n0 b τ Q) := propext Iff.rfl
@[go_sem] theorem thenB_e {P : Program} {n0 : Nat} {b : BCode} {Q : AExit -> AState -> Prop} {τ : AState} {i : Nat} : (thenB P n0 b Q (.exit i) τ) = (Q (.exit i) τ) := propext Iff.rfl
@[go_sem] theorem thenB_r {P : Program} {n0 : Nat} {b : BCode} {Q : AExit -> AState -> Prop} {τ : AState} : (thenB P n0 b Q .ret τ) = (Q .ret τ) := propext Iff.rfl
@[go_sem] theorem bwp_pin {P : Program} {n0 : Nat} {fr : List LV} {H : List ABlock} {Q : AExit -> AState -> Prop} {t : Nat} {a : BCode} : (bwp P n0 (.pin t a) ⟨fr, H⟩ Q) = (pinK ⟨fr, H⟩ t (fun τ => bwp P n0 a τ Q) (fget fr t)) := propext Iff.rfl
@[go_sem] theorem pinK_loc {H : List ABlock} {t b : Nat} {fr : List LV} {Q : AState -> Prop} : (pinK ⟨fr, H⟩ t Q (.loc b 0)) = (pinB H t b fr Q H[b]?) := propext Iff.rfl
def pinC (H : List ABlock) (t : Nat) (b : Nat) (fr : List LV) (Q : AState -> Prop) (o : Option (List SV)) : Prop := exO o fun vs => Q { fr := fset fr t (.s (.ptr vs)), hp := H.set b (.frz vs) }
@[go_sem] theorem pinC_0 {H : List ABlock} {t : Nat} {b : Nat} {fr : List LV} {Q : AState -> Prop} {vs : List SV} : (pinC H t b fr Q (some vs)) = (Q { fr := fset fr t (.s (.ptr vs)), hp := H.set b (.frz vs) }) := propext Iff.rfl
@[go_sem] theorem pinB_obj {H : List ABlock} {t b : Nat} {fr : List LV} {Q : AState -> Prop} {cs : List LV} : (pinB H t b fr Q (some (.obj cs))) = (pinC H t b fr Q (frzAll (frz []) cs)) := propext Iff.rfl
end Go.E.Sm

/- How iterators are reckoned by simp. -/
namespace Go.E.Sm
open Go
def yaK (fr : List LV) (op : AOp) (rest : Option (List SV)) (k : YK) : AK := fun v H kl f => H = [] /\ kl = none /\ ylOk fr op v /\ k v rest f
@[go_sem] theorem yaK_ap {fr : List LV} {op : AOp} {rest : Option (List SV)} {k : YK} {v : LV} {f : Prop} : (yaK fr op rest k v [] none f) = (ylOk fr op v /\ k v rest f) := by simp [yaK]
@[go_sem] theorem yop_mov {P : Program} {fr : List LV} {rest : Option (List SV)} {k : YK} {x : AX} : yop P fr rest (.mov x) k = aop P 0 0 fr [] (.mov x) (yaK fr (.mov x) rest k) := propext Iff.rfl
@[go_sem] theorem yop_pick {P : Program} {fr : List LV} {rest : Option (List SV)} {k : YK} {c a b : AX} : yop P fr rest (.pick c a b) k = aop P 0 0 fr [] (.pick c a b) (yaK fr (.pick c a b) rest k) := propext Iff.rfl
@[go_sem] theorem ylOk_pick {fr : List LV} {v : LV} {c a b : AX} : ylOk fr (.pick c a b) v = (v.isYl = false) := propext Iff.rfl
@[go_sem] theorem yop_build {P : Program} {fr : List LV} {rest : Option (List SV)} {k : YK} {z : List LV} {ps : List (Nat × Nat × AX)} : yop P fr rest (.build z ps) k = aop P 0 0 fr [] (.build z ps) (yaK fr (.build z ps) rest k) := propext Iff.rfl
@[go_sem] theorem ylOk_build {fr : List LV} {v : LV} {z : List LV} {ps : List (Nat × Nat × AX)} : ylOk fr (.build z ps) v = (v.isYl = false) := propext Iff.rfl
@[go_sem] theorem yop_boxS {P : Program} {fr : List LV} {rest : Option (List SV)} {k : YK} {x : AX} : yop P fr rest (.boxS x) k = aop P 0 0 fr [] (.boxS x) (yaK fr (.boxS x) rest k) := propext Iff.rfl
@[go_sem] theorem ylOk_boxS {fr : List LV} {v : LV} {x : AX} : ylOk fr (.boxS x) v = (v.isYl = false) := propext Iff.rfl
@[go_sem] theorem yop_load {P : Program} {fr : List LV} {rest : Option (List SV)} {k : YK} {n : Nat} {g : Bool} {a : AX} : yop P fr rest (.load n g a) k = aop P 0 0 fr [] (.load n g a) (yaK fr (.load n g a) rest k) := propext Iff.rfl
@[go_sem] theorem ylOk_load {fr : List LV} {v : LV} {n : Nat} {g : Bool} {a : AX} : ylOk fr (.load n g a) v = (v.isYl = false) := propext Iff.rfl
@[go_sem] theorem yop_loadO {P : Program} {fr : List LV} {rest : Option (List SV)} {k : YK} {n : Nat} {g : Bool} {a : AX} : yop P fr rest (.loadO n g a) k = aop P 0 0 fr [] (.loadO n g a) (yaK fr (.loadO n g a) rest k) := propext Iff.rfl
@[go_sem] theorem ylOk_loadO {fr : List LV} {v : LV} {n : Nat} {g : Bool} {a : AX} : ylOk fr (.loadO n g a) v = (v.isYl = false) := propext Iff.rfl
@[go_sem] theorem yop_loadX {P : Program} {fr : List LV} {rest : Option (List SV)} {k : YK} {n r : Nat} {g : Bool} {a : AX} : yop P fr rest (.loadX n g a r) k = aop P 0 0 fr [] (.loadX n g a r) (yaK fr (.loadX n g a r) rest k) := propext Iff.rfl
@[go_sem] theorem ylOk_loadX {fr : List LV} {v : LV} {n r : Nat} {g : Bool} {a : AX} : ylOk fr (.loadX n g a r) v = (v.isYl = false) := propext Iff.rfl
@[go_sem] theorem yop_nilck {P : Program} {fr : List LV} {rest : Option (List SV)} {k : YK} {x : AX} : yop P fr rest (.nilck x) k = aop P 0 0 fr [] (.nilck x) (yaK fr (.nilck x) rest k) := propext Iff.rfl
@[go_sem] theorem ylOk_nilck {fr : List LV} {v : LV} {x : AX} : ylOk fr (.nilck x) v = (v.isYl = false) := propext Iff.rfl
@[go_sem] theorem yop_arith {P : Program} {fr : List LV} {rest : Option (List SV)} {k : YK} {o : BinOp} {x y : AX} : yop P fr rest (.arith o x y) k = aop P 0 0 fr [] (.arith o x y) (yaK fr (.arith o x y) rest k) := propext Iff.rfl
@[go_sem] theorem ylOk_arith {fr : List LV} {v : LV} {o : BinOp} {x y : AX} : ylOk fr (.arith o x y) v = (v.isYl = false) := propext Iff.rfl
@[go_sem] theorem yop_cmp {P : Program} {fr : List LV} {rest : Option (List SV)} {k : YK} {o : BinOp} {x y : AX} : yop P fr rest (.cmp o x y) k = aop P 0 0 fr [] (.cmp o x y) (yaK fr (.cmp o x y) rest k) := propext Iff.rfl
@[go_sem] theorem ylOk_cmp {fr : List LV} {v : LV} {o : BinOp} {x y : AX} : ylOk fr (.cmp o x y) v = (v.isYl = false) := propext Iff.rfl
@[go_sem] theorem yop_bits {P : Program} {fr : List LV} {rest : Option (List SV)} {k : YK} {o : BinOp} {x y : AX} : yop P fr rest (.bits o x y) k = aop P 0 0 fr [] (.bits o x y) (yaK fr (.bits o x y) rest k) := propext Iff.rfl
@[go_sem] theorem ylOk_bits {fr : List LV} {v : LV} {o : BinOp} {x y : AX} : ylOk fr (.bits o x y) v = (v.isYl = false) := propext Iff.rfl
@[go_sem] theorem yop_div {P : Program} {fr : List LV} {rest : Option (List SV)} {k : YK} {o : BinOp} {x y : AX} : yop P fr rest (.div o x y) k = aop P 0 0 fr [] (.div o x y) (yaK fr (.div o x y) rest k) := propext Iff.rfl
@[go_sem] theorem ylOk_div {fr : List LV} {v : LV} {o : BinOp} {x y : AX} : ylOk fr (.div o x y) v = (v.isYl = false) := propext Iff.rfl
@[go_sem] theorem yop_shift {P : Program} {fr : List LV} {rest : Option (List SV)} {k : YK} {o : BinOp} {x y : AX} : yop P fr rest (.shift o x y) k = aop P 0 0 fr [] (.shift o x y) (yaK fr (.shift o x y) rest k) := propext Iff.rfl
@[go_sem] theorem ylOk_shift {fr : List LV} {v : LV} {o : BinOp} {x y : AX} : ylOk fr (.shift o x y) v = (v.isYl = false) := propext Iff.rfl
@[go_sem] theorem yop_eql {P : Program} {fr : List LV} {rest : Option (List SV)} {k : YK} {g : Bool} {ts : List Tag} {ne : Bool} {x y : AX} : yop P fr rest (.eql g ts ne x y) k = aop P 0 0 fr [] (.eql g ts ne x y) (yaK fr (.eql g ts ne x y) rest k) := propext Iff.rfl
@[go_sem] theorem ylOk_eql {fr : List LV} {v : LV} {g : Bool} {ts : List Tag} {ne : Bool} {x y : AX} : ylOk fr (.eql g ts ne x y) v = (v.isYl = false) := propext Iff.rfl
@[go_sem] theorem yop_not {P : Program} {fr : List LV} {rest : Option (List SV)} {k : YK} {x : AX} : yop P fr rest (.not x) k = aop P 0 0 fr [] (.not x) (yaK fr (.not x) rest k) := propext Iff.rfl
@[go_sem] theorem ylOk_not {fr : List LV} {v : LV} {x : AX} : ylOk fr (.not x) v = (v.isYl = false) := propext Iff.rfl
@[go_sem] theorem yop_neg {P : Program} {fr : List LV} {rest : Option (List SV)} {k : YK} {x : AX} : yop P fr rest (.neg x) k = aop P 0 0 fr [] (.neg x) (yaK fr (.neg x) rest k) := propext Iff.rfl
@[go_sem] theorem ylOk_neg {fr : List LV} {v : LV} {x : AX} : ylOk fr (.neg x) v = (v.isYl = false) := propext Iff.rfl
@[go_sem] theorem yop_conv {P : Program} {fr : List LV} {rest : Option (List SV)} {k : YK} {K : IntKind} {x : AX} : yop P fr rest (.conv K x) k = aop P 0 0 fr [] (.conv K x) (yaK fr (.conv K x) rest k) := propext Iff.rfl
@[go_sem] theorem ylOk_conv {fr : List LV} {v : LV} {K : IntKind} {x : AX} : ylOk fr (.conv K x) v = (v.isYl = false) := propext Iff.rfl
@[go_sem] theorem yop_fieldAddr {P : Program} {fr : List LV} {rest : Option (List SV)} {k : YK} {o : Nat} {x : AX} : yop P fr rest (.fieldAddr o x) k = aop P 0 0 fr [] (.fieldAddr o x) (yaK fr (.fieldAddr o x) rest k) := propext Iff.rfl
@[go_sem] theorem ylOk_fieldAddr {fr : List LV} {v : LV} {o : Nat} {x : AX} : ylOk fr (.fieldAddr o x) v = (v.isYl = false) := propext Iff.rfl
@[go_sem] theorem yop_field {P : Program} {fr : List LV} {rest : Option (List SV)} {k : YK} {o n : Nat} {g : Bool} {x : AX} : yop P fr rest (.field o n g x) k = aop P 0 0 fr [] (.field o n g x) (yaK fr (.field o n g x) rest k) := propext Iff.rfl
@[go_sem] theorem ylOk_field {fr : List LV} {v : LV} {o n : Nat} {g : Bool} {x : AX} : ylOk fr (.field o n g x) v = (v.isYl = false) := propext Iff.rfl
@[go_sem] theorem yop_idxA {P : Program} {fr : List LV} {rest : Option (List SV)} {k : YK} {s : Nat} {x i : AX} : yop P fr rest (.idxA s x i) k = aop P 0 0 fr [] (.idxA s x i) (yaK fr (.idxA s x i) rest k) := propext Iff.rfl
@[go_sem] theorem ylOk_idxA {fr : List LV} {v : LV} {s : Nat} {x i : AX} : ylOk fr (.idxA s x i) v = (v.isYl = false) := propext Iff.rfl
@[go_sem] theorem yop_idxArrA {P : Program} {fr : List LV} {rest : Option (List SV)} {k : YK} {n s : Nat} {x i : AX} : yop P fr rest (.idxArrA n s x i) k = aop P 0 0 fr [] (.idxArrA n s x i) (yaK fr (.idxArrA n s x i) rest k) := propext Iff.rfl
@[go_sem] theorem ylOk_idxArrA {fr : List LV} {v : LV} {n s : Nat} {x i : AX} : ylOk fr (.idxArrA n s x i) v = (v.isYl = false) := propext Iff.rfl
@[go_sem] theorem yop_idx {P : Program} {fr : List LV} {rest : Option (List SV)} {k : YK} {n s : Nat} {g : Bool} {x i : AX} : yop P fr rest (.idx n s g x i) k = aop P 0 0 fr [] (.idx n s g x i) (yaK fr (.idx n s g x i) rest k) := propext Iff.rfl
@[go_sem] theorem ylOk_idx {fr : List LV} {v : LV} {n s : Nat} {g : Bool} {x i : AX} : ylOk fr (.idx n s g x i) v = (v.isYl = false) := propext Iff.rfl
@[go_sem] theorem yop_ext {P : Program} {fr : List LV} {rest : Option (List SV)} {k : YK} {x : AX} {j : Nat} : yop P fr rest (.ext x j) k = aop P 0 0 fr [] (.ext x j) (yaK fr (.ext x j) rest k) := propext Iff.rfl
@[go_sem] theorem ylOk_ext {fr : List LV} {v : LV} {x : AX} {j : Nat} : ylOk fr (.ext x j) v = (v.isYl = false) := propext Iff.rfl
@[go_sem] theorem yop_call {P : Program} {fr : List LV} {rest : Option (List SV)} {k : YK} {f : FuncId} {as : List AX} : yop P fr rest (.call f as) k = aop P 0 0 fr [] (.call f as) (yaK fr (.call f as) rest k) := propext Iff.rfl
@[go_sem] theorem ylOk_call {fr : List LV} {v : LV} {f : FuncId} {as : List AX} : ylOk fr (.call f as) v = (v.isYl = false) := propext Iff.rfl
@[go_sem] theorem yop_len {P : Program} {fr : List LV} {rest : Option (List SV)} {k : YK} {st : Bool} {x : AX} : yop P fr rest (.len st x) k = aop P 0 0 fr [] (.len st x) (yaK fr (.len st x) rest k) := propext Iff.rfl
@[go_sem] theorem ylOk_len {fr : List LV} {v : LV} {st : Bool} {x : AX} : ylOk fr (.len st x) v = (v.isYl = false) := propext Iff.rfl
@[go_sem] theorem yop_lenArr {P : Program} {fr : List LV} {rest : Option (List SV)} {k : YK} {n : Nat} : yop P fr rest (.lenArr n) k = aop P 0 0 fr [] (.lenArr n) (yaK fr (.lenArr n) rest k) := propext Iff.rfl
@[go_sem] theorem ylOk_lenArr {fr : List LV} {v : LV} {n : Nat} : ylOk fr (.lenArr n) v = (v.isYl = false) := propext Iff.rfl
@[go_sem] theorem yop_max {P : Program} {fr : List LV} {rest : Option (List SV)} {k : YK} {as : List AX} : yop P fr rest (.max as) k = aop P 0 0 fr [] (.max as) (yaK fr (.max as) rest k) := propext Iff.rfl
@[go_sem] theorem ylOk_max {fr : List LV} {v : LV} {as : List AX} : ylOk fr (.max as) v = (v.isYl = false) := propext Iff.rfl
@[go_sem] theorem yop_min {P : Program} {fr : List LV} {rest : Option (List SV)} {k : YK} {as : List AX} : yop P fr rest (.min as) k = aop P 0 0 fr [] (.min as) (yaK fr (.min as) rest k) := propext Iff.rfl
@[go_sem] theorem ylOk_min {fr : List LV} {v : LV} {as : List AX} : ylOk fr (.min as) v = (v.isYl = false) := propext Iff.rfl
@[go_sem] theorem yop_slice {P : Program} {fr : List LV} {rest : Option (List SV)} {k : YK} {s : Nat} {x : AX} {lo hi mx : Option AX} : yop P fr rest (.slice s x lo hi mx) k = aop P 0 0 fr [] (.slice s x lo hi mx) (yaK fr (.slice s x lo hi mx) rest k) := propext Iff.rfl
@[go_sem] theorem ylOk_slice {fr : List LV} {v : LV} {s : Nat} {x : AX} {lo hi mx : Option AX} : ylOk fr (.slice s x lo hi mx) v = (v.isYl = false) := propext Iff.rfl
@[go_sem] theorem ylOk_mov {fr : List LV} {x : AX} {v : LV} : ylOk fr (.mov x) v = (v = x.ev fr) := propext Iff.rfl
@[go_sem] theorem isYl_s {v : SV} : LV.isYl (.s v) = false := nr rfl
@[go_sem] theorem isYl_full {v : List SV} : LV.isYl (.full v) = false := nr rfl
@[go_sem] theorem isYl_agg {v : List LV} : LV.isYl (.agg v) = false := nr rfl
@[go_sem] theorem isYl_tup {v : List SV} : LV.isYl (.tup v) = false := nr rfl
@[go_sem] theorem isYl_any : LV.isYl .any = false := nr rfl
def yldC (k : YK) (rest : Option (List SV)) (v : SV) : Prop := yldK v k rest
@[go_sem] theorem yop_callv {P : Program} {fr : List LV} {rest : Option (List SV)} {k : YK} {f x : AX} : yop P fr rest (.callv f [x]) k = yopV P rest (x.ev fr) k (f.ev fr) := propext Iff.rfl
@[go_sem] theorem yopV_yl {P : Program} {rest : Option (List SV)} {k : YK} {x : LV} {l : Nat} : yopV P rest x k (.yl l) = exO (frz [] x) (yldC k rest) := propext Iff.rfl
@[go_sem] theorem yldC_cons {k : YK} {u v : SV} {r : List SV} : yldC k (some (u :: r)) v = (u = v /\ k (.s (.bool true)) (some r) True /\ k (.s (.bool false)) none True) := propext Iff.rfl
noncomputable def yctx (P : Program) (dst : Option Nat) (os : List AOper) (fr : List LV) (F : Prop) (q : List LV -> Option (List SV) -> Prop -> Prop) : YK := fun v rest f => yops P os (fpt fr dst v) rest (F /\ f) q
@[go_sem] theorem yctx_some {P : Program} {d : Nat} {os : List AOper} {fr : List LV} {F f : Prop} {q : List LV -> Option (List SV) -> Prop -> Prop} {v : LV} {rest : Option (List SV)} : (yctx P (some d) os fr F q v rest f) = (yops P os (fset fr d v) rest (F /\ f) q) := propext Iff.rfl
@[go_sem] theorem yctx_none {P : Program} {os : List AOper} {fr : List LV} {F f : Prop} {q : List LV -> Option (List SV) -> Prop -> Prop} {v : LV} {rest : Option (List SV)} : (yctx P none os fr F q v rest f) = (yops P os fr rest (F /\ f) q) := propext Iff.rfl
@[go_sem] theorem yops_nil {P : Program} {fr : List LV} {F : Prop} {q : List LV -> Option (List SV) -> Prop -> Prop} {rest : Option (List SV)} : (yops P [] fr rest F q) = (q fr rest F) := propext Iff.rfl
@[go_sem] theorem yops_go {P : Program} {fr : List LV} {F : Prop} {q : List LV -> Option (List SV) -> Prop -> Prop} {rest : Option (List SV)} {dst : Option Nat} {op : AOp} {os : List AOper} : (yops P (⟨dst, none, op⟩ :: os) fr rest F q) = (yop P fr rest op (yctx P dst os fr F q)) := propext Iff.rfl
noncomputable def ygrdC (P : Program) (fr : List LV) (rest : Option (List SV)) (g : Nat) (dst : Option Nat) (op : AOp) (os : List AOper) (F : Prop) (q : List LV -> Option (List SV) -> Prop -> Prop) (want b : Bool) : Prop :=
 grdB (fun b => yop P (fset fr g (.s (.bool b))) rest op (yctx P dst os (fset fr g (.s (.bool b))) F q)) (fun b => yctx P dst os (fset fr g (.s (.bool b))) F q (.tup []) rest True) b want
noncomputable def ygrdV (P : Program) (fr : List LV) (rest : Option (List SV)) (g : Nat) (dst : Option Nat) (op : AOp) (os : List AOper) (F : Prop) (q : List LV -> Option (List SV) -> Prop -> Prop) (want : Bool) (v : LV) : Prop :=
 grdK want (fun b => yop P (fset fr g (.s (.bool b))) rest op (yctx P dst os (fset fr g (.s (.bool b))) F q)) (fun b => yctx P dst os (fset fr g (.s (.bool b))) F q (.tup []) rest True) (yctx P dst os fr F q (.tup []) rest True) v
@[go_sem] theorem yops_guard {P : Program} {fr : List LV} {F : Prop} {q : List LV -> Option (List SV) -> Prop -> Prop} {rest : Option (List SV)} {dst : Option Nat} {op : AOp} {os : List AOper} {g : Nat} {want : Bool} : (yops P (⟨dst, some (g, want), op⟩ :: os) fr rest F q) = (ygrdV P fr rest g dst op os F q want (fget fr g)) := by
 unfold ygrdV yctx; simp only [yops, and_true]
@[go_sem] theorem ygrdV_b {P : Program} {fr : List LV} {F : Prop} {q : List LV -> Option (List SV) -> Prop -> Prop} {rest : Option (List SV)} {dst : Option Nat} {op : AOp} {os : List AOper} {g : Nat} {want b : Bool} : (ygrdV P fr rest g dst op os F q want (.s (.bool b))) = (ygrdC P fr rest g dst op os F q want b) := propext Iff.rfl
@[go_sem] theorem ygrdV_u {P : Program} {fr : List LV} {F : Prop} {q : List LV -> Option (List SV) -> Prop -> Prop} {rest : Option (List SV)} {dst : Option Nat} {op : AOp} {os : List AOper} {g : Nat} {want : Bool} : (ygrdV P fr rest g dst op os F q want (.tup [])) = (yctx P dst os fr F q (.tup []) rest True) := propext Iff.rfl
@[go_sem] theorem ygrdC_go {P : Program} {fr : List LV} {F : Prop} {q : List LV -> Option (List SV) -> Prop -> Prop} {rest : Option (List SV)} {dst : Option Nat} {op : AOp} {os : List AOper} {g : Nat} {b : Bool} : (ygrdC P fr rest g dst op os F q b b) = (yop P (fset fr g (.s (.bool b))) rest op (yctx P dst os (fset fr g (.s (.bool b))) F q)) := by cases b <;> rfl
@[go_sem] theorem ygrdC_tf {P : Program} {fr : List LV} {F : Prop} {q : List LV -> Option (List SV) -> Prop -> Prop} {rest : Option (List SV)} {dst : Option Nat} {op : AOp} {os : List AOper} {g : Nat} : (ygrdC P fr rest g dst op os F q true false) = (yctx P dst os (fset fr g (.s (.bool false))) F q (.tup []) rest True) := propext Iff.rfl
@[go_sem] theorem ygrdC_ft {P : Program} {fr : List LV} {F : Prop} {q : List LV -> Option (List SV) -> Prop -> Prop} {rest : Option (List SV)} {dst : Option Nat} {op : AOp} {os : List AOper} {g : Nat} : (ygrdC P fr rest g dst op os F q false true) = (yctx P dst os (fset fr g (.s (.bool true))) F q (.tup []) rest True) := propext Iff.rfl
def yregK (Q : AExit -> List LV -> Option (List SV) -> Prop) : List LV -> Option (List SV) -> Prop -> Prop := fun fr rest F => F -> Q .normal fr rest
@[go_sem] theorem yregK_ap {Q : AExit -> List LV -> Option (List SV) -> Prop} {fr : List LV} {rest : Option (List SV)} {F : Prop} : (yregK Q fr rest F) = (F -> Q .normal fr rest) := propext Iff.rfl
noncomputable def ythenK (P : Program) (b : ACode) (Q : AExit -> List LV -> Option (List SV) -> Prop) : AExit -> List LV -> Option (List SV) -> Prop
 | .normal, fr, rest => ywp P b fr rest Q
 | e, fr, rest => Q e fr rest
def yblockK (id : Nat) (Q : AExit -> List LV -> Option (List SV) -> Prop) : AExit -> List LV -> Option (List SV) -> Prop
 | .exit i, fr, rest => if i = id then Q .normal fr rest else Q (.exit i) fr rest
 | e, fr, rest => Q e fr rest
section
variable {P : Program} {a b : ACode} {fr : List LV} {rest : Option (List SV)} {Q : AExit -> List LV -> Option (List SV) -> Prop} {i j : Nat} {t : Bool}
@[go_sem] theorem ywp_skip : (ywp P .skip fr rest Q) = (Q .normal fr rest) := propext Iff.rfl
@[go_sem] theorem ywp_ret : (ywp P .ret fr rest Q) = (Q .ret fr rest) := propext Iff.rfl
@[go_sem] theorem ywp_exit : (ywp P (.exit i) fr rest Q) = (Q (.exit i) fr rest) := propext Iff.rfl
@[go_sem] theorem ywp_label : (ywp P (.label i) fr rest Q) = (Q .normal fr rest) := propext Iff.rfl
@[go_sem] theorem ywp_scope : (ywp P (.scope a) fr rest Q) = (ywp P a fr rest Q) := propext Iff.rfl
@[go_sem] theorem ywp_reg {n : Nat} {ops : List AOper} : (ywp P (.reg n ops) fr rest Q) = (yops P ops fr rest True (yregK Q)) := propext Iff.rfl
@[go_sem] theorem ywp_seq : (ywp P (.seq a b) fr rest Q) = (ywp P a fr rest (ythenK P b Q)) := by
 have h : (fun (e : AExit) (fr : List LV) (rest : Option (List SV)) => match e with | .normal => ywp P b fr rest Q | e => Q e fr rest) = ythenK P b Q := by funext e fr rest; cases e <;> rfl
 rw [<- h]; exact propext Iff.rfl
@[go_sem] theorem ywp_block : (ywp P (.block i a) fr rest Q) = (ywp P a fr rest (yblockK i Q)) := by
 have h : (fun (e : AExit) (fr : List LV) (rest : Option (List SV)) => match e with | .exit j => if j = i then Q .normal fr rest else Q (.exit j) fr rest | e => Q e fr rest) = yblockK i Q := by funext e fr rest; cases e <;> rfl
 rw [<- h]; exact propext Iff.rfl
noncomputable def ycondC (P : Program) (a b : ACode) (fr : List LV) (rest : Option (List SV)) (Q : AExit -> List LV -> Option (List SV) -> Prop) (t : Bool) : Prop := bsplit (ywp P a fr rest Q) (ywp P b fr rest Q) t
noncomputable def ycondV (P : Program) (a b : ACode) (fr : List LV) (rest : Option (List SV)) (Q : AExit -> List LV -> Option (List SV) -> Prop) (v : LV) : Prop := condK (ywp P a fr rest Q) (ywp P b fr rest Q) v
@[go_sem] theorem ywp_cond {x : AX} : (ywp P (.cond x a b) fr rest Q) = (ycondV P a b fr rest Q (x.ev fr)) := propext Iff.rfl
@[go_sem] theorem ycondV_b : (ycondV P a b fr rest Q (.s (.bool t))) = (ycondC P a b fr rest Q t) := propext Iff.rfl
@[go_sem] theorem ycondC_t : (ycondC P a b fr rest Q true) = (ywp P a fr rest Q) := propext Iff.rfl
@[go_sem] theorem ycondC_f : (ycondC P a b fr rest Q false) = (ywp P b fr rest Q) := propext Iff.rfl
@[go_sem] theorem ycondC_not : (ycondC P a b fr rest Q (!t)) = (ycondC P b a fr rest Q t) := by unfold ycondC; cases t <;> rfl
@[go_sem] theorem ycondC_dec {p : Prop} [Decidable p] : (ycondC P a b fr rest Q (decide p)) = ((p -> ywp P a fr rest Q) /\ (¬ p -> ywp P b fr rest Q)) := by
 unfold ycondC; by_cases h : p <;> simp [h, bsplit]
@[go_sem] theorem ythenK_n : (ythenK P b Q .normal fr rest) = (ywp P b fr rest Q) := propext Iff.rfl
@[go_sem] theorem ythenK_e : (ythenK P b Q (.exit i) fr rest) = (Q (.exit i) fr rest) := propext Iff.rfl
@[go_sem] theorem ythenK_r : (ythenK P b Q .ret fr rest) = (Q .ret fr rest) := propext Iff.rfl
@[go_sem] theorem yblockK_n : (yblockK i Q .normal fr rest) = (Q .normal fr rest) := propext Iff.rfl
@[go_sem] theorem yblockK_e : (yblockK i Q (.exit j) fr rest) = (if j = i then Q .normal fr rest else Q (.exit j) fr rest) := propext Iff.rfl
@[go_sem] theorem yblockK_r : (yblockK i Q .ret fr rest) = (Q .ret fr rest) := propext Iff.rfl
def yloopK (mask : List Bool) (I : List LV -> Option (List SV) -> Prop) (Q : AExit -> List LV -> Option (List SV) -> Prop) : AExit -> List LV -> Option (List SV) -> Prop
 | .normal, fr, rest => I (fmask mask fr) rest
 | e, fr, rest => Q e fr rest
variable {mask : List Bool} {I : List LV -> Option (List SV) -> Prop} {pr : List (Nat × Option Nat × Nat)}
@[go_sem] theorem yloopK_n : (yloopK mask I Q .normal fr rest) = (I (fmask mask fr) rest) := propext Iff.rfl
@[go_sem] theorem yloopK_e : (yloopK mask I Q (.exit i) fr rest) = (Q (.exit i) fr rest) := propext Iff.rfl
@[go_sem] theorem yloopK_r : (yloopK mask I Q .ret fr rest) = (Q .ret fr rest) := propext Iff.rfl
theorem ywp_loop (J : Nat -> List LV -> Option (List SV) -> Prop) (m : Nat) (h0 : J m (fmask mask fr) rest)
  (hs : ∀ (I : List LV -> Option (List SV) -> Prop) n fr rest, J n fr rest -> (∀ n' fr' rest', n' < n -> J n' fr' rest' -> I fr' rest') -> ywp P a fr rest (yloopK mask I Q)) : ywp P (.loop mask pr a) fr rest Q := by
 simp only [ywp]
 intro I hI
 have h : ∀ I : List LV -> Option (List SV) -> Prop, (fun (e : AExit) (fr' : List LV) (r' : Option (List SV)) => match e with | .normal => I (fmask mask fr') r' | e => Q e fr' r') = yloopK mask I Q := by intro I; funext e fr rest; cases e <;> rfl
 have hI : ∀ fr r, ywp P a fr r (yloopK mask I Q) -> I fr r := fun fr r hw => hI fr r (by rw [<- h I] at hw; exact hw)
 have key : ∀ n fr rest, J n fr rest -> I fr rest := by
  intro n
  induction n using Nat.strongRecOn with
  | _ n ih => exact fun fr rest hJ => hI fr rest (hs I n fr rest hJ fun n' fr' rest' hlt hJ' => ih n' hlt fr' rest' hJ')
 exact key _ _ _ h0
end
/-! loops -/
def loopK (mask : List Bool) (n : Nat) (I : AState -> Prop) (Q : AExit -> AState -> Prop) : AExit -> AState -> Prop
 | .normal, τ => I (norm mask n τ)
 | e, τ => Q e τ
section
variable {P : Program} {n0 n i : Nat} {mask : List Bool} {I : AState -> Prop} {Q : AExit -> AState -> Prop} {τ : AState} {pr : List (Nat × Option Nat × Nat)} {a : ACode} {σ : AState} {fr : List LV} {H : List ABlock}
@[go_sem] theorem loopK_n : (loopK mask n I Q .normal τ) = (I (norm mask n τ)) := propext Iff.rfl
@[go_sem] theorem loopK_e : (loopK mask n I Q (.exit i) τ) = (Q (.exit i) τ) := propext Iff.rfl
@[go_sem] theorem loopK_r : (loopK mask n I Q .ret τ) = (Q .ret τ) := propext Iff.rfl
@[go_sem] theorem norm_mk : norm mask n ⟨fr, H⟩ = ⟨fgtL (fun b => decide (n <= b)) (fmask mask fr), (H.take n).map (fgtB fun b => decide (n <= b))⟩ := rfl
@[go_sem] theorem promote_nil : promote [] σ = σ := rfl
@[go_sem] theorem promote_cons {d sz : Nat} {c : Option Nat} : promote ((d, c, sz) :: pr) σ = promote pr (promote1 d c sz σ) := rfl
@[go_sem] theorem hp_mk : AState.hp ⟨fr, H⟩ = H := rfl
@[go_sem] theorem fr_mk : AState.fr ⟨fr, H⟩ = fr := rfl
theorem loop_rule (J : Nat -> AState -> Prop) (m : Nat) {σ' : AState} (hσ : promote pr σ = σ') (h0 : J m (norm mask σ'.hp.length σ'))
  (hs : ∀ (I : AState -> Prop) k τ, J k τ -> (∀ k' τ', k' < k -> J k' τ' -> I τ') -> awp P n0 a τ (loopK mask σ'.hp.length I Q)) : awp P n0 (.loop mask pr a) σ Q := by
 subst hσ
 refine awp_loop J m h0 fun I k τ hJ hI => ?_
 have h : (fun (e : AExit) (τ' : AState) => match e with | .normal => I (norm mask (promote pr σ).hp.length τ') | e => Q e τ') = loopK mask (promote pr σ).hp.length I Q := by funext e τ; cases e <;> rfl
 have := hs I k τ hJ hI
 rw [<- h] at this
 exact this
end
end Go.E.Sm
