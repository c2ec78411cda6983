/- How the value semantics is reckoned by simp: one lemma a step, first order throughout. -/
import Derived.Test.YtikfhfgdmlijeaaGreatJ4

set_option linter.all false

namespace Go.E.Sm
open Go
theorem nr {α : Sort _} {a b : α} (h : a = b) : a = b := h ▸ rfl
@[go_sem] theorem qsM {α : Type} {a : α} {f : α -> Prop} : exO (some a) f = f a := propext Iff.rfl
theorem qkf {α : Type} {o : Option α} {f : α -> Prop} {a : α} (h : o = some a) (k : f a) : exO o f := by rw [h]; exact k
@[go_sem] theorem qrB {v : LV} {vs : List LV} : fget (v :: vs) 0 = v := nr rfl
@[go_sem] theorem qrC {v : LV} {vs : List LV} {n : Nat} : fget (v :: vs) (n + 1) = fget vs n := nr rfl
@[go_sem] theorem qrD {v x : LV} {vs : List LV} : fset (v :: vs) 0 x = x :: vs := nr rfl
@[go_sem] theorem qrE {v x : LV} {vs : List LV} {n : Nat} : fset (v :: vs) (n + 1) x = v :: fset vs n x := nr rfl
@[go_sem] theorem qua {v : LV} {vs : List LV} {m : List Bool} : fmask (true :: m) (v :: vs) = v :: fmask m vs := nr rfl
@[go_sem] theorem qub {v : LV} {vs : List LV} {m : List Bool} : fmask (false :: m) (v :: vs) = .any :: fmask m vs := nr rfl
@[go_sem] theorem quc {vs : List LV} : fmask [] vs = vs := nr rfl
@[go_sem] theorem ev_t {fr : List LV} {n : Nat} : AX.ev fr (.t n) = fget fr n := nr rfl
@[go_sem] theorem ev_c {fr : List LV} {v : LV} : AX.ev fr (.c v) = v := nr rfl
@[go_sem] theorem qud {v : SV} : LV.isOne (.s v) = !v.isAgg := nr rfl
@[go_sem] theorem qrF {b off : Nat} : LV.isOne (.loc b off) = true := nr rfl
@[go_sem] theorem qpD {fr : List LV} {x : AX} : optEv fr (some x) = some (x.ev fr) := nr rfl
@[go_sem] theorem qpE {fr : List LV} : optEv fr none = none := nr rfl
@[go_sem] theorem qvV {p : Nat -> Bool} {v : SV} : fgt p (.s v) = .s v := nr rfl
@[go_sem] theorem que {p : Nat -> Bool} : fgt p (.any) = .any := nr rfl
@[go_sem] theorem qsN {p : Nat -> Bool} {xs : List SV} : fgt p (.full xs) = .full xs := nr rfl
@[go_sem] theorem quf {p : Nat -> Bool} {b off : Nat} : fgt p (.loc b off) = if p b then .any else .loc b off := nr rfl
@[go_sem] theorem qvq {p : Nat -> Bool} {b off len sz : Nat} {c : Bool} : fgt p (.sl b off len sz c) = if p b then .any else .sl b off len sz c := nr rfl
@[go_sem] theorem qvr {p : Nat -> Bool} {b : Nat} : fgt p (.mp b) = if p b then .any else .mp b := nr rfl
@[go_sem] theorem qug {p : Nat -> Bool} {cs : List LV} : fgt p (.agg cs) = .agg (fgtL p cs) := nr rfl
@[go_sem] theorem qvs {p : Nat -> Bool} {f : FuncId} {a b : List LV} : fgt p (.fn f a b) = .fn f (fgtL p a) (fgtL p b) := nr rfl
@[go_sem] theorem qsO {p : Nat -> Bool} : fgtL p [] = [] := nr rfl
@[go_sem] theorem qrG {p : Nat -> Bool} {c : LV} {cs : List LV} : fgtL p (c :: cs) = fgt p c :: fgtL p cs := nr rfl
@[go_sem] theorem qaW {p : Nat -> Bool} {cs : List LV} : fgtB p (.obj cs) = .obj (fgtL p cs) := nr rfl
@[go_sem] theorem fgtB_row {p : Nat -> Bool} {cs : List SV} : fgtB p (.row cs) = .row cs := nr rfl
@[go_sem] theorem qsP {p : Nat -> Bool} {cs : List SV} : fgtB p (.frz cs) = .frz cs := nr rfl
@[go_sem] theorem qsQ {p : Nat -> Bool} {ks vs : List SV} : fgtB p (.map ks vs) = .map ks vs := nr rfl
@[go_sem] theorem qsR {p : Nat -> Bool} {left : List (SV × SV)} {last : Option (SV × SV)} : fgtB p (.mit left last) = .mit left last := nr rfl
@[go_sem] theorem qrH {p : Nat -> Bool} {ks vs : List SV} {bs : List Nat} {bm c : Nat} : fgtB p (.mapc ks vs bs bm c) = .mapc ks vs bs bm c := nr rfl
@[go_sem] theorem qrI {p : Nat -> Bool} {m bm c : Nat} {S : List Nat} : fgtB p (.mitx m bm c S) = .mitx m bm c S := nr rfl
@[go_sem] theorem qrJ {p : Nat -> Bool} : fgtB p (.gone) = .gone := nr rfl
@[go_sem] theorem qpF {g : LV -> Option SV} : frzAll g [] = some [] := nr rfl
@[go_sem] theorem qd8 {g : LV -> Option SV} {c : LV} {cs : List LV} : frzAll g (c :: cs) = (g c).bind fun a => (frzAll g cs).map fun as => a :: as := by
 simp only [frzAll]; cases g c with
 | none => rfl
 | some a => cases frzAll g cs <;> rfl
@[go_sem] theorem qf5 {g : LV -> Option SV} : ∀ (cs ds : List LV), frzAll g (cs ++ ds) = (frzAll g cs).bind fun a => (frzAll g ds).map fun b => a ++ b
 | [], ds => by simp [frzAll]
 | c :: cs, ds => by
  simp only [List.cons_append, qd8, qf5 cs ds]
  cases g c <;> cases frzAll g cs <;> cases frzAll g ds <;> simp
@[go_sem] theorem qgz {H : List ABlock} {n : Nat} : ∀ (cs : List SV), frzAll (frzV H (n + 1)) (cs.map .s) = some cs
 | [] => rfl
 | c :: cs => by
  have h : frzV H (n + 1) (.s c) = some c := by simp only [frzV]
  simp only [List.map_cons, qd8, qgz cs, h]; rfl
@[go_sem] theorem quh {H : List ABlock} {v : LV} : frz H v = frzV H 4 v := nr rfl
@[go_sem] theorem qsS {H : List ABlock} : frz H = frzV H 4 := nr rfl
@[go_sem] theorem qvt {H : List ABlock} {n : Nat} {v : SV} : frzV H (n + 1) (.s v) = some v := nr rfl
@[go_sem] theorem qrK {H : List ABlock} {n : Nat} {xs : List SV} : frzV H (n + 1) (.full xs) = some (.slice xs) := nr rfl
@[go_sem] theorem qsT {H : List ABlock} {n : Nat} {cs : List LV} : frzV H (n + 1) (.agg cs) = (frzAll (frzV H n) cs).map .agg := nr rfl
@[go_sem] theorem qui {H : List ABlock} {n : Nat} {f : FuncId} {a b : List LV} : frzV H (n + 1) (.fn f a b) = (frzAll (frzV H n) a).bind fun x => (frzAll (frzV H n) b).map fun y => .fn f x y := by
 simp only [frzV]; cases frzAll (frzV H n) a <;> cases frzAll (frzV H n) b <;> rfl
def ptrOf (off : Nat) (cs : List SV) : Option SV := if off <= cs.length then some (.ptr (cs.drop off)) else none
def sliceOf (off len sz : Nat) (cs : List SV) : Option SV := if off + len * sz <= cs.length then some (.slice (elems sz len (cs.drop off))) else none
@[go_sem] theorem qsU {H : List ABlock} {n b off : Nat} : frzV H (n + 1) (.loc b off) = (blkCells (frzV H n) H[b]?).bind (ptrOf off) := by
 simp only [frzV]
 cases hb : H[b]? with
 | none => rfl
 | some B => cases B <;> simp only [blkCells, ptrOf, Option.bind] <;> (try rfl) <;> (rename_i cs; cases frzAll (frzV H n) cs <;> rfl)
@[go_sem] theorem quj {H : List ABlock} {n b off len sz : Nat} {c : Bool} : frzV H (n + 1) (.sl b off len sz c) = (blkCells (frzV H n) H[b]?).bind (sliceOf off len sz) := by
 simp only [frzV]
 cases hb : H[b]? with
 | none => rfl
 | some B => cases B <;> simp only [blkCells, sliceOf, Option.bind] <;> (try rfl) <;> (rename_i cs; cases frzAll (frzV H n) cs <;> rfl)
@[go_sem] theorem qpG {cs : List SV} : ptrOf 0 cs = some (.ptr cs) := nr (by simp [ptrOf])
theorem qhD {len : Nat} {cs : List SV} (h : len = cs.length) : sliceOf 0 len 1 cs = some (.slice cs) := by
 subst h; simp [sliceOf, elems]
@[go_sem] theorem quk {g : LV -> Option SV} {cs : List LV} : blkCells g (some (.obj cs)) = frzAll g cs := nr rfl
@[go_sem] theorem blk_row {g : LV -> Option SV} {cs : List SV} : blkCells g (some (.row cs)) = some cs := nr rfl
@[go_sem] theorem qrL {H : List ABlock} {xs : List SV} : elemsOf H (.s (.slice xs)) = some xs := nr rfl
@[go_sem] theorem qoi {H : List ABlock} {xs : List SV} : elemsOf H (.full xs) = some xs := nr rfl
theorem qa6 {len : Nat} {cs : List SV} (h : len = cs.length) : rowOf 0 len 1 cs = some cs := by
 subst h; simp [rowOf, elems]
@[go_sem] theorem qrM {K : IntKind} {n : Int} : SV.isAgg (.int K n) = false := nr rfl
@[go_sem] theorem qrN {K : IntKind} {n : Int} : SV.cells (.int K n) = [.int K n] := nr rfl
@[go_sem] theorem qcS {K : IntKind} {n : Int} : SV.flat (.int K n) = true := nr rfl
@[go_sem] theorem qoX {xs : List SV} : SV.isAgg (.slice xs) = false := nr rfl
@[go_sem] theorem qoY {xs : List SV} : SV.cells (.slice xs) = [.slice xs] := nr rfl
@[go_sem] theorem qrO {cs : List SV} : SV.isAgg (.ptr cs) = false := nr rfl
@[go_sem] theorem qsV {f : FuncId} {a c : List SV} : SV.isAgg (.fn f a c) = false := nr rfl
@[go_sem] theorem qsW {f : FuncId} {a c : List SV} : SV.cells (.fn f a c) = [.fn f a c] := nr rfl
@[go_sem] theorem qrP {a c : List SV} : SV.isAgg (.map a c) = false := nr rfl
@[go_sem] theorem qrQ {cs : List SV} : SV.cells (.agg cs) = cs := nr rfl
@[go_sem] theorem qsX {v : SV} : LV.isAgg (.s v) = v.isAgg := nr rfl
@[go_sem] theorem qrR {b o l z : Nat} {c : Bool} : LV.isAgg (.sl b o l z c) = false := nr rfl
@[go_sem] theorem qrS {b o l z : Nat} {c : Bool} : LV.cells (.sl b o l z c) = some [.sl b o l z c] := nr rfl
@[go_sem] theorem qoZ {xs : List SV} : LV.isAgg (.full xs) = false := nr rfl
@[go_sem] theorem qrT {b : Nat} : LV.isAgg (.mp b) = false := nr rfl
@[go_sem] theorem qrU {b : Nat} : LV.cells (.mp b) = some [.mp b] := nr rfl
@[go_sem] theorem qsY {v : SV} : LV.cells (.s v) = some (v.cells.map .s) := nr rfl
@[go_sem] theorem qpH {cs : List LV} : LV.cells (.agg cs) = some cs := nr rfl
@[go_sem] theorem qrV {v : SV} : LV.ofResults [v] = .s v := nr rfl
@[go_sem] theorem qrW {v u : SV} {vs : List SV} : LV.ofResults (v :: u :: vs) = .tup (v :: u :: vs) := nr rfl
def selS (H : List ABlock) (k : AK) (o : Option SV) : Prop := exO o fun c => c.isAgg = false /\ k (.s c) H none True
@[go_sem] theorem qvu {H : List ABlock} {k : AK} {c : SV} : (selS H k (some c)) = (c.isAgg = false /\ k (.s c) H none True) := propext Iff.rfl
def selL (H : List ABlock) (k : AK) (o : Option LV) : Prop := exO o fun c => c.isAgg = false /\ k c H none True
@[go_sem] theorem qvv {H : List ABlock} {k : AK} {c : LV} : (selL H k (some c)) = (c.isAgg = false /\ k c H none True) := propext Iff.rfl
@[go_sem] theorem qul {H : List ABlock} {k : AK} {cs : List SV} {off n : Nat} : (partS H cs off n k true) = (off + n <= cs.length /\ k (.s (.agg ((cs.drop off).take n))) H none True) := propext Iff.rfl
@[go_sem] theorem qum {H : List ABlock} {k : AK} {cs : List SV} {off n : Nat} : (partS H cs off n k false) = (selS H k cs[off]?) := propext Iff.rfl
@[go_sem] theorem qun {H : List ABlock} {k : AK} {cs : List LV} {off n : Nat} : (partL H cs off n k true) = (off + n <= cs.length /\ k (.agg ((cs.drop off).take n)) H none True) := propext Iff.rfl
@[go_sem] theorem qup {H : List ABlock} {k : AK} {cs : List LV} {off n : Nat} : (partL H cs off n k false) = (selL H k cs[off]?) := propext Iff.rfl
@[go_sem] theorem quq {H : List ABlock} {k : AK} {cs : List LV} {off n : Nat} {g : Bool} : (ldB H off n g k (some (.obj cs))) = (partL H cs off n k g) := propext Iff.rfl
@[go_sem] theorem ldB_row {H : List ABlock} {k : AK} {cs : List SV} {off n : Nat} {g : Bool} : (ldB H off n g k (some (.row cs))) = (partS H cs off n k g) := propext Iff.rfl
@[go_sem] theorem qur {H : List ABlock} {k : AK} {cs : List SV} {n : Nat} {g : Bool} : (ldK H n g k (.s (.ptr cs))) = (partS H cs 0 n k g) := propext Iff.rfl
@[go_sem] theorem qus {H : List ABlock} {k : AK} {b off n : Nat} {g : Bool} : (ldK H n g k (.loc b off)) = (ldB H off n g k H[b]?) := propext Iff.rfl
def stX (H : List ABlock) (k : AK) (b : Nat) (off : Nat) (n : Nat) (cs : List LV) (o : Option (List LV)) : Prop := exO o fun xs => xs.length = n /\ off + n <= cs.length /\ k (.tup []) (H.set b (.obj (splice cs off xs))) none True
@[go_sem] theorem qvW {H : List ABlock} {k : AK} {b : Nat} {off : Nat} {n : Nat} {cs : List LV} {xs : List LV} : (stX H k b off n cs (some xs)) = (xs.length = n /\ off + n <= cs.length /\ k (.tup []) (H.set b (.obj (splice cs off xs))) none True) := propext Iff.rfl
def stY (H : List ABlock) (k : AK) (b : Nat) (off : Nat) (n : Nat) (cs : List SV) (o : Option SV) : Prop := exO o fun v => v.cells.length = n /\ off + n <= cs.length /\ k (.tup []) (H.set b (.row (splice cs off v.cells))) none True
@[go_sem] theorem qvX {H : List ABlock} {k : AK} {b : Nat} {off : Nat} {n : Nat} {cs : List SV} {v : SV} : (stY H k b off n cs (some v)) = (v.cells.length = n /\ off + n <= cs.length /\ k (.tup []) (H.set b (.row (splice cs off v.cells))) none True) := propext Iff.rfl
@[go_sem] theorem qut {H : List ABlock} {k : AK} {b off n : Nat} {x : LV} {cs : List LV} : (stB H b off n x k (some (.obj cs))) = (stX H k b off n cs x.cells) := propext Iff.rfl
@[go_sem] theorem stB_row {H : List ABlock} {k : AK} {b off n : Nat} {x : LV} {cs : List SV} : (stB H b off n x k (some (.row cs))) = (stY H k b off n cs (frz [] x)) := propext Iff.rfl
@[go_sem] theorem quu {H : List ABlock} {k : AK} {b off n : Nat} {x : LV} : (stK H n x k (.loc b off)) = (stB H b off n x k H[b]?) := propext Iff.rfl
def pickC (H : List ABlock) (k : AK) (a b : LV) (t : Bool) : Prop := bsplit (k a H none True) (k b H none True) t
@[go_sem] theorem quv {H : List ABlock} {k : AK} {a b : LV} : (pickC H k a b true) = (k a H none True) := propext Iff.rfl
@[go_sem] theorem quw {H : List ABlock} {k : AK} {a b : LV} : (pickC H k a b false) = (k b H none True) := propext Iff.rfl
@[go_sem] theorem qux {H : List ABlock} {k : AK} {a b : LV} {t : Bool} : (pickK H a b k (.s (.bool t))) = (pickC H k a b t) := propext Iff.rfl
@[go_sem] theorem qpI {H : List ABlock} {k : AK} {cs : List SV} : (nilckK H k (.s (.ptr cs))) = (k (.s (.ptr cs)) H none True) := propext Iff.rfl
@[go_sem] theorem qpJ {H : List ABlock} {k : AK} {b o : Nat} : (nilckK H k (.loc b o)) = (k (.loc b o) H none True) := propext Iff.rfl
@[go_sem] theorem qpK {H : List ABlock} {k : AK} {K : IntKind} {a b : Int} : (arithI H K a b k .add) = (inR K (a + b) /\ k (.s (.int K (a + b))) H none True) := propext Iff.rfl
@[go_sem] theorem qpL {H : List ABlock} {k : AK} {K : IntKind} {a b : Int} : (arithI H K a b k .sub) = (inR K (a - b) /\ k (.s (.int K (a - b))) H none True) := propext Iff.rfl
@[go_sem] theorem qpM {H : List ABlock} {k : AK} {K : IntKind} {a b : Int} : (arithI H K a b k .mul) = (inR K (a * b) /\ k (.s (.int K (a * b))) H none True) := propext Iff.rfl
@[go_sem] theorem qsZ {H : List ABlock} {k : AK} {K K' : IntKind} {a b : Int} {op : BinOp} : (arithK H op k (.s (.int K a)) (.s (.int K' b))) = (K = K' /\ arithI H K a b k op) := propext Iff.rfl
@[go_sem] theorem qs0 {H : List ABlock} {k : AK} {K : IntKind} {a b : Int} : (divI H K a b k .quo) = (inR K (a.tdiv b) /\ k (.s (.int K (a.tdiv b))) H none True) := propext Iff.rfl
@[go_sem] theorem qs1 {H : List ABlock} {k : AK} {K : IntKind} {a b : Int} : (divI H K a b k .rem) = (k (.s (.int K (a.tmod b))) H none True) := propext Iff.rfl
@[go_sem] theorem qvw {H : List ABlock} {k : AK} {K K' : IntKind} {a b : Int} {op : BinOp} : (divK H op k (.s (.int K a)) (.s (.int K' b))) = (K = K' /\ b ≠ 0 /\ divI H K a b k op) := propext Iff.rfl
@[go_sem] theorem quy {H : List ABlock} {k : AK} {K K' : IntKind} {a b : Int} {op : BinOp} : (bitsK H op k (.s (.int K a)) (.s (.int K' b))) = (K = K' /\ k (.s (.int K (bitOf K a b op))) H none True) := propext Iff.rfl
@[go_sem] theorem qpN {H : List ABlock} {k : AK} {K : IntKind} {a b : Int} : (shiftI H K a b k .shl) = (inR K (a * 2 ^ b.toNat) /\ k (.s (.int K (a * 2 ^ b.toNat))) H none True) := propext Iff.rfl
@[go_sem] theorem qpO {H : List ABlock} {k : AK} {K : IntKind} {a b : Int} : (shiftI H K a b k .shr) = (k (.s (.int K (a.fdiv (2 ^ b.toNat)))) H none True) := propext Iff.rfl
@[go_sem] theorem qs2 {H : List ABlock} {k : AK} {K K' : IntKind} {a b : Int} {op : BinOp} : (shiftK H op k (.s (.int K a)) (.s (.int K' b))) = (0 <= b /\ b < K.bits /\ shiftI H K a b k op) := propext Iff.rfl
@[go_sem] theorem qs3 {H : List ABlock} {k : AK} {a b : Int} : (cmpI H a b k .lss) = (k (.s (.bool (decide (a < b)))) H none True) := propext Iff.rfl
@[go_sem] theorem qs4 {H : List ABlock} {k : AK} {a b : Int} : (cmpI H a b k .leq) = (k (.s (.bool (decide (a <= b)))) H none True) := propext Iff.rfl
@[go_sem] theorem qs5 {H : List ABlock} {k : AK} {a b : Int} : (cmpI H a b k .gtr) = (k (.s (.bool (decide (b < a)))) H none True) := propext Iff.rfl
@[go_sem] theorem qs6 {H : List ABlock} {k : AK} {a b : Int} : (cmpI H a b k .geq) = (k (.s (.bool (decide (b <= a)))) H none True) := propext Iff.rfl
@[go_sem] theorem qs7 {H : List ABlock} {k : AK} {a b : Int} : (cmpI H a b k .eql) = (k (.s (.bool (decide (a = b)))) H none True) := propext Iff.rfl
@[go_sem] theorem qs8 {H : List ABlock} {k : AK} {a b : Int} : (cmpI H a b k .neq) = (k (.s (.bool (!decide (a = b)))) H none True) := propext Iff.rfl
@[go_sem] theorem qvx {H : List ABlock} {k : AK} {K K' : IntKind} {a b : Int} {op : BinOp} : (cmpK H op k (.s (.int K a)) (.s (.int K' b))) = (K = K' /\ cmpI H a b k op) := propext Iff.rfl
open Classical in
@[go_sem] theorem qvy {H : List ABlock} {k : AK} {a b : SV} : (eqlR H a b k true) = (k (.s (.bool (!decide (a = b)))) H none True) := propext Iff.rfl
open Classical in
@[go_sem] theorem qvz {H : List ABlock} {k : AK} {a b : SV} : (eqlR H a b k false) = (k (.s (.bool (decide (a = b)))) H none True) := propext Iff.rfl
noncomputable def eqlC (H : List ABlock) (ag : Bool) (ts : List Tag) (k : AK) (ne : Bool) (x y : Option SV) : Prop := exO x fun a => exO y fun b => eqOk ts ag a b /\ eqlR H a b k ne
@[go_sem] theorem quz {H : List ABlock} {k : AK} {ag : Bool} {ts : List Tag} {ne : Bool} {a b : SV} : (eqlC H ag ts k ne (some a) (some b)) = (eqOk ts ag a b /\ eqlR H a b k ne) := propext Iff.rfl
@[go_sem] theorem qs9 {H : List ABlock} {k : AK} {ag : Bool} {ts : List Tag} {ne : Bool} {x y : LV} : (eqlK H ag ts ne k x y) = (eqlC H ag ts k ne (frz H x) (frz H y)) := propext Iff.rfl
@[go_sem] theorem quA {k : IntKind} {n : Int} : SV.tag (.int k n) = .int k := nr rfl
@[go_sem] theorem qvA {ts : List Tag} {cs ds : List SV} : (eqOk ts true (.agg cs) (.agg ds)) = (cs.map SV.tag = ts /\ ds.map SV.tag = ts) := propext Iff.rfl
@[go_sem] theorem qvB {H : List ABlock} {k : AK} {b : Bool} : (notK H k (.s (.bool b))) = (k (.s (.bool (!b))) H none True) := propext Iff.rfl
@[go_sem] theorem qvC {H : List ABlock} {k : AK} {K : IntKind} {n : Int} : (negK H k (.s (.int K n))) = (inR K (0 - n) /\ k (.s (.int K (-n))) H none True) := propext Iff.rfl
@[go_sem] theorem quB {H : List ABlock} {k : AK} {K K' : IntKind} {n : Int} : (convK H K k (.s (.int K' n))) = (inR K n /\ k (.s (.int K n)) H none True) := propext Iff.rfl
@[go_sem] theorem qoj {d : Nat} : boundOf d none = some d := nr rfl
@[go_sem] theorem qo0 {d : Nat} {K : IntKind} {n : Int} : boundOf d (some (.s (.int K n))) = if 0 <= n then some n.toNat else none := nr rfl
@[go_sem] theorem qrX {sz : Nat} {xs : List SV} : szAt sz 0 xs = True := nr (by simp [szAt])
@[go_sem] theorem qo1 {H : List ABlock} {k : AK} {h : Nat} {a b : LV} : (sliceM H h a b k none) = (k a H none True) := propext Iff.rfl
@[go_sem] theorem qo2 {H : List ABlock} {k : AK} {h : Nat} {a b m : LV} : (sliceM H h a b k (some m)) = (boundOf 0 (some m) = some h /\ k b H none True) := propext Iff.rfl
def slcS (H : List ABlock) (k : AK) (sz : Nat) (xs : List SV) (mx : Option LV) (l : Option Nat) (h : Option Nat) : Prop := exO l fun l => exO h fun h => l <= h /\ h <= xs.length /\ szAt sz l xs /\ sliceM H h (.s (.slice ((xs.drop l).take (h - l)))) (.full ((xs.drop l).take (h - l))) k mx
@[go_sem] theorem qvD {H : List ABlock} {k : AK} {sz : Nat} {xs : List SV} {mx : Option LV} {l h : Nat} : (slcS H k sz xs mx (some l) (some h)) = (l <= h /\ h <= xs.length /\ szAt sz l xs /\ sliceM H h (.s (.slice ((xs.drop l).take (h - l)))) (.full ((xs.drop l).take (h - l))) k mx) := propext Iff.rfl
def slcF (H : List ABlock) (k : AK) (sz : Nat) (xs : List SV) (mx : Option LV) (l : Option Nat) (h : Option Nat) : Prop := exO l fun l => exO h fun h => l <= h /\ h <= xs.length /\ szAt sz l xs /\ sliceM H h (if h = xs.length then .full (xs.drop l) else .s (.slice ((xs.drop l).take (h - l)))) (.full ((xs.drop l).take (h - l))) k mx
@[go_sem] theorem qvE {H : List ABlock} {k : AK} {sz : Nat} {xs : List SV} {mx : Option LV} {l h : Nat} : (slcF H k sz xs mx (some l) (some h)) = (l <= h /\ h <= xs.length /\ szAt sz l xs /\ sliceM H h (if h = xs.length then .full (xs.drop l) else .s (.slice ((xs.drop l).take (h - l)))) (.full ((xs.drop l).take (h - l))) k mx) := propext Iff.rfl
def slcL (H : List ABlock) (k : AK) (b : Nat) (off : Nat) (len : Nat) (sz : Nat) (c : Bool) (mx : Option LV) (l : Option Nat) (h : Option Nat) : Prop := exO l fun l => exO h fun h => l <= h /\ h <= len /\ sliceM H h (.sl b (off + l * sz) (h - l) sz (c && decide (h = len))) (.sl b (off + l * sz) (h - l) sz true) k mx
@[go_sem] theorem qvF {H : List ABlock} {k : AK} {b : Nat} {off : Nat} {len : Nat} {sz : Nat} {c : Bool} {mx : Option LV} {l h : Nat} : (slcL H k b off len sz c mx (some l) (some h)) = (l <= h /\ h <= len /\ sliceM H h (.sl b (off + l * sz) (h - l) sz (c && decide (h = len))) (.sl b (off + l * sz) (h - l) sz true) k mx) := propext Iff.rfl
def slcO (H : List ABlock) (k : AK) (n : Nat) (sz : Nat) (b : Nat) (off : Nat) (l : Option Nat) (h : Option Nat) : Prop := exO l fun l => exO h fun h => l <= h /\ h <= n /\ 0 < n /\ 0 < sz /\ n <= maxLen /\ arrFits (off + n * sz) H[b]? /\ k (.sl b (off + l * sz) (h - l) sz (decide (h = n))) H none True
@[go_sem] theorem qvG {H : List ABlock} {k : AK} {n : Nat} {sz : Nat} {b : Nat} {off : Nat} {l h : Nat} : (slcO H k n sz b off (some l) (some h)) = (l <= h /\ h <= n /\ 0 < n /\ 0 < sz /\ n <= maxLen /\ arrFits (off + n * sz) H[b]? /\ k (.sl b (off + l * sz) (h - l) sz (decide (h = n))) H none True) := propext Iff.rfl
@[go_sem] theorem qta {H : List ABlock} {k : AK} {sz : Nat} {lo hi mx : Option LV} {xs : List SV} : (sliceK H sz lo hi mx k (.s (.slice xs))) = (slcS H k sz xs mx (boundOf 0 lo) (boundOf xs.length hi)) := by unfold sliceK slcS; congr
@[go_sem] theorem qo3 {H : List ABlock} {k : AK} {sz : Nat} {lo hi mx : Option LV} {xs : List SV} : (sliceK H sz lo hi mx k (.full xs)) = (slcF H k sz xs mx (boundOf 0 lo) (boundOf xs.length hi)) := by unfold sliceK slcF; congr
@[go_sem] theorem qrY {H : List ABlock} {k : AK} {sz b off len sz' : Nat} {c : Bool} {lo hi mx : Option LV} : (sliceK H sz lo hi mx k (.sl b off len sz' c)) = (sz = sz' /\ slcL H k b off len sz c mx (boundOf 0 lo) (boundOf len hi)) := by unfold sliceK slcL; congr
@[go_sem] theorem qnX {H : List ABlock} {k : AK} {n sz b off : Nat} {lo hi : Option LV} : (sliceArrK H n sz lo hi k (.loc b off)) = (slcO H k n sz b off (boundOf 0 lo) (boundOf n hi)) := by unfold sliceArrK slcO; congr
@[go_sem] theorem qo4 {n : Nat} {cs : List LV} : (arrFits n (some (.obj cs))) = (n <= cs.length) := propext Iff.rfl
def idxR (H : List ABlock) (k : AK) (sz : Nat) (o : Option SV) : Prop := exO o fun e => e.cells.length = sz /\ k (.s (.ptr e.cells)) H none True
@[go_sem] theorem qvH {H : List ABlock} {k : AK} {sz : Nat} {e : SV} : (idxR H k sz (some e)) = (e.cells.length = sz /\ k (.s (.ptr e.cells)) H none True) := propext Iff.rfl
@[go_sem] theorem quC {H : List ABlock} {k : AK} {sz : Nat} {n : Int} {xs : List SV} : (idxAI H sz n k (.s (.slice xs))) = (idxR H k sz xs[n.toNat]?) := propext Iff.rfl
@[go_sem] theorem qvI {H : List ABlock} {k : AK} {xs : List SV} : (lenK H k false (.s (.slice xs))) = (k (.s (.int .i64 xs.length)) H none (xs.length <= maxLen)) := propext Iff.rfl
@[go_sem] theorem qrZ {H : List ABlock} {k : AK} {xs : List SV} : (lenK H k false (.full xs)) = (k (.s (.int .i64 xs.length)) H none (xs.length <= maxLen)) := propext Iff.rfl
@[go_sem] theorem qtb {H : List ABlock} {k : AK} {sz b off len sz' : Nat} {c : Bool} {n : Int} : (idxAI H sz n k (.sl b off len sz' c)) = (sz = sz' /\ n < len /\ k (.loc b (off + n.toNat * sz)) H none True) := propext Iff.rfl
@[go_sem] theorem quD {H : List ABlock} {k : AK} {b off len sz : Nat} {c : Bool} : (lenK H k false (.sl b off len sz c)) = (k (.s (.int .i64 len)) H none (len <= maxLen)) := propext Iff.rfl
@[go_sem] theorem quE {H : List ABlock} {k : AK} {sz : Nat} {x : LV} {K : IntKind} {n : Int} : (idxAK H sz x k (.s (.int K n))) = (0 <= n /\ idxAI H sz n k x) := propext Iff.rfl
@[go_sem] theorem qok {H : List ABlock} {k : AK} {sz b off : Nat} {n : Int} : (idxArrAI H sz n k (.loc b off)) = (k (.loc b (off + n.toNat * sz)) H none True) := propext Iff.rfl
@[go_sem] theorem qpP {H : List ABlock} {k : AK} {m sz : Nat} {x : LV} {K : IntKind} {n : Int} : (idxArrAK H m sz x k (.s (.int K n))) = (0 <= n /\ n < m /\ idxArrAI H sz n k x) := propext Iff.rfl
@[go_sem] theorem qm9 {H : List ABlock} {k : AK} {off : Nat} {cs : List SV} : (fieldAddrK H off k (.s (.ptr cs))) = (off <= cs.length /\ k (.s (.ptr (cs.drop off))) H none True) := propext Iff.rfl
@[go_sem] theorem qna {H : List ABlock} {k : AK} {off b o : Nat} : (fieldAddrK H off k (.loc b o)) = (k (.loc b (o + off)) H none True) := propext Iff.rfl
def extR (H : List ABlock) (k : AK) (o : Option SV) : Prop := exO o fun v => k (.s v) H none True
@[go_sem] theorem qvJ {H : List ABlock} {k : AK} {v : SV} : (extR H k (some v)) = (k (.s v) H none True) := propext Iff.rfl
@[go_sem] theorem qvK {H : List ABlock} {k : AK} {j : Nat} {vs : List SV} : (extK H j k (.tup vs)) = (extR H k vs[j]?) := propext Iff.rfl
def apF (H : List ABlock) (k : AK) (i : Nat) (sz : Nat) (bs : Nat) (xs : List SV) (o : Option (List SV)) : Prop := exO o fun ys => fitsE sz bs xs ys /\ newRowK H i sz (.full xs) xs ys k
@[go_sem] theorem qvY {H : List ABlock} {k : AK} {i : Nat} {sz : Nat} {bs : Nat} {xs : List SV} {ys : List SV} : (apF H k i sz bs xs (some ys)) = (fitsE sz bs xs ys /\ newRowK H i sz (.full xs) xs ys k) := propext Iff.rfl
@[go_sem] theorem qnY {H : List ABlock} {k : AK} {i sz bs : Nat} {m : Int} : (appendMK H i sz bs k (.full []) (.s (.int .i64 m))) = (0 < m /\ m.toNat * bs <= 2 ^ 46 /\ m < 2 ^ 60 /\ 0 < sz /\ H[i]? = some .gone /\ k (.sl i 0 m.toNat sz false) (H.set i (.row [])) none True) := propext Iff.rfl
@[go_sem] theorem qnZ {H : List ABlock} {k : AK} {i sz bs : Nat} {x : LV} {xs : List SV} : (appendNK H i sz bs x k (.full xs)) = (apF H k i sz bs xs (elemsOf H x)) := propext Iff.rfl
@[go_sem] theorem appendB_row {H : List ABlock} {k : AK} {b off len sz bs : Nat} {ys cs : List SV} : (appendB H b off len sz bs ys k (some (.row cs))) = (off + len * sz = cs.length /\ (len + ys.length) * bs <= 2 ^ 46 /\ len + ys.length < 2 ^ 60 /\ k (.sl b 0 (len + ys.length) sz false) (H.set b (.row (cs.drop off ++ flatE ys))) (some b) True) := propext Iff.rfl
def apG (H : List ABlock) (k : AK) (b : Nat) (off : Nat) (len : Nat) (sz : Nat) (bs : Nat) (o : Option (List SV)) : Prop := exO o fun ys => (∀ y ∈ ys, y.cells.length = sz) /\ appendB H b off len sz bs ys k H[b]?
@[go_sem] theorem qvZ {H : List ABlock} {k : AK} {b : Nat} {off : Nat} {len : Nat} {sz : Nat} {bs : Nat} {ys : List SV} : (apG H k b off len sz bs (some ys)) = ((∀ y ∈ ys, y.cells.length = sz) /\ appendB H b off len sz bs ys k H[b]?) := propext Iff.rfl
def frC (H : List ABlock) (k : AK) (b : Nat) (off : Nat) (len : Nat) (sz : Nat) (o : Option ABlock) : Prop := frzvB H b off len sz k o
@[go_sem] theorem qv0 {H : List ABlock} {k : AK} {b : Nat} {off : Nat} {len : Nat} {sz : Nat} {cs : List SV} : (frC H k b off len sz (some (.row cs))) = (∃ ys, rowOf off len sz cs = some ys /\ k (.s (.slice ys)) (H.set b (.frz cs)) none True) := propext Iff.rfl
def apV (H : List ABlock) (k : AK) (sz : Nat) (bs : Nat) (xs : List SV) (o : Option (List SV)) : Prop := exO o fun ys => fitsE sz bs xs ys /\ ys ≠ [] /\ k (.s (.slice (xs ++ ys))) H none True
@[go_sem] theorem qv1 {H : List ABlock} {k : AK} {sz : Nat} {bs : Nat} {xs : List SV} {ys : List SV} : (apV H k sz bs xs (some ys)) = (fitsE sz bs xs ys /\ ys ≠ [] /\ k (.s (.slice (xs ++ ys))) H none True) := propext Iff.rfl
@[go_sem] theorem qn0 {H : List ABlock} {k : AK} {sz bs : Nat} {x : LV} {xs : List SV} : (appendZK H sz bs x k (.full xs)) = (apV H k sz bs xs (elemsOf H x)) := propext Iff.rfl
@[go_sem] theorem qn1 {n0 : Nat} {H : List ABlock} {k : AK} {i sz bs b off len sz' : Nat} {ys : List SV} : (appendYK H n0 i sz bs (.full ys) k (.sl b off len sz' false)) = (sz = sz' /\ n0 <= b /\ (∀ y ∈ ys, y.cells.length = sz) /\ appendYB H i b off len sz bs ys k H[b]?) := propext Iff.rfl
@[go_sem] theorem appendYB_row {H : List ABlock} {k : AK} {i b off len sz bs : Nat} {ys cs : List SV} : (appendYB H i b off len sz bs ys k (some (.row cs))) = (off + len * sz = cs.length /\ (len + ys.length) * bs <= 2 ^ 46 /\ len + ys.length < 2 ^ 60 /\ ys ≠ [] /\ H[i]? = some .gone /\ k (.sl i 0 (len + ys.length) sz false) ((H.set b (.frz [])).set i (.row (cs.drop off ++ flatE ys))) none True) := propext Iff.rfl
@[go_sem] theorem qtc {H : List ABlock} {k : AK} {b off len sz : Nat} {c : Bool} : (frzvK H k (.sl b off len sz c)) = (frC H k b off len sz H[b]?) := propext Iff.rfl
@[go_sem] theorem quF {H : List ABlock} {k : AK} {v : SV} : (frzvK H k (.s v)) = (k (.s v) H none True) := propext Iff.rfl
@[go_sem] theorem qpQ {n0 : Nat} {H : List ABlock} {k : AK} {i sz bs : Nat} {x : LV} {b off len sz' : Nat} : (appendK H n0 i sz bs x k (.sl b off len sz' false)) = (sz = sz' /\ n0 <= b /\ apG H k b off len sz bs (elemsOf H x)) := propext Iff.rfl
@[go_sem] theorem copyB_row {H : List ABlock} {k : AK} {b off len sz : Nat} {ys cs : List SV} : (copyB H b off len sz ys k (some (.row cs))) = (off + len * sz <= cs.length /\ k (.s (.int .i64 (Nat.min ys.length len : Nat))) (H.set b (.row (splice cs off (flatE (ys.take len))))) none True) := propext Iff.rfl
@[go_sem] theorem qr0 {H : List ABlock} {k : AK} {b off len sz : Nat} {ys : List SV} {cs : List LV} : (copyB H b off len sz ys k (some (.obj cs))) = (off + len * sz <= cs.length /\ k (.s (.int .i64 (Nat.min ys.length len : Nat))) (H.set b (.obj (splice cs off ((flatE (ys.take len)).map .s)))) none True) := propext Iff.rfl
def cpR (H : List ABlock) (k : AK) (b : Nat) (off : Nat) (len : Nat) (sz : Nat) (o : Option (List SV)) : Prop := exO o fun ys => (∀ y ∈ ys, y.cells.length = sz) /\ copyB H b off len sz ys k H[b]?
@[go_sem] theorem qv2 {H : List ABlock} {k : AK} {b : Nat} {off : Nat} {len : Nat} {sz : Nat} {ys : List SV} : (cpR H k b off len sz (some ys)) = ((∀ y ∈ ys, y.cells.length = sz) /\ copyB H b off len sz ys k H[b]?) := propext Iff.rfl
@[go_sem] theorem qtd {H : List ABlock} {k : AK} {sz : Nat} {s : LV} {b off len sz' : Nat} {c : Bool} : (copyK H sz s k (.sl b off len sz' c)) = (sz = sz' /\ cpR H k b off len sz (elemsOf H s)) := propext Iff.rfl
@[go_sem] theorem clearB_row {H : List ABlock} {k : AK} {b off len sz : Nat} {z cs : List SV} : (clearB H b off len sz z k (some (.row cs))) = (off + len * sz <= cs.length /\ k (.tup []) (H.set b (.row (splice cs off (List.replicate len z).flatten))) none True) := propext Iff.rfl
@[go_sem] theorem qr1 {H : List ABlock} {k : AK} {sz : Nat} {z : List SV} {b off len sz' : Nat} {c : Bool} : (clearK H sz z k (.sl b off len sz' c)) = (sz = sz' /\ z.length = sz /\ clearB H b off len sz z k H[b]?) := propext Iff.rfl
@[go_sem] theorem qpR {H : List ABlock} {k : AK} {i sz bs : Nat} {z : List SV} {n m : Int} : (mksliceK H i sz bs z k (.s (.int .i64 n)) (.s (.int .i64 m))) = (0 <= n /\ n <= m /\ m * bs <= 2 ^ 46 /\ m < 2 ^ 60 /\ z.length = sz /\ 0 < sz /\ H[i]? = some .gone /\ k (.sl i 0 n.toNat sz (decide (n = m))) (H.set i (.row (List.replicate n.toNat z).flatten)) none True) := propext Iff.rfl
@[go_sem] theorem qo5 {H : List ABlock} {k : AK} {ne : Bool} {xs : List SV} : (eqNilK H ne k (some xs)) = ((xs = [] -> k (.s (.bool (!ne))) H none True) /\ k (.s (.bool ne)) H none True) := propext Iff.rfl
theorem qa {P : Program} {H : List ABlock} {f : FuncId} {args : List LV} {k : AK} {as rs : List SV} (h : frzAll (frz H) args = some as) (hf : Fn P f as rs)
  (hr : rs.all SV.flat = true \/ frzAll (frz []) args = some as \/ freshR P f as rs) (hk : k (LV.ofResults rs) H none True) : callK P H f args k := ⟨as, rs, h, hf, hr, hk⟩
@[go_sem] theorem qte {P : Program} {H : List ABlock} {k : AK} {f : FuncId} {x y : List SV} {a : List LV} : (callvK P H a k (.s (.fn f x y))) = (okFn P f = true /\ ((x.map LV.s).all LV.isOne && (y.map LV.s).all LV.isOne) = true /\ callK P H f (x.map .s ++ a ++ y.map .s) k) := propext Iff.rfl
@[go_sem] theorem qtf {P : Program} {H : List ABlock} {k : AK} {f : FuncId} {x y a : List LV} : (callvK P H a k (.fn f x y)) = (okFn P f = true /\ (x.all LV.isOne && y.all LV.isOne) = true /\ callK P H f (x ++ a ++ y) k) := propext Iff.rfl
noncomputable def mgC (H : List ABlock) (k : AK) (c : Bool) (ts : List Tag) (zero : SV) (b : Nat) (o : Option SV) : Prop := exO o fun kv => mgetB H c ts zero kv k H[b]?
noncomputable def mgS (H : List ABlock) (k : AK) (c : Bool) (ts : List Tag) (zero : SV) (ks : List SV) (vs : List SV) (o : Option SV) : Prop := exO o fun kv => keyOk ts kv ks /\ ks.Nodup /\ mgetI H c zero vs k (mFind kv ks)
@[go_sem] theorem qv3 {H : List ABlock} {k : AK} {c : Bool} {ts : List Tag} {zero : SV} {ks : List SV} {vs : List SV} {kv : SV} : (mgS H k c ts zero ks vs (some kv)) = (keyOk ts kv ks /\ ks.Nodup /\ mgetI H c zero vs k (mFind kv ks)) := propext Iff.rfl
@[go_sem] theorem quG {H : List ABlock} {k : AK} {c : Bool} {ts : List Tag} {zero : SV} {kx : LV} {ks vs : List SV} : (mgetK H c ts zero kx k (.s (.map ks vs))) = (mgS H k c ts zero ks vs (frz [] kx)) := propext Iff.rfl
@[go_sem] theorem qtg {H : List ABlock} {k : AK} {c : Bool} {ts : List Tag} {zero : SV} {kx : LV} {ks vs : List SV} : (mgetSK H c ts zero kx k (.s (.map ks vs))) = (mgS H k c ts zero ks vs (frz [] kx)) := propext Iff.rfl
noncomputable def msC2 (H : List ABlock) (k : AK) (b : Nat) (ts : List Tag) (kv : SV) (o : Option SV) : Prop := exO o fun v => msetB H b ts kv v k H[b]?
@[go_sem] theorem qvL {H : List ABlock} {k : AK} {b : Nat} {ts : List Tag} {kv : SV} {v : SV} : (msC2 H k b ts kv (some v)) = (msetB H b ts kv v k H[b]?) := propext Iff.rfl
noncomputable def msC (H : List ABlock) (k : AK) (b : Nat) (ts : List Tag) (x : LV) (o : Option SV) : Prop := exO o fun kv => msC2 H k b ts kv (frz [] x)
@[go_sem] theorem qv4 {H : List ABlock} {k : AK} {b : Nat} {ts : List Tag} {x : LV} {kv : SV} : (msC H k b ts x (some kv)) = (msC2 H k b ts kv (frz [] x)) := propext Iff.rfl
@[go_sem] theorem qth {H : List ABlock} {k : AK} {ts : List Tag} {kx x : LV} {b : Nat} : (msetK H ts kx x k (.mp b)) = (msC H k b ts x (frz [] kx)) := propext Iff.rfl
@[go_sem] theorem qr2 {H : List ABlock} {k : AK} {b : Nat} {ts : List Tag} {kv v : SV} {ks vs : List SV} : (msetB H b ts kv v k (some (.map ks vs))) = (keyOk ts kv ks /\ k (.tup []) (H.set b (mPut kv v ks vs (mFind kv ks))) none True) := propext Iff.rfl
noncomputable def mdC (H : List ABlock) (k : AK) (b : Nat) (ts : List Tag) (o : Option SV) : Prop := exO o fun kv => mdelB H b ts kv k H[b]?
@[go_sem] theorem qv5 {H : List ABlock} {k : AK} {b : Nat} {ts : List Tag} {kv : SV} : (mdC H k b ts (some kv)) = (mdelB H b ts kv k H[b]?) := propext Iff.rfl
@[go_sem] theorem qti {H : List ABlock} {k : AK} {ts : List Tag} {kx : LV} {b : Nat} : (mdelK H ts kx k (.mp b)) = (mdC H k b ts (frz [] kx)) := propext Iff.rfl
@[go_sem] theorem qpS {H : List ABlock} {k : AK} {b bm c : Nat} {ts : List Tag} {kv : SV} {ks vs : List SV} {bs : List Nat} : (mdelB H b ts kv k (some (.mapc ks vs bs bm c))) = (keyOk ts kv ks /\ k (.tup []) (H.set b (mCutC ks vs bs bm c (mFind kv ks))) none True) := propext Iff.rfl
@[go_sem] theorem qpT {id : Nat} {H : List ABlock} {k : AK} {b : Nat} : (rangeMK H id k (.mp b)) = (H[id]? = some .gone /\ rangeX H id b k H[b]?) := propext Iff.rfl
@[go_sem] theorem qpU {id : Nat} {H : List ABlock} {k : AK} {b : Nat} {ks vs : List SV} : (rangeX H id b k (some (.map ks vs))) = (∀ (bs : List Nat) (bm c : Nat), bs.length = ks.length -> bs.Nodup -> k (.loc id 0) ((H.set b (.mapc ks vs bs bm c)).set id (.mitx b bm c [])) none True) := propext Iff.rfl
@[go_sem] theorem qol {H : List ABlock} {k : AK} {m bm c : Nat} {S : List Nat} : (entryMB H k (some (.mitx m bm c S))) = (entryX H bm c S k H[m]?) := propext Iff.rfl
@[go_sem] theorem qo6 {H : List ABlock} {k : AK} {bm c bm' c' : Nat} {S bs : List Nat} {ks vs : List SV} : (entryX H bm c S k (some (.mapc ks vs bs bm' c'))) = (bm' = bm /\ c' = c /\ ∃ (i s : Nat) (S' : List Nat) (key v : SV), S = s :: S' /\ ks[i]? = some key /\ vs[i]? = some v /\ bs[i]? = some s /\ k (.tup [key, v]) H none True) := propext Iff.rfl
@[go_sem] theorem qr3 {H : List ABlock} {k : AK} {xs : List SV} : (capK H k (.full xs)) = (k (.s (.int .i64 xs.length)) H none (xs.length <= maxLen)) := propext Iff.rfl
@[go_sem] theorem qo7 {H : List ABlock} {k : AK} {b m bm c : Nat} {S : List Nat} : (nextMB H b k (some (.mitx m bm c S))) = (nextX H b m bm c S k H[m]?) := propext Iff.rfl
@[go_sem] theorem qpV {H : List ABlock} {k : AK} {b m bm c bm' c' : Nat} {S bs : List Nat} {ks vs : List SV} : (nextX H b m bm c S k (some (.mapc ks vs bs bm' c'))) = (bm' = bm /\ c' = c /\ ((∀ s ∈ bs, s ∈ S) -> k (.tup [.bool false]) H none True) /\ ∀ (i s : Nat) key v, ks[i]? = some key -> vs[i]? = some v -> bs[i]? = some s -> s ∉ S -> k (.tup [.bool true, key, v]) (H.set b (.mitx m bm c (s :: S))) none True) := propext Iff.rfl
@[go_sem] theorem qtj {H : List ABlock} {k : AK} {b : Nat} : (frzvK H k (.mp b)) = (frzvM H b k H[b]?) := propext Iff.rfl
@[go_sem] theorem qpW {H : List ABlock} {k : AK} {b bm c : Nat} {bs : List Nat} {ks vs : List SV} : (frzvM H b k (some (.mapc ks vs bs bm c))) = (k (.mp b) (H.set b (.map ks vs)) none True) := propext Iff.rfl
@[go_sem] theorem qr4 {id : Nat} {H : List ABlock} {k : AK} {ks vs : List SV} : (rangeMK H id k (.s (.map ks vs))) = (H[id]? = some .gone /\ k (.loc id 0) (H.set id (.mit (ks.zip vs) none)) none True) := propext Iff.rfl
@[go_sem] theorem qpX {H : List ABlock} {k : AK} {b : Nat} : (nextMK H k (.loc b 0)) = (nextMB H b k H[b]?) := propext Iff.rfl
@[go_sem] theorem qpY {H : List ABlock} {k : AK} {b : Nat} {left : List (SV × SV)} {last : Option (SV × SV)} : (nextMB H b k (some (.mit left last))) = ((left = [] -> k (.tup [.bool false]) H none True) /\ ∀ l1 e l2, left = l1 ++ e :: l2 -> k (.tup [.bool true, e.1, e.2]) (H.set b (.mit (l1 ++ l2) (some e))) none True) := propext Iff.rfl
@[go_sem] theorem qo8 {H : List ABlock} {k : AK} {b : Nat} : (entryMK H k (.loc b 0)) = (entryMB H k H[b]?) := propext Iff.rfl
@[go_sem] theorem qo9 {H : List ABlock} {k : AK} {left : List (SV × SV)} {e : SV × SV} : (entryMB H k (some (.mit left (some e)))) = (k (.tup [e.1, e.2]) H none True) := propext Iff.rfl
def boxC (H : List ABlock) (k : AK) (id : Nat) (o : Option (List LV)) : Prop := exO o fun cs => H[id]? = some .gone /\ k (.loc id 0) (H.set id (.obj cs)) none True
@[go_sem] theorem qvM {H : List ABlock} {k : AK} {id : Nat} {cs : List LV} : (boxC H k id (some cs)) = (H[id]? = some .gone /\ k (.loc id 0) (H.set id (.obj cs)) none True) := propext Iff.rfl
def boxP (H : List ABlock) (k : AK) (o : Option SV) : Prop := exO o fun v => k (.s (.ptr v.cells)) H none True
@[go_sem] theorem qvN {H : List ABlock} {k : AK} {v : SV} : (boxP H k (some v)) = (k (.s (.ptr v.cells)) H none True) := propext Iff.rfl
def bldC (H : List ABlock) (k : AK) (o : Option (List LV)) : Prop := exO o fun cs => k (.agg cs) H none True
@[go_sem] theorem qvO {H : List ABlock} {k : AK} {cs : List LV} : (bldC H k (some cs)) = (k (.agg cs) H none True) := propext Iff.rfl
def bsl (H : List ABlock) (k : AK) (sz : Nat) (n : Nat) (zero : SV) (is : List Nat) (o : Option (List SV)) : Prop := exO o fun xs => is = List.range n /\ (∀ e ∈ xs, e.cells.length = sz) /\ zero.cells.length = sz /\ k (.full xs) H none True
@[go_sem] theorem qv6 {H : List ABlock} {k : AK} {sz : Nat} {n : Nat} {zero : SV} {is : List Nat} {xs : List SV} : (bsl H k sz n zero is (some xs)) = (is = List.range n /\ (∀ e ∈ xs, e.cells.length = sz) /\ zero.cells.length = sz /\ k (.full xs) H none True) := propext Iff.rfl
def bslR (H : List ABlock) (k : AK) (id : Nat) (sz : Nat) (n : Nat) (zero : SV) (is : List Nat) (o : Option (List SV)) : Prop := exO o fun xs => is = List.range n /\ (∀ e ∈ xs, e.cells.length = sz) /\ zero.cells.length = sz /\ H[id]? = some .gone /\ k (.sl id 0 n sz false) (H.set id (.row (flatE xs))) none True
@[go_sem] theorem qvP {H : List ABlock} {k : AK} {id : Nat} {sz : Nat} {n : Nat} {zero : SV} {is : List Nat} {xs : List SV} : (bslR H k id sz n zero is (some xs)) = (is = List.range n /\ (∀ e ∈ xs, e.cells.length = sz) /\ zero.cells.length = sz /\ H[id]? = some .gone /\ k (.sl id 0 n sz false) (H.set id (.row (flatE xs))) none True) := propext Iff.rfl
def mxC (H : List ABlock) (k : AK) (Kd : IntKind) (o : Option (List Int)) : Prop := exO o fun ns => ns ≠ [] /\ intK Kd (maxL ns) H k
@[go_sem] theorem qv7 {H : List ABlock} {k : AK} {Kd : IntKind} {ns : List Int} : (mxC H k Kd (some ns)) = (ns ≠ [] /\ k (.s (.int Kd (maxL ns))) H none True) := propext Iff.rfl
@[go_sem] theorem qpZ {K : IntKind} : intsOf K [] = some [] := nr rfl
@[go_sem] theorem qpa {K : IntKind} {n : Int} {vs : List LV} : kindOf (.s (.int K n) :: vs) = K := nr rfl
@[go_sem] theorem qpb {K : IntKind} {n : Int} {vs : List LV} : intsOf K (.s (.int K n) :: vs) = (intsOf K vs).map (fun ns => n :: ns) := by
 simp only [intsOf]; cases intsOf K vs <;> simp
@[go_sem] theorem qr5 {z : List LV} : fills z [] = some z := nr rfl
@[go_sem] theorem qp0 {z : List LV} {off n : Nat} {v : LV} {ps : List (Nat × Nat × LV)} : fills z ((off, n, v) :: ps) = v.cells.bind fun cs => if cs.length = n /\ off + n <= z.length then fills (z.take off ++ cs ++ z.drop (off + n)) ps else none := by
 simp only [fills]; cases v.cells <;> rfl
@[go_sem] theorem quH {P : Program} {n0 id : Nat} {fr : List LV} {H : List ABlock} {k : AK} {x : AX} : (aop P n0 id fr H (.mov x) k) = (k (x.ev fr) H none True) := propext Iff.rfl
@[go_sem] theorem qr6 {x : AX} : AOp.takes (.mov x) = false := nr rfl
@[go_sem] theorem qtk {P : Program} {n0 id : Nat} {fr : List LV} {H : List ABlock} {k : AK} {c : AX} {a : AX} {b : AX} : (aop P n0 id fr H (.pick c a b) k) = (pickK H (a.ev fr) (b.ev fr) k (c.ev fr)) := propext Iff.rfl
@[go_sem] theorem qp1 {c : AX} {a : AX} {b : AX} : AOp.takes (.pick c a b) = false := nr rfl
@[go_sem] theorem qr7 {P : Program} {n0 id : Nat} {fr : List LV} {H : List ABlock} {k : AK} {cells : List LV} : (aop P n0 id fr H (.alloc cells) k) = (H[id]? = some .gone /\ k (.loc id 0) (H.set id (.obj cells)) none True) := propext Iff.rfl
@[go_sem] theorem qpc {cells : List LV} : AOp.takes (.alloc cells) = true := nr rfl
@[go_sem] theorem qtl {P : Program} {n0 id : Nat} {fr : List LV} {H : List ABlock} {k : AK} {x : AX} : (aop P n0 id fr H (.boxM x) k) = (boxC H k id (x.ev fr).cells) := propext Iff.rfl
@[go_sem] theorem qp2 {x : AX} : AOp.takes (.boxM x) = true := nr rfl
@[go_sem] theorem qtm {P : Program} {n0 id : Nat} {fr : List LV} {H : List ABlock} {k : AK} {x : AX} : (aop P n0 id fr H (.boxS x) k) = (boxP H k (frz [] (x.ev fr))) := propext Iff.rfl
@[go_sem] theorem qp3 {x : AX} : AOp.takes (.boxS x) = false := nr rfl
@[go_sem] theorem qr8 {P : Program} {n0 id : Nat} {fr : List LV} {H : List ABlock} {k : AK} {zero : List LV} {parts : List (Nat × Nat × AX)} : (aop P n0 id fr H (.build zero parts) k) = (bldC H k (fills zero (parts.map fun p => (p.1, p.2.1, p.2.2.ev fr)))) := propext Iff.rfl
@[go_sem] theorem qpd {zero : List LV} {parts : List (Nat × Nat × AX)} : AOp.takes (.build zero parts) = false := nr rfl
@[go_sem] theorem qpe {P : Program} {n0 id : Nat} {fr : List LV} {H : List ABlock} {k : AK} {sz : Nat} {n : Nat} {zero : SV} {parts : List (Nat × AX)} : (aop P n0 id fr H (.buildSl sz n zero parts) k) = (n <= 2 ^ 20 /\ n * sz <= 2 ^ 24 /\ bsl H k sz n zero (parts.map (·.1)) (frzAll (frz []) (parts.map fun p => p.2.ev fr))) := propext Iff.rfl
@[go_sem] theorem qn2 {sz : Nat} {n : Nat} {zero : SV} {parts : List (Nat × AX)} : AOp.takes (.buildSl sz n zero parts) = false := nr rfl
@[go_sem] theorem qtn {P : Program} {n0 id : Nat} {fr : List LV} {H : List ABlock} {k : AK} {n : Nat} {agg : Bool} {a : AX} : (aop P n0 id fr H (.load n agg a) k) = (ldK H n agg k (a.ev fr)) := propext Iff.rfl
@[go_sem] theorem qp4 {n : Nat} {agg : Bool} {a : AX} : AOp.takes (.load n agg a) = false := nr rfl
@[go_sem] theorem qr9 {P : Program} {n0 id : Nat} {fr : List LV} {H : List ABlock} {k : AK} {n : Nat} {a : AX} {x : AX} : (aop P n0 id fr H (.store n a x) k) = (stK H n (x.ev fr) k (a.ev fr)) := propext Iff.rfl
@[go_sem] theorem qpf {n : Nat} {a : AX} {x : AX} : AOp.takes (.store n a x) = false := nr rfl
@[go_sem] theorem qsa {P : Program} {n0 id : Nat} {fr : List LV} {H : List ABlock} {k : AK} {x : AX} : (aop P n0 id fr H (.nilck x) k) = (nilckK H k (x.ev fr)) := propext Iff.rfl
@[go_sem] theorem qpg {x : AX} : AOp.takes (.nilck x) = false := nr rfl
@[go_sem] theorem qsb {P : Program} {n0 id : Nat} {fr : List LV} {H : List ABlock} {k : AK} {op : BinOp} {x : AX} {y : AX} : (aop P n0 id fr H (.arith op x y) k) = (arithK H op k (x.ev fr) (y.ev fr)) := propext Iff.rfl
@[go_sem] theorem qph {op : BinOp} {x : AX} {y : AX} : AOp.takes (.arith op x y) = false := nr rfl
@[go_sem] theorem quI {P : Program} {n0 id : Nat} {fr : List LV} {H : List ABlock} {k : AK} {op : BinOp} {x : AX} {y : AX} : (aop P n0 id fr H (.cmp op x y) k) = (cmpK H op k (x.ev fr) (y.ev fr)) := propext Iff.rfl
@[go_sem] theorem qsc {op : BinOp} {x : AX} {y : AX} : AOp.takes (.cmp op x y) = false := nr rfl
@[go_sem] theorem qto {P : Program} {n0 id : Nat} {fr : List LV} {H : List ABlock} {k : AK} {op : BinOp} {x : AX} {y : AX} : (aop P n0 id fr H (.bits op x y) k) = (bitsK H op k (x.ev fr) (y.ev fr)) := propext Iff.rfl
@[go_sem] theorem qp5 {op : BinOp} {x : AX} {y : AX} : AOp.takes (.bits op x y) = false := nr rfl
@[go_sem] theorem quJ {P : Program} {n0 id : Nat} {fr : List LV} {H : List ABlock} {k : AK} {op : BinOp} {x : AX} {y : AX} : (aop P n0 id fr H (.div op x y) k) = (divK H op k (x.ev fr) (y.ev fr)) := propext Iff.rfl
@[go_sem] theorem qsd {op : BinOp} {x : AX} {y : AX} : AOp.takes (.div op x y) = false := nr rfl
@[go_sem] theorem qse {P : Program} {n0 id : Nat} {fr : List LV} {H : List ABlock} {k : AK} {op : BinOp} {x : AX} {y : AX} : (aop P n0 id fr H (.shift op x y) k) = (shiftK H op k (x.ev fr) (y.ev fr)) := propext Iff.rfl
@[go_sem] theorem qpi {op : BinOp} {x : AX} {y : AX} : AOp.takes (.shift op x y) = false := nr rfl
@[go_sem] theorem quK {P : Program} {n0 id : Nat} {fr : List LV} {H : List ABlock} {k : AK} {ag : Bool} {ts : List Tag} {ne : Bool} {x : AX} {y : AX} : (aop P n0 id fr H (.eql ag ts ne x y) k) = (eqlK H ag ts ne k (x.ev fr) (y.ev fr)) := propext Iff.rfl
@[go_sem] theorem qsf {ag : Bool} {ts : List Tag} {ne : Bool} {x : AX} {y : AX} : AOp.takes (.eql ag ts ne x y) = false := nr rfl
@[go_sem] theorem quL {P : Program} {n0 id : Nat} {fr : List LV} {H : List ABlock} {k : AK} {x : AX} : (aop P n0 id fr H (.not x) k) = (notK H k (x.ev fr)) := propext Iff.rfl
@[go_sem] theorem qsg {x : AX} : AOp.takes (.not x) = false := nr rfl
@[go_sem] theorem quM {P : Program} {n0 id : Nat} {fr : List LV} {H : List ABlock} {k : AK} {x : AX} : (aop P n0 id fr H (.neg x) k) = (negK H k (x.ev fr)) := propext Iff.rfl
@[go_sem] theorem qsh {x : AX} : AOp.takes (.neg x) = false := nr rfl
@[go_sem] theorem qtp {P : Program} {n0 id : Nat} {fr : List LV} {H : List ABlock} {k : AK} {K : IntKind} {x : AX} : (aop P n0 id fr H (.conv K x) k) = (convK H K k (x.ev fr)) := propext Iff.rfl
@[go_sem] theorem qp6 {K : IntKind} {x : AX} : AOp.takes (.conv K x) = false := nr rfl
@[go_sem] theorem qtq {P : Program} {n0 id : Nat} {fr : List LV} {H : List ABlock} {k : AK} {f : FuncId} {first : List AX} {caps : List AX} : (aop P n0 id fr H (.mkfn f first caps) k) = (((first.map (·.ev fr)).all LV.isOne && (caps.map (·.ev fr)).all LV.isOne) = true /\ k (.fn f (first.map (·.ev fr)) (caps.map (·.ev fr))) H none True) := propext Iff.rfl
@[go_sem] theorem qp7 {f : FuncId} {first : List AX} {caps : List AX} : AOp.takes (.mkfn f first caps) = false := nr rfl
@[go_sem] theorem qsi {P : Program} {n0 id : Nat} {fr : List LV} {H : List ABlock} {k : AK} {sz : Nat} {x : AX} {lo : Option AX} {hi : Option AX} {mx : Option AX} : (aop P n0 id fr H (.slice sz x lo hi mx) k) = (sliceK H sz (optEv fr lo) (optEv fr hi) (optEv fr mx) k (x.ev fr)) := propext Iff.rfl
@[go_sem] theorem qpj {sz : Nat} {x : AX} {lo : Option AX} {hi : Option AX} {mx : Option AX} : AOp.takes (.slice sz x lo hi mx) = false := nr rfl
@[go_sem] theorem qom {P : Program} {n0 id : Nat} {fr : List LV} {H : List ABlock} {k : AK} {n : Nat} {sz : Nat} {x : AX} {lo : Option AX} {hi : Option AX} : (aop P n0 id fr H (.sliceArr n sz x lo hi) k) = (sliceArrK H n sz (optEv fr lo) (optEv fr hi) k (x.ev fr)) := propext Iff.rfl
@[go_sem] theorem qnb {n : Nat} {sz : Nat} {x : AX} {lo : Option AX} {hi : Option AX} : AOp.takes (.sliceArr n sz x lo hi) = false := nr rfl
@[go_sem] theorem qn3 {P : Program} {n0 id : Nat} {fr : List LV} {H : List ABlock} {k : AK} {off : Nat} {x : AX} : (aop P n0 id fr H (.fieldAddr off x) k) = (fieldAddrK H off k (x.ev fr)) := propext Iff.rfl
@[go_sem] theorem qmf {off : Nat} {x : AX} : AOp.takes (.fieldAddr off x) = false := nr rfl
@[go_sem] theorem qtr {P : Program} {n0 id : Nat} {fr : List LV} {H : List ABlock} {k : AK} {sz : Nat} {x : AX} {i : AX} : (aop P n0 id fr H (.idxA sz x i) k) = (idxAK H sz (x.ev fr) k (i.ev fr)) := propext Iff.rfl
@[go_sem] theorem qp8 {sz : Nat} {x : AX} {i : AX} : AOp.takes (.idxA sz x i) = false := nr rfl
@[go_sem] theorem qpk {P : Program} {n0 id : Nat} {fr : List LV} {H : List ABlock} {k : AK} {n : Nat} {sz : Nat} {x : AX} {i : AX} : (aop P n0 id fr H (.idxArrA n sz x i) k) = (idxArrAK H n sz (x.ev fr) k (i.ev fr)) := propext Iff.rfl
@[go_sem] theorem qn4 {n : Nat} {sz : Nat} {x : AX} {i : AX} : AOp.takes (.idxArrA n sz x i) = false := nr rfl
@[go_sem] theorem quN {P : Program} {n0 id : Nat} {fr : List LV} {H : List ABlock} {k : AK} {x : AX} {j : Nat} : (aop P n0 id fr H (.ext x j) k) = (extK H j k (x.ev fr)) := propext Iff.rfl
@[go_sem] theorem qsj {x : AX} {j : Nat} : AOp.takes (.ext x j) = false := nr rfl
@[go_sem] theorem qts {P : Program} {n0 id : Nat} {fr : List LV} {H : List ABlock} {k : AK} {f : FuncId} {args : List AX} : (aop P n0 id fr H (.call f args) k) = (callK P H f (args.map (·.ev fr)) k) := propext Iff.rfl
@[go_sem] theorem qp9 {f : FuncId} {args : List AX} : AOp.takes (.call f args) = false := nr rfl
@[go_sem] theorem qsk {P : Program} {n0 id : Nat} {fr : List LV} {H : List ABlock} {k : AK} {f : AX} {args : List AX} : (aop P n0 id fr H (.callv f args) k) = (callvK P H (args.map (·.ev fr)) k (f.ev fr)) := propext Iff.rfl
@[go_sem] theorem qpl {f : AX} {args : List AX} : AOp.takes (.callv f args) = false := nr rfl
@[go_sem] theorem qsl {P : Program} {n0 id : Nat} {fr : List LV} {H : List ABlock} {k : AK} {sz : Nat} {f : FuncId} {args : List AX} : (aop P n0 id fr H (.callN sz f args) k) = (callNK P H id sz f (args.map (·.ev fr)) k) := propext Iff.rfl
@[go_sem] theorem qpm {sz : Nat} {f : FuncId} {args : List AX} : AOp.takes (.callN sz f args) = true := nr rfl
theorem qkg {P : Program} {n0 id : Nat} {fr : List LV} {H : List ABlock} {k : AK} {f : FuncId} {args : List AX} : (aop P n0 id fr H (.callI f args) k) = (∃ r H', CSem P f (args.map (·.ev fr)) H r H' /\ k r H' none True) := propext Iff.rfl
@[go_sem] theorem qpn {f : FuncId} {args : List AX} : AOp.takes (.callI f args) = false := nr rfl
@[go_sem] theorem quO {P : Program} {n0 id : Nat} {fr : List LV} {H : List ABlock} {k : AK} {st : Bool} {x : AX} : (aop P n0 id fr H (.len st x) k) = (lenK H k st (x.ev fr)) := propext Iff.rfl
@[go_sem] theorem qsm {st : Bool} {x : AX} : AOp.takes (.len st x) = false := nr rfl
@[go_sem] theorem quP {P : Program} {n0 id : Nat} {fr : List LV} {H : List ABlock} {k : AK} {x : AX} : (aop P n0 id fr H (.cap x) k) = (capK H k (x.ev fr)) := propext Iff.rfl
@[go_sem] theorem qsn {x : AX} : AOp.takes (.cap x) = false := nr rfl
@[go_sem] theorem qqa {P : Program} {n0 id : Nat} {fr : List LV} {H : List ABlock} {k : AK} {sz : Nat} {bytes : Nat} {s : AX} {x : AX} : (aop P n0 id fr H (.append sz bytes s x) k) = (appendK H n0 id sz bytes (x.ev fr) k (s.ev fr)) := propext Iff.rfl
@[go_sem] theorem qon {sz : Nat} {bytes : Nat} {s : AX} {x : AX} : AOp.takes (.append sz bytes s x) = true := nr rfl
@[go_sem] theorem qpo {P : Program} {n0 id : Nat} {fr : List LV} {H : List ABlock} {k : AK} {sz : Nat} {bytes : Nat} {s : AX} {x : AX} : (aop P n0 id fr H (.appendN sz bytes s x) k) = (appendNK H id sz bytes (x.ev fr) k (s.ev fr)) := propext Iff.rfl
@[go_sem] theorem qn5 {sz : Nat} {bytes : Nat} {s : AX} {x : AX} : AOp.takes (.appendN sz bytes s x) = true := nr rfl
@[go_sem] theorem qpp {P : Program} {n0 id : Nat} {fr : List LV} {H : List ABlock} {k : AK} {sz : Nat} {bytes : Nat} {s : AX} {x : AX} : (aop P n0 id fr H (.appendM sz bytes s x) k) = (appendMK H id sz bytes k (s.ev fr) (x.ev fr)) := propext Iff.rfl
@[go_sem] theorem qn6 {sz : Nat} {bytes : Nat} {s : AX} {x : AX} : AOp.takes (.appendM sz bytes s x) = true := nr rfl
@[go_sem] theorem qso {P : Program} {n0 id : Nat} {fr : List LV} {H : List ABlock} {k : AK} {ne : Bool} {x : AX} : (aop P n0 id fr H (.eqNil ne x) k) = (eqNilK H ne k (elemsOf H (x.ev fr))) := propext Iff.rfl
@[go_sem] theorem qpq {ne : Bool} {x : AX} : AOp.takes (.eqNil ne x) = false := nr rfl
@[go_sem] theorem qtt {P : Program} {n0 id : Nat} {fr : List LV} {H : List ABlock} {k : AK} {sz : Nat} {d : AX} {s : AX} : (aop P n0 id fr H (.copy sz d s) k) = (copyK H sz (s.ev fr) k (d.ev fr)) := propext Iff.rfl
@[go_sem] theorem qqb {sz : Nat} {d : AX} {s : AX} : AOp.takes (.copy sz d s) = false := nr rfl
@[go_sem] theorem qsp {P : Program} {n0 id : Nat} {fr : List LV} {H : List ABlock} {k : AK} {sz : Nat} {zero : List SV} {d : AX} : (aop P n0 id fr H (.clear sz zero d) k) = (clearK H sz zero k (d.ev fr)) := propext Iff.rfl
@[go_sem] theorem qpr {sz : Nat} {zero : List SV} {d : AX} : AOp.takes (.clear sz zero d) = false := nr rfl
@[go_sem] theorem quQ {P : Program} {n0 id : Nat} {fr : List LV} {H : List ABlock} {k : AK} {args : List AX} : (aop P n0 id fr H (.max args) k) = (mxC H k (kindOf (args.map (·.ev fr))) (intsOf (kindOf (args.map (·.ev fr))) (args.map (·.ev fr)))) := propext Iff.rfl
@[go_sem] theorem qsq {args : List AX} : AOp.takes (.max args) = false := nr rfl
@[go_sem] theorem qps {P : Program} {n0 id : Nat} {fr : List LV} {H : List ABlock} {k : AK} {sz : Nat} {bytes : Nat} {zero : List SV} {l : AX} {c : AX} : (aop P n0 id fr H (.mkslice sz bytes zero l c) k) = (mksliceK H id sz bytes zero k (l.ev fr) (c.ev fr)) := propext Iff.rfl
@[go_sem] theorem qn7 {sz : Nat} {bytes : Nat} {zero : List SV} {l : AX} {c : AX} : AOp.takes (.mkslice sz bytes zero l c) = true := nr rfl
@[go_sem] theorem qsr {P : Program} {n0 id : Nat} {fr : List LV} {H : List ABlock} {k : AK} {n : Nat} {agg : Bool} {a : AX} : (aop P n0 id fr H (.loadO n agg a) k) = (ldOK H n agg k (a.ev fr)) := propext Iff.rfl
@[go_sem] theorem qpt {n : Nat} {agg : Bool} {a : AX} : AOp.takes (.loadO n agg a) = false := nr rfl
@[go_sem] theorem qqc {P : Program} {n0 id : Nat} {fr : List LV} {H : List ABlock} {k : AK} {n : Nat} {a : AX} {x : AX} : (aop P n0 id fr H (.storeR n a x) k) = (stRK H n (x.ev fr) k (a.ev fr)) := propext Iff.rfl
@[go_sem] theorem qoo {n : Nat} {a : AX} {x : AX} : AOp.takes (.storeR n a x) = false := nr rfl
@[go_sem] theorem qss {P : Program} {n0 id : Nat} {fr : List LV} {H : List ABlock} {k : AK} {f : FuncId} {s : AX} {args : List AX} : (aop P n0 id fr H (.callF f s args) k) = (callFK P H f (args.map (·.ev fr)) k (s.ev fr)) := propext Iff.rfl
@[go_sem] theorem qpu {f : FuncId} {s : AX} {args : List AX} : AOp.takes (.callF f s args) = false := nr rfl
@[go_sem] theorem qtu {P : Program} {n0 id : Nat} {fr : List LV} {H : List ABlock} {k : AK} {x : AX} : (aop P n0 id fr H (.frzv x) k) = (frzvK H k (x.ev fr)) := propext Iff.rfl
@[go_sem] theorem qqd {x : AX} : AOp.takes (.frzv x) = false := nr rfl
@[go_sem] theorem qpv {P : Program} {n0 id : Nat} {fr : List LV} {H : List ABlock} {k : AK} {sz : Nat} {bytes : Nat} {s : AX} {x : AX} : (aop P n0 id fr H (.appendZ sz bytes s x) k) = (appendZK H sz bytes (x.ev fr) k (s.ev fr)) := propext Iff.rfl
@[go_sem] theorem qn8 {sz : Nat} {bytes : Nat} {s : AX} {x : AX} : AOp.takes (.appendZ sz bytes s x) = false := nr rfl
@[go_sem] theorem qpw {P : Program} {n0 id : Nat} {fr : List LV} {H : List ABlock} {k : AK} {sz : Nat} {bytes : Nat} {s : AX} {x : AX} : (aop P n0 id fr H (.appendY sz bytes s x) k) = (appendYK H n0 id sz bytes (x.ev fr) k (s.ev fr)) := propext Iff.rfl
@[go_sem] theorem qn9 {sz : Nat} {bytes : Nat} {s : AX} {x : AX} : AOp.takes (.appendY sz bytes s x) = true := nr rfl
@[go_sem] theorem qst {P : Program} {n0 id : Nat} {fr : List LV} {H : List ABlock} {k : AK} : (aop P n0 id fr H (.mkmap) k) = (H[id]? = some .gone /\ k (.mp id) (H.set id (.map [] [])) none True) := propext Iff.rfl
@[go_sem] theorem qpx : AOp.takes (.mkmap) = true := nr rfl
@[go_sem] theorem qtv {P : Program} {n0 id : Nat} {fr : List LV} {H : List ABlock} {k : AK} {c : Bool} {ts : List Tag} {zero : SV} {m : AX} {kx : AX} : (aop P n0 id fr H (.mget c ts zero m kx) k) = (mgetK H c ts zero (kx.ev fr) k (m.ev fr)) := propext Iff.rfl
@[go_sem] theorem qqe {c : Bool} {ts : List Tag} {zero : SV} {m : AX} {kx : AX} : AOp.takes (.mget c ts zero m kx) = false := nr rfl
@[go_sem] theorem qsu {P : Program} {n0 id : Nat} {fr : List LV} {H : List ABlock} {k : AK} {c : Bool} {ts : List Tag} {zero : SV} {m : AX} {kx : AX} : (aop P n0 id fr H (.mgetS c ts zero m kx) k) = (mgetSK H c ts zero (kx.ev fr) k (m.ev fr)) := propext Iff.rfl
@[go_sem] theorem qpy {c : Bool} {ts : List Tag} {zero : SV} {m : AX} {kx : AX} : AOp.takes (.mgetS c ts zero m kx) = false := nr rfl
@[go_sem] theorem qtw {P : Program} {n0 id : Nat} {fr : List LV} {H : List ABlock} {k : AK} {ts : List Tag} {m : AX} {kx : AX} {x : AX} : (aop P n0 id fr H (.mset ts m kx x) k) = (msetK H ts (kx.ev fr) (x.ev fr) k (m.ev fr)) := propext Iff.rfl
@[go_sem] theorem qqf {ts : List Tag} {m : AX} {kx : AX} {x : AX} : AOp.takes (.mset ts m kx x) = false := nr rfl
@[go_sem] theorem qtx {P : Program} {n0 id : Nat} {fr : List LV} {H : List ABlock} {k : AK} {ts : List Tag} {m : AX} {kx : AX} : (aop P n0 id fr H (.mdel ts m kx) k) = (mdelK H ts (kx.ev fr) k (m.ev fr)) := propext Iff.rfl
@[go_sem] theorem qqg {ts : List Tag} {m : AX} {kx : AX} : AOp.takes (.mdel ts m kx) = false := nr rfl
@[go_sem] theorem qqh {P : Program} {n0 id : Nat} {fr : List LV} {H : List ABlock} {k : AK} {m : AX} : (aop P n0 id fr H (.rangeM m) k) = (rangeMK H id k (m.ev fr)) := propext Iff.rfl
@[go_sem] theorem qop {m : AX} : AOp.takes (.rangeM m) = true := nr rfl
@[go_sem] theorem qsv {P : Program} {n0 id : Nat} {fr : List LV} {H : List ABlock} {k : AK} {it : AX} : (aop P n0 id fr H (.nextM it) k) = (nextMK H k (it.ev fr)) := propext Iff.rfl
@[go_sem] theorem qpz {it : AX} : AOp.takes (.nextM it) = false := nr rfl
@[go_sem] theorem qqi {P : Program} {n0 id : Nat} {fr : List LV} {H : List ABlock} {k : AK} {it : AX} : (aop P n0 id fr H (.entryM it) k) = (entryMK H k (it.ev fr)) := propext Iff.rfl
@[go_sem] theorem qoq {it : AX} : AOp.takes (.entryM it) = false := nr rfl
@[go_sem] theorem qqj {P : Program} {n0 id : Nat} {fr : List LV} {H : List ABlock} {k : AK} {sz : Nat} {n : Nat} {zero : SV} {parts : List (Nat × AX)} : (aop P n0 id fr H (.buildR sz n zero parts) k) = (n <= 2 ^ 20 /\ n * sz <= 2 ^ 24 /\ 0 < sz /\ bslR H k id sz n zero (parts.map (·.1)) (frzAll (frz []) (parts.map fun p => p.2.ev fr))) := propext Iff.rfl
@[go_sem] theorem qor {sz : Nat} {n : Nat} {zero : SV} {parts : List (Nat × AX)} : AOp.takes (.buildR sz n zero parts) = true := nr rfl
def nextId (id : Nat) : Bool -> Nat
 | true => id + 1
 | false => id
noncomputable def ctxK (P : Program) (n0 : Nat) (dst : Option Nat) (os : List AOper) (id : Nat) (fr : List LV) (F : Prop) (q : AState -> Prop -> Prop) : AK := fun v H kl f => aops P n0 os id (AState.put fr H dst v kl) (F /\ f) q
noncomputable def grdC (P : Program) (n0 id : Nat) (fr : List LV) (H : List ABlock) (g : Nat) (dst : Option Nat) (op : AOp) (os : List AOper) (F : Prop) (q : AState -> Prop -> Prop) (want b : Bool) : Prop :=
 grdB (fun b => aop P n0 id (fset fr g (.s (.bool b))) H op (ctxK P n0 dst os (nextId id op.takes) (fset fr g (.s (.bool b))) F q))
   (fun b => aops P n0 os (nextId id op.takes) (AState.put (fset fr g (.s (.bool b))) H dst (.tup []) none) F q) b want
noncomputable def grdV (P : Program) (n0 id : Nat) (fr : List LV) (H : List ABlock) (g : Nat) (dst : Option Nat) (op : AOp) (os : List AOper) (F : Prop) (q : AState -> Prop -> Prop) (want : Bool) (v : LV) : Prop :=
 grdK want (fun b => aop P n0 id (fset fr g (.s (.bool b))) H op (ctxK P n0 dst os (nextId id op.takes) (fset fr g (.s (.bool b))) F q))
   (fun b => aops P n0 os (nextId id op.takes) (AState.put (fset fr g (.s (.bool b))) H dst (.tup []) none) F q)
   (aops P n0 os (nextId id op.takes) (AState.put fr H dst (.tup []) none) F q) v
@[go_sem] theorem qty {id : Nat} : nextId id true = id + 1 := nr rfl
@[go_sem] theorem qtz {id : Nat} : nextId id false = id := nr rfl
@[go_sem] theorem quR {P : Program} {n0 id : Nat} {fr : List LV} {H : List ABlock} {F : Prop} {q : AState -> Prop -> Prop} {dst : Option Nat} {os : List AOper} {v : LV} {kl : Option Nat} {f : Prop} : (ctxK P n0 dst os id fr F q v H kl f) = (aops P n0 os id (AState.put fr H dst v kl) (F /\ f) q) := propext Iff.rfl
@[go_sem] theorem quS {P : Program} {n0 id : Nat} {fr : List LV} {H : List ABlock} {F : Prop} {q : AState -> Prop -> Prop} {dst : Option Nat} {op : AOp} {os : List AOper} {g : Nat} : (grdC P n0 id fr H g dst op os F q true true) = (aop P n0 id (fset fr g (.s (.bool true))) H op (ctxK P n0 dst os (nextId id op.takes) (fset fr g (.s (.bool true))) F q)) := propext Iff.rfl
@[go_sem] theorem quT {P : Program} {n0 id : Nat} {fr : List LV} {H : List ABlock} {F : Prop} {q : AState -> Prop -> Prop} {dst : Option Nat} {op : AOp} {os : List AOper} {g : Nat} : (grdC P n0 id fr H g dst op os F q false false) = (aop P n0 id (fset fr g (.s (.bool false))) H op (ctxK P n0 dst os (nextId id op.takes) (fset fr g (.s (.bool false))) F q)) := propext Iff.rfl
@[go_sem] theorem quU {P : Program} {n0 id : Nat} {fr : List LV} {H : List ABlock} {F : Prop} {q : AState -> Prop -> Prop} {dst : Option Nat} {op : AOp} {os : List AOper} {g : Nat} : (grdC P n0 id fr H g dst op os F q true false) = (aops P n0 os (nextId id op.takes) (AState.put (fset fr g (.s (.bool false))) H dst (.tup []) none) F q) := propext Iff.rfl
@[go_sem] theorem quV {P : Program} {n0 id : Nat} {fr : List LV} {H : List ABlock} {F : Prop} {q : AState -> Prop -> Prop} {dst : Option Nat} {op : AOp} {os : List AOper} {g : Nat} : (grdC P n0 id fr H g dst op os F q false true) = (aops P n0 os (nextId id op.takes) (AState.put (fset fr g (.s (.bool true))) H dst (.tup []) none) F q) := propext Iff.rfl
@[go_sem] theorem quW {P : Program} {n0 id : Nat} {fr : List LV} {H : List ABlock} {F : Prop} {q : AState -> Prop -> Prop} {dst : Option Nat} {op : AOp} {os : List AOper} {g : Nat} {p : Prop} [Decidable p] : (grdC P n0 id fr H g dst op os F q true (decide p)) = ((p -> aop P n0 id (fset fr g (.s (.bool true))) H op (ctxK P n0 dst os (nextId id op.takes) (fset fr g (.s (.bool true))) F q)) /\ (¬ p -> aops P n0 os (nextId id op.takes) (AState.put (fset fr g (.s (.bool false))) H dst (.tup []) none) F q)) := by
 unfold grdC; by_cases h : p <;> simp [h, grdB, bsplit]
@[go_sem] theorem quX {P : Program} {n0 id : Nat} {fr : List LV} {H : List ABlock} {F : Prop} {q : AState -> Prop -> Prop} {dst : Option Nat} {op : AOp} {os : List AOper} {g : Nat} {p : Prop} [Decidable p] : (grdC P n0 id fr H g dst op os F q false (decide p)) = ((p -> aops P n0 os (nextId id op.takes) (AState.put (fset fr g (.s (.bool true))) H dst (.tup []) none) F q) /\ (¬ p -> aop P n0 id (fset fr g (.s (.bool false))) H op (ctxK P n0 dst os (nextId id op.takes) (fset fr g (.s (.bool false))) F q))) := by
 unfold grdC; by_cases h : p <;> simp [h, grdB, bsplit]
@[go_sem] theorem qvQ {P : Program} {n0 id : Nat} {fr : List LV} {H : List ABlock} {F : Prop} {q : AState -> Prop -> Prop} {dst : Option Nat} {op : AOp} {os : List AOper} {g : Nat} {want b : Bool} : (grdV P n0 id fr H g dst op os F q want (.s (.bool b))) = (grdC P n0 id fr H g dst op os F q want b) := propext Iff.rfl
@[go_sem] theorem qtA {P : Program} {n0 id : Nat} {F : Prop} {q : AState -> Prop -> Prop} {σ : AState} : (aops P n0 [] id σ F q) = (q σ F) := propext Iff.rfl
theorem qfC {id : Nat} {b : Bool} : (if b = true then id + 1 else id) = nextId id b := by cases b <;> rfl
@[go_sem] theorem quY {P : Program} {n0 id : Nat} {fr : List LV} {H : List ABlock} {F : Prop} {q : AState -> Prop -> Prop} {dst : Option Nat} {op : AOp} {os : List AOper} : (aops P n0 (⟨dst, none, op⟩ :: os) id ⟨fr, H⟩ F q) = (aop P n0 id fr H op (ctxK P n0 dst os (nextId id op.takes) fr F q)) := by
 simp only [aops, qfC]; exact propext Iff.rfl
@[go_sem] theorem qqk {P : Program} {n0 id : Nat} {fr : List LV} {H : List ABlock} {F : Prop} {q : AState -> Prop -> Prop} {dst : Option Nat} {op : AOp} {os : List AOper} {g : Nat} {want : Bool} : (aops P n0 (⟨dst, some (g, want), op⟩ :: os) id ⟨fr, H⟩ F q) = (grdV P n0 id fr H g dst op os F q want (fget fr g)) := by
 simp only [aops, qfC]; exact propext Iff.rfl
@[go_sem] theorem qtB {fr : List LV} {H : List ABlock} {d : Nat} {v : LV} : AState.put fr H (some d) v none = ⟨fset fr d v, H⟩ := nr rfl
@[go_sem] theorem qn {fr : List LV} {H : List ABlock} {v : LV} : AState.put fr H none v none = ⟨fr, H⟩ := nr rfl
@[go_sem] theorem qtC {fr : List LV} {H : List ABlock} {d b : Nat} {v : LV} : AState.put fr H (some d) v (some b) = ⟨fset (fgtL (· == b) fr) d v, H.map (fgtB (· == b))⟩ := nr rfl
@[go_sem] theorem qtD {P : Program} {n0 : Nat} {σ : AState} {Q : AExit -> AState -> Prop} : (awp P n0 .skip σ Q) = (Q .normal σ) := propext Iff.rfl
@[go_sem] theorem quZ {P : Program} {n0 : Nat} {σ : AState} {Q : AExit -> AState -> Prop} : (awp P n0 .ret σ Q) = (Q .ret σ) := propext Iff.rfl
@[go_sem] theorem qtE {P : Program} {n0 : Nat} {σ : AState} {Q : AExit -> AState -> Prop} {i : Nat} : (awp P n0 (.exit i) σ Q) = (Q (.exit i) σ) := propext Iff.rfl
@[go_sem] theorem qsw {P : Program} {n0 : Nat} {σ : AState} {Q : AExit -> AState -> Prop} {i : Nat} : (awp P n0 (.label i) σ Q) = (Q .normal σ) := propext Iff.rfl
@[go_sem] theorem qsx {P : Program} {n0 : Nat} {σ : AState} {Q : AExit -> AState -> Prop} {a : ACode} : (awp P n0 (.scope a) σ Q) = (awp P n0 a σ Q) := propext Iff.rfl
@[go_sem] theorem qtF {P : Program} {n0 : Nat} {σ : AState} {Q : AExit -> AState -> Prop} {t off j : Nat} {a : ACode} : (awp P n0 (.renr t off j a) σ Q) = (renrK (n0 + j) off σ (fun τ => awp P n0 a τ Q) (fget σ.fr t)) := propext Iff.rfl
@[go_sem] theorem qsy {b off x o : Nat} {σ : AState} {Q : AState -> Prop} : (renrK b off σ Q (.loc x o)) = (renrB b x (o + off) σ Q σ.hp[x]?) := propext Iff.rfl
@[go_sem] theorem qsz {b x i : Nat} {σ : AState} {cs : List LV} {Q : AState -> Prop} : (renrB b x i σ Q (some (.obj cs))) = (renrV b x i cs σ Q cs[i]?) := propext Iff.rfl
@[go_sem] theorem qtG {b x i o len sz c : Nat} {clip : Bool} {σ : AState} {cs : List LV} {Q : AState -> Prop} : (renrV b x i cs σ Q (some (.sl c o len sz clip))) = (b < c /\ x ≠ b /\ x ≠ c /\ renrD b c x i o len sz clip cs σ.fr σ.hp Q σ.hp[b]? σ.hp[c]?) := propext Iff.rfl
@[go_sem] theorem renrD_row {b x i o len sz c : Nat} {clip : Bool} {fr : List LV} {H : List ABlock} {cs : List LV} {Q : AState -> Prop} {R : List SV} : (renrD b c x i o len sz clip cs fr H Q (some (.frz [])) (some (.row R))) = (Q { fr := fgtL (fun y => y == b || y == c) fr, hp := (((H.map (fgtB fun y => y == b || y == c)).set x (.obj ((fgtL (fun y => y == b || y == c) cs).set i (.sl b o len sz clip)))).set b (.row R)).set c .gone }) := propext Iff.rfl
@[go_sem] theorem qtH {P : Program} {n0 : Nat} {σ : AState} {Q : AExit -> AState -> Prop} {t : Nat} {a : ACode} : (awp P n0 (.frzt t a) σ Q) = (frztK t σ (fun τ => awp P n0 a τ Q) (fget σ.fr t)) := propext Iff.rfl
@[go_sem] theorem qtI {t : Nat} {fr : List LV} {H : List ABlock} {Q : AState -> Prop} {b off len sz : Nat} {clip : Bool} : (frztK t ⟨fr, H⟩ Q (.sl b off len sz clip)) = (frzvK H (fun v H' _ _ => Q { fr := fset fr t v, hp := H' }) (.sl b off len sz clip)) := propext Iff.rfl
@[go_sem] theorem qtJ {H : List ABlock} {Q : List ABlock -> Prop} {b off o : Nat} : (zapK H off Q (.loc b o)) = (zapB H b (o + off) Q H[b]?) := propext Iff.rfl
@[go_sem] theorem qtK {H : List ABlock} {Q : List ABlock -> Prop} {b i : Nat} {cs : List LV} : (zapB H b i Q (some (.obj cs))) = (zapC H b i cs Q cs[i]?) := propext Iff.rfl
@[go_sem] theorem qsA {H : List ABlock} {Q : List ABlock -> Prop} {b i : Nat} {cs : List LV} {c : LV} : (zapC H b i cs Q (some c)) = (frzvK H (fun v H' _ _ => Q (H'.set b (.obj (cs.set i v)))) c) := propext Iff.rfl
def regK (Q : AExit -> AState -> Prop) : AState -> Prop -> Prop := fun τ F => F -> Q .normal τ
noncomputable def thenK (P : Program) (n0 : Nat) (b : ACode) (Q : AExit -> AState -> Prop) : AExit -> AState -> Prop
 | .normal, τ => awp P n0 b τ Q
 | e, τ => Q e τ
def blockK (id : Nat) (Q : AExit -> AState -> Prop) : AExit -> AState -> Prop
 | .exit i, τ => if i = id then Q .normal τ else Q (.exit i) τ
 | e, τ => Q e τ
@[go_sem] theorem qu0 {P : Program} {n0 : Nat} {σ : AState} {Q : AExit -> AState -> Prop} {a b : ACode} : (awp P n0 (.seq a b) σ Q) = (awp P n0 a σ (thenK P n0 b Q)) := by
 have h : (fun (e : AExit) (τ : AState) => match e with | .normal => awp P n0 b τ Q | e => Q e τ) = thenK P n0 b Q := by funext e τ; cases e <;> rfl
 rw [<- h]; exact propext Iff.rfl
@[go_sem] theorem qsB {P : Program} {n0 : Nat} {σ : AState} {Q : AExit -> AState -> Prop} {i : Nat} {a : ACode} : (awp P n0 (.block i a) σ Q) = (awp P n0 a σ (blockK i Q)) := by
 have h : (fun (e : AExit) (τ : AState) => match e with | .exit j => if j = i then Q .normal τ else Q (.exit j) τ | e => Q e τ) = blockK i Q := by funext e τ; cases e <;> rfl
 rw [<- h]; exact propext Iff.rfl
noncomputable def condC (P : Program) (n0 : Nat) (a b : ACode) (σ : AState) (Q : AExit -> AState -> Prop) (t : Bool) : Prop := bsplit (awp P n0 a σ Q) (awp P n0 b σ Q) t
noncomputable def condV (P : Program) (n0 : Nat) (a b : ACode) (σ : AState) (Q : AExit -> AState -> Prop) (v : LV) : Prop := condK (awp P n0 a σ Q) (awp P n0 b σ Q) v
@[go_sem] theorem qsC {P : Program} {n0 : Nat} {a b : ACode} {σ : AState} {Q : AExit -> AState -> Prop} {p : Prop} [Decidable p] : (condC P n0 a b σ Q (decide p)) = ((p -> awp P n0 a σ Q) /\ (¬ p -> awp P n0 b σ Q)) := by
 unfold condC; by_cases h : p <;> simp [h, bsplit]
@[go_sem] theorem qsD {P : Program} {n0 : Nat} {a b : ACode} {σ : AState} {Q : AExit -> AState -> Prop} {t : Bool} : condC P n0 a b σ Q (!t) = condC P n0 b a σ Q t := by unfold condC; cases t <;> rfl
@[go_sem] theorem qu1 {P : Program} {n0 : Nat} {a b : ACode} {σ : AState} {Q : AExit -> AState -> Prop} : (condC P n0 a b σ Q true) = (awp P n0 a σ Q) := propext Iff.rfl
@[go_sem] theorem qu2 {P : Program} {n0 : Nat} {a b : ACode} {σ : AState} {Q : AExit -> AState -> Prop} : (condC P n0 a b σ Q false) = (awp P n0 b σ Q) := propext Iff.rfl
@[go_sem] theorem qu3 {P : Program} {n0 : Nat} {a b : ACode} {σ : AState} {Q : AExit -> AState -> Prop} {t : Bool} : (condV P n0 a b σ Q (.s (.bool t))) = (condC P n0 a b σ Q t) := propext Iff.rfl
@[go_sem] theorem qtL {P : Program} {n0 : Nat} {fr : List LV} {H : List ABlock} {Q : AExit -> AState -> Prop} {x : AX} {a b : ACode} : (awp P n0 (.cond x a b) ⟨fr, H⟩ Q) = (condV P n0 a b ⟨fr, H⟩ Q (x.ev fr)) := propext Iff.rfl
@[go_sem] theorem qu4 {P : Program} {n0 : Nat} {fr : List LV} {H : List ABlock} {Q : AExit -> AState -> Prop} {n : Nat} {ops : List AOper} : (awp P n0 (.reg n ops) ⟨fr, H⟩ Q) = (aops P n0 ops H.length ⟨fr, H ++ List.replicate n .gone⟩ True (regK Q)) := propext Iff.rfl
@[go_sem] theorem qu5 {Q : AExit -> AState -> Prop} {τ : AState} {F : Prop} : (regK Q τ F) = (F -> Q .normal τ) := propext Iff.rfl
@[go_sem] theorem qu6 {P : Program} {n0 : Nat} {b : ACode} {Q : AExit -> AState -> Prop} {τ : AState} : (thenK P n0 b Q .normal τ) = (awp P n0 b τ Q) := propext Iff.rfl
@[go_sem] theorem qu7 {P : Program} {n0 : Nat} {b : ACode} {Q : AExit -> AState -> Prop} {τ : AState} {i : Nat} : (thenK P n0 b Q (.exit i) τ) = (Q (.exit i) τ) := propext Iff.rfl
@[go_sem] theorem qu8 {P : Program} {n0 : Nat} {b : ACode} {Q : AExit -> AState -> Prop} {τ : AState} : (thenK P n0 b Q .ret τ) = (Q .ret τ) := propext Iff.rfl
@[go_sem] theorem qtM {Q : AExit -> AState -> Prop} {τ : AState} {i : Nat} : (blockK i Q .normal τ) = (Q .normal τ) := propext Iff.rfl
@[go_sem] theorem qtN {Q : AExit -> AState -> Prop} {τ : AState} {i j : Nat} : (blockK i Q (.exit j) τ) = (if j = i then Q .normal τ else Q (.exit j) τ) := propext Iff.rfl
@[go_sem] theorem qtO {Q : AExit -> AState -> Prop} {τ : AState} {i : Nat} : (blockK i Q .ret τ) = (Q .ret τ) := propext Iff.rfl
/-! Code with ranges over functions. -/
noncomputable def thenB (P : Program) (n0 : Nat) (b : BCode) (Q : AExit -> AState -> Prop) : AExit -> AState -> Prop
 | .normal, τ => bwp P n0 b τ Q
 | e, τ => Q e τ
@[go_sem] theorem qu9 {P : Program} {n0 : Nat} {σ : AState} {Q : AExit -> AState -> Prop} {a b : BCode} : (bwp P n0 (.seq a b) σ Q) = (bwp P n0 a σ (thenB P n0 b Q)) := by
 have h : (fun (e : AExit) (τ : AState) => match e with | .normal => bwp P n0 b τ Q | e => Q e τ) = thenB P n0 b Q := by funext e τ; cases e <;> rfl
 rw [<- h]; exact propext Iff.rfl
@[go_sem] theorem qsE {P : Program} {n0 : Nat} {σ : AState} {Q : AExit -> AState -> Prop} {i : Nat} {a : BCode} : (bwp P n0 (.block i a) σ Q) = (bwp P n0 a σ (blockK i Q)) := by
 have h : (fun (e : AExit) (τ : AState) => match e with | .exit j => if j = i then Q .normal τ else Q (.exit j) τ | e => Q e τ) = blockK i Q := by funext e τ; cases e <;> rfl
 rw [<- h]; exact propext Iff.rfl
noncomputable def condBC (P : Program) (n0 : Nat) (a b : BCode) (σ : AState) (Q : AExit -> AState -> Prop) (t : Bool) : Prop := bsplit (bwp P n0 a σ Q) (bwp P n0 b σ Q) t
noncomputable def condBV (P : Program) (n0 : Nat) (a b : BCode) (σ : AState) (Q : AExit -> AState -> Prop) (v : LV) : Prop := condK (bwp P n0 a σ Q) (bwp P n0 b σ Q) v
@[go_sem] theorem qtP {P : Program} {n0 : Nat} {σ : AState} {Q : AExit -> AState -> Prop} {a : ACode} : (bwp P n0 (.code a) σ Q) = (awp P n0 a σ Q) := propext Iff.rfl
@[go_sem] theorem qva {P : Program} {n0 : Nat} {b : BCode} {Q : AExit -> AState -> Prop} {τ : AState} : (thenB P n0 b Q .normal τ) = (bwp P n0 b τ Q) := propext Iff.rfl
@[go_sem] theorem qvb {P : Program} {n0 : Nat} {b : BCode} {Q : AExit -> AState -> Prop} {τ : AState} : (thenB P n0 b Q .ret τ) = (Q .ret τ) := propext Iff.rfl
noncomputable def yctx (P : Program) (dst : Option Nat) (os : List AOper) (fr : List LV) (F : Prop) (q : List LV -> Option (List SV) -> Prop -> Prop) : YK := fun v rest f => yops P os (fpt fr dst v) rest (F /\ f) q
noncomputable def ygrdC (P : Program) (fr : List LV) (rest : Option (List SV)) (g : Nat) (dst : Option Nat) (op : AOp) (os : List AOper) (F : Prop) (q : List LV -> Option (List SV) -> Prop -> Prop) (want b : Bool) : Prop :=
 grdB (fun b => yop P (fset fr g (.s (.bool b))) rest op (yctx P dst os (fset fr g (.s (.bool b))) F q)) (fun b => yctx P dst os (fset fr g (.s (.bool b))) F q (.tup []) rest True) b want
noncomputable def ygrdV (P : Program) (fr : List LV) (rest : Option (List SV)) (g : Nat) (dst : Option Nat) (op : AOp) (os : List AOper) (F : Prop) (q : List LV -> Option (List SV) -> Prop -> Prop) (want : Bool) (v : LV) : Prop :=
 grdK want (fun b => yop P (fset fr g (.s (.bool b))) rest op (yctx P dst os (fset fr g (.s (.bool b))) F q)) (fun b => yctx P dst os (fset fr g (.s (.bool b))) F q (.tup []) rest True) (yctx P dst os fr F q (.tup []) rest True) v
noncomputable def ythenK (P : Program) (b : ACode) (Q : AExit -> List LV -> Option (List SV) -> Prop) : AExit -> List LV -> Option (List SV) -> Prop
 | .normal, fr, rest => ywp P b fr rest Q
 | e, fr, rest => Q e fr rest
section
variable {P : Program} {a b : ACode} {fr : List LV} {rest : Option (List SV)} {Q : AExit -> List LV -> Option (List SV) -> Prop} {i j : Nat} {t : Bool}
noncomputable def ycondC (P : Program) (a b : ACode) (fr : List LV) (rest : Option (List SV)) (Q : AExit -> List LV -> Option (List SV) -> Prop) (t : Bool) : Prop := bsplit (ywp P a fr rest Q) (ywp P b fr rest Q) t
noncomputable def ycondV (P : Program) (a b : ACode) (fr : List LV) (rest : Option (List SV)) (Q : AExit -> List LV -> Option (List SV) -> Prop) (v : LV) : Prop := condK (ywp P a fr rest Q) (ywp P b fr rest Q) v
variable {mask : List Bool} {I : List LV -> Option (List SV) -> Prop} {pr : List (Nat × Option Nat × Nat)}
end
/-! loops -/
def loopK (mask : List Bool) (n : Nat) (I : AState -> Prop) (Q : AExit -> AState -> Prop) : AExit -> AState -> Prop
 | .normal, τ => I (norm mask n τ)
 | e, τ => Q e τ
section
variable {P : Program} {n0 n i : Nat} {mask : List Bool} {I : AState -> Prop} {Q : AExit -> AState -> Prop} {τ : AState} {pr : List (Nat × Option Nat × Nat)} {a : ACode} {σ : AState} {fr : List LV} {H : List ABlock}
@[go_sem] theorem qvc : (loopK mask n I Q .normal τ) = (I (norm mask n τ)) := propext Iff.rfl
@[go_sem] theorem qvd : (loopK mask n I Q (.exit i) τ) = (Q (.exit i) τ) := propext Iff.rfl
@[go_sem] theorem qve : (loopK mask n I Q .ret τ) = (Q .ret τ) := propext Iff.rfl
@[go_sem] theorem qvf : norm mask n ⟨fr, H⟩ = ⟨fgtL (fun b => decide (n <= b)) (fmask mask fr), (H.take n).map (fgtB fun b => decide (n <= b))⟩ := rfl
@[go_sem] theorem qpA : promote [] σ = σ := rfl
@[go_sem] theorem qos {d sz : Nat} {c : Option Nat} : promote ((d, c, sz) :: pr) σ = promote pr (promote1 d c sz σ) := rfl
@[go_sem] theorem qv8 : AState.hp ⟨fr, H⟩ = H := rfl
@[go_sem] theorem qv9 : AState.fr ⟨fr, H⟩ = fr := rfl
theorem qe (J : Nat -> AState -> Prop) (m : Nat) {σ' : AState} (hσ : promote pr σ = σ') (h0 : J m (norm mask σ'.hp.length σ'))
  (hs : ∀ (I : AState -> Prop) k τ, J k τ -> (∀ k' τ', k' < k -> J k' τ' -> I τ') -> awp P n0 a τ (loopK mask σ'.hp.length I Q)) : awp P n0 (.loop mask pr a) σ Q := by
 subst hσ;refine qlI J m h0 fun I k τ hJ hI => ?_
 have h : (fun (e : AExit) (τ' : AState) => match e with | .normal => I (norm mask (promote pr σ).hp.length τ') | e => Q e τ') = loopK mask (promote pr σ).hp.length I Q := by funext e τ; cases e <;> rfl
 have := hs I k τ hJ hI;rw [<- h] at this;exact this
end
attribute [go_sem] List.replicate List.append_nil List.cons_append List.nil_append List.length_cons List.length_nil List.map_cons List.map_nil List.getElem?_cons_zero List.getElem?_cons_succ and_true true_and forall_const if_true if_false Int.toNat_natCast List.getElem?_map Option.map_some Option.bind_some Bool.not_true Bool.not_false List.take_nil List.length_map eq_self List.all_cons List.all_nil Bool.and_true Int.ofNat_lt Bool.and_self finK resK Int.natCast_nonneg implies_true List.take_zero Nat.zero_add List.drop_zero List.drop_succ_cons List.take_succ_cons List.set_cons_zero List.set_cons_succ decide_true decide_false Int.le_refl Nat.le_refl List.flatten_cons List.flatten_nil
theorem qY {d sz : Nat} {σ : AState} (h : fget σ.fr d = .full []) : promote [(d, none, sz)] σ = { fr := fset σ.fr d (.sl σ.hp.length 0 0 (sz + 1) false), hp := σ.hp ++ [.row []] } := by
 simp only [promote, promote1, h]
attribute [go_sem] finR
/-! Loops and rounds of code with ranges over functions. -/
section
variable {P : Program} {n0 n m i : Nat} {mask : List Bool} {I : AState -> Prop} {J' : List ABlock -> Prop} {Q : AExit -> AState -> Prop} {τ : AState} {pr : List (Nat × Option Nat × Nat)} {b : BCode} {σ : AState} {fr l : List LV} {H : List ABlock} {as body : ACode}
theorem qiO {ps : List (Nat × Option Nat × Nat)} {σ' : AState} (h : promote ps σ = σ') (hb : bwp P n0 b σ' Q) : bwp P n0 (.promo ps b) σ Q := by
 simp only [bwp, h]; exact hb
def roundK (n : Nat) (fr : List LV) (I : List ABlock -> Prop) (Q : AExit -> AState -> Prop) : AExit -> AState -> Prop
 | .normal, σ => I (killed n σ.hp)
 | e, σ => Q e ⟨fr, killed n σ.hp⟩
noncomputable def roundA (P : Program) (m n : Nat) (body : ACode) (fr : List LV) (I : List ABlock -> Prop) (Q : AExit -> AState -> Prop) : AExit -> AState -> Prop := fun e σ => e = .normal /\ awp P m body σ (roundK n fr I Q)
@[go_sem] theorem qtQ : (roundK n fr J' Q .normal ⟨l, H⟩) = (J' ((H.take n).map (fgtB fun b => decide (n <= b)))) := propext Iff.rfl
@[go_sem] theorem qtR : (roundA P m n body fr J' Q .normal τ) = (awp P m body τ (roundK n fr J' Q)) := by simp [roundA]
@[go_sem] theorem qtS : below m fr = fgtL (fun b => decide (m <= b)) fr := rfl
theorem qiP {mv p : Nat} {x : AX} {g : FuncId} {caps xs : List SV} (J : List SV -> List ABlock -> Prop) (hx : x.ev fr = .s (.fn g [] caps)) (hok : okFn P g = true)
  (hc : (caps.map LV.s).all LV.isOne = true) (hy : ZYields P g caps xs) (hn : n0 <= H.length - mv) (h0 : J xs H) {fr' : List LV} (hfr : below (H.length - mv) fr = fr') (h1 : ∀ H', J [] H' -> Q .normal ⟨fr', H'⟩)
  (hs : ∀ v vs H' (I : List ABlock -> Prop), J (v :: vs) H' -> (∀ H'', J vs H'' -> I H'') -> awp P (H.length - mv) as ⟨fset fr' p (.s v), H'⟩ (roundA P (H.length - mv) H.length body fr' I Q)) :
  bwp P n0 (.rangeF mv x p as body) ⟨fr, H⟩ Q := by
 subst hfr;refine qiN J hx hok hc hy hn h0 h1 fun v vs H' I hJ hI => ?_
 have h : (fun (e2 : AExit) (σ2 : AState) => match e2 with
   | .normal => I (killed H.length σ2.hp)
   | e2 => Q e2 ⟨below (H.length - mv) fr, killed H.length σ2.hp⟩) = roundK H.length (below (H.length - mv) fr) I Q := by funext e τ; cases e <;> rfl
 have := hs v vs H' I hJ hI;unfold roundA at this;rw [<- h] at this;exact this
end
end Go.E.Sm
namespace Go.E
open Go
inductive ZCode where
 | code (a : ACode)
 | seq (a b : ZCode)
 | cond (x : AX) (a b : ZCode)
 | block (id : Nat) (a : ZCode)
 | loop (mask : List Bool) (promo : List (Nat × Option Nat × Nat)) (a : ZCode)
 | zap (t off : Nat) (a : ZCode)
 | yld (pre : List AOper) (f x : AX) (d : Option Nat) (post : List AOper)
def yOper (f x : AX) (d : Option Nat) : AOper := ⟨d, none, .callv f [x]⟩
def okZ (P : Program) : ZCode -> Code -> Bool
 | .code a, c => okCode P 0 a c
 | .seq a b, .seq c d => okZ P a c && okZ P b d
 | .cond x a b, .cond y c d => okX x y && okZ P a c && okZ P b d
 | .block i a, .block j c => i == j && okZ P a c
 | .loop _ _ a, .loop c => okZ P a c
 | .zap _ _ a, c => okZ P a c
 | .yld pre f x d post, .region _ ops draw => !draw && okOpers P ops.toList (pre ++ yOper f x d :: post) ops.toList && pre.all (fun o => !o.op.takes) && post.all (fun o => !o.op.takes)
 | _, _ => false
def zyldK (v : SV) (k : Bool -> Option (List SV) -> Prop) : Option (List SV) -> Prop
 | some (u :: r) => u = v /\ k true (some r) /\ k false none
 | _ => False
noncomputable def zwp (P : Program) (l : Nat) : ZCode -> AState -> Option (List SV) -> (AExit -> AState -> Option (List SV) -> Prop) -> Prop
 | .code a, σ, rest, Q => awp P 0 a σ fun e τ => Q e τ rest
 | .seq a b, σ, rest, Q => zwp P l a σ rest fun e τ r => match e with
  | .normal => zwp P l b τ r Q
  | e => Q e τ r
 | .cond x a b, σ, rest, Q => condK (zwp P l a σ rest Q) (zwp P l b σ rest Q) (x.ev σ.fr)
 | .block id a, σ, rest, Q => zwp P l a σ rest fun e τ r => match e with
  | .exit i => if i = id then Q .normal τ r else Q (.exit i) τ r
  | e => Q e τ r
 | .loop mask promo a, σ, rest, Q => ∀ I : AState -> Option (List SV) -> Prop,
   (∀ τ r, zwp P l a τ r (fun e τ' r' => match e with | .normal => I (norm mask (promote promo σ).hp.length τ') r' | e => Q e τ' r') -> I τ r) ->
    I (norm mask (promote promo σ).hp.length (promote promo σ)) rest
 | .zap t off a, σ, rest, Q => zapK σ.hp off (fun H' => zwp P l a { fr := σ.fr, hp := H' } rest Q) (fget σ.fr t)
 | .yld pre f x d post, σ, rest, Q => aops P 0 pre σ.hp.length σ True fun τ F => F -> f.ev τ.fr = .yl l /\ exO (frz [] (x.ev τ.fr)) fun v =>
   zyldK v (fun b r => aops P 0 post τ.hp.length ⟨fpt τ.fr d (.s (.bool b)), τ.hp⟩ True fun τ2 F2 => F2 -> Q .normal τ2 r) rest
section
variable {P : Program} {M : Mem} {W : World} {xs : List SV} {J : List SV -> (Nat -> Prop) -> Mem -> World -> Prop} {Jx : (Nat -> Prop) -> Mem -> World -> Prop}
structure ZInv (M : Mem) (W : World) (xs : List SV) (J : List SV -> (Nat -> Prop) -> Mem -> World -> Prop) (Jx : (Nat -> Prop) -> Mem -> World -> Prop) (M' : Mem) (ρ : Env) (H : List ABlock) (rest : Option (List SV)) (w : World) : Prop where
  rel : SRel M' ρ H w
  size : W.heap.size <= w.heap.size
  at_ : ∃ O, OwnOk W O ρ /\ McOk M W O M' /\ (∀ k, O k -> W.heap.size <= k /\ k < w.heap.size) /\ match rest with
    | some r => ∃ pre, xs = pre ++ r /\ J pre O M' w
    | none => Jx O M' w
structure ZFr (M' : Mem) (ρ : Env) (fr : List LV) (a : Act) : Prop where
  fr : FRel M' ρ fr a.tmps.toList
  nod : a.defers = []
theorem ZInv.step (hJ : ∀ s, ZStep W (J s)) (hJx : ZStep W Jx) {M' M'' : Mem} {ρ ρ' : Env} {H H' : List ABlock} {rest : Option (List SV)} {w w' : World} {n0 : Nat} (h : ZInv M W xs J Jx M' ρ H rest w) (k : MInv NoA n0 M' ρ w M'' ρ' H' w') : ZInv M W xs J Jx M'' ρ' H' rest w' := by
 obtain ⟨O, h1, h2, h3, h4⟩ := h.at_;have hsz := k.touch.size;refine ⟨k.rel, Nat.le_trans h.size hsz, O, fun b hb => ?_, ⟨Mem.le_trans h2.mem k.mem, ⟨fun b o v hv => ?_, fun b es hv => ?_⟩, fun b o v hv => ?_, fun b es hv => ?_⟩, fun b hb => ⟨(h3 b hb).1, Nat.lt_of_lt_of_le (h3 b hb).2 hsz⟩, ?_⟩
 ·rcases k.has_old hb with h5 | h5
  ·exact h1 b h5
  ·exact ⟨Nat.le_trans h.size h5, fun hO => by have := (h3 b hO).2; omega⟩
 ·rcases k.newer.1 b o v hv with h5 | h5 | h5
  ·exact h2.newer.1 b o v h5
  ·exact .inr (.inl (Nat.le_trans h.size h5))
  ·exact .inr (.inl (h1 b h5).1)
 ·rcases k.newer.2 b es hv with h5 | h5 | h5
  ·exact h2.newer.2 b es h5
  ·exact .inr (.inl (Nat.le_trans h.size h5))
  ·exact .inr (.inl (h1 b h5).1)
 ·rcases k.newer.1 b o v hv with h5 | h5 | h5
  ·exact h2.cell b o v h5
  ·exact .inr fun hO => by have := (h3 b hO).2; omega
  ·exact .inr (h1 b h5).2
 ·rcases k.newer.2 b es hv with h5 | h5 | h5
  ·exact h2.map b es h5
  ·exact .inr fun hO => by have := (h3 b hO).2; omega
  ·exact .inr (h1 b h5).2
 ·cases rest with
  | some r =>
   obtain ⟨pre, h5, h6⟩ := h4;exact ⟨pre, h5, hJ pre O M' M'' ρ w w' h6 k.mem k.rel.holds k.touch h1 fun b hb => (h3 b hb).2⟩
  | none => exact hJx O M' M'' ρ w w' h4 k.mem k.rel.holds k.touch h1 fun b hb => (h3 b hb).2
def noMem : Mem := ⟨fun _ _ => none, fun _ => none⟩
theorem MInv.virt {M' : Mem} {ρ : Env} {H : List ABlock} {w : World} (h : SRel M' ρ H w) : MInv NoA 0 noMem [] { w with heap := #[] } M' ρ H w :=
  { rel := h, mem := ⟨fun _ _ _ h => (by cases h), fun _ _ h => (by cases h)⟩, nle := Nat.le_refl _, len := Nat.zero_le _, env := fun _ _ h => absurd h (Nat.not_lt_zero _), gon := fun _ h => absurd h (Nat.not_lt_zero _),
    touch := ⟨rfl, rfl, rfl, Nat.le_refl _, Nat.zero_le _, fun _ h => absurd h (Nat.not_lt_zero _)⟩, newer := ⟨fun _ _ _ _ => .inr (.inl (Nat.zero_le _)), fun _ _ _ => .inr (.inl (Nat.zero_le _))⟩, fresh := fun _ _ _ _ _ _ => .inr (Nat.zero_le _), alien := fun _ _ h => h.elim }
theorem ZInv.less {M' : Mem} {ρ ρ' : Env} {H H' : List ABlock} {rest : Option (List SV)} {w : World} (h : ZInv M W xs J Jx M' ρ H rest w) (hr : SRel M' ρ' H' w) (hs : ∀ k, ρ'.has k -> ρ.has k) : ZInv M W xs J Jx M' ρ' H' rest w := by
 obtain ⟨O, h1, h2, h3, h4⟩ := h.at_;exact ⟨hr, h.size, O, fun b hb => h1 b (hs b hb), h2, h3, h4⟩
theorem ZInv.norm {M' : Mem} {ρ : Env} {σ : AState} {rest : Option (List SV)} {a : Act} {w : World} (h : ZInv M W xs J Jx M' ρ σ.hp rest w) (hf : ZFr M' ρ σ.fr a) (mask : List Bool) (n : Nat) : ZInv M W xs J Jx M' (ρ.take n) (norm mask n σ).hp rest w /\ ZFr M' (ρ.take n) (norm mask n σ).fr a := by
 have hS : Stands NoA [] 0 noMem [] { w with heap := #[] } M' ρ σ a w := ⟨MInv.virt h.rel, hf.fr, hf.nod⟩;have hN := hS.norm mask (Nat.zero_le n);refine ⟨h.less hN.inv.rel fun k ⟨i, sh, m, hi⟩ => ?_, hN.fr, hN.nod⟩
 rw [List.getElem?_take] at hi
 split at hi
 ·exact ⟨i, sh, m, hi⟩
 ·cases hi
theorem ZInv.round {M' : Mem} {ρ : Env} {H : List ABlock} {w B : World} {O : Nat -> Prop} {rest : Option (List SV)}
  (hrel : SRel M' ρ H w) (hsize : W.heap.size <= w.heap.size) (h1 : OwnOk W O ρ) (h2 : McOk M W O M') (h3 : ∀ k, O k -> W.heap.size <= k /\ k < w.heap.size)
  (hsz : w.heap.size <= B.heap.size) (hsame : ∀ k, W.heap.size <= k -> k < w.heap.size -> ¬ O k -> B.heap[k]? = w.heap[k]?) (hh : Holds M B)
  (hat : match rest with | some r => ∃ pre, xs = pre ++ r /\ J pre (OwnNew O w B) M' B | none => Jx (OwnNew O w B) M' B) : ZInv M W xs J Jx M' ρ H rest B := by
 have hHB : Holds M' B := by
  refine ⟨fun b o v hv => ?_, fun b es hv => ?_⟩
  ·rcases h2.cell b o v hv with h5 | h0
   ·exact hh.1 b o v h5
   ·rcases h2.newer.1 b o v hv with h5 | h5 | h5
    ·exact hh.1 b o v h5
    ·rw [cell?_eq (hsame b h5 (World.block_lt_of_cell? w _ (hrel.cells b o v hv)) h0)]; exact hrel.cells b o v hv
    ·exact absurd h5 (Env.nil_has _)
  ·rcases h2.map b es hv with h5 | h0
   ·exact hh.2 b es h5
   ·rcases h2.newer.2 b es hv with h5 | h5 | h5
    ·exact hh.2 b es h5
    ·have h4 := hrel.maps b es hv
     rw [hsame b h5 (Array.getElem?_eq_some_iff.1 h4).1 h0]; exact h4
    ·exact absurd h5 (Env.nil_has _)
 have hown : ∀ k, ρ.has k -> B.heap[k]? = w.heap[k]? := fun k ⟨i, sh, n, hi⟩ => by
  obtain ⟨h5, h6⟩ := h1 k ⟨i, sh, n, hi⟩;exact hsame k h5 (hrel.lt i k sh n hi) h6
 have hno : ∀ k, k < w.heap.size -> ¬ O k -> ¬ OwnNew O w B k := fun k hk h0 h => by
  rcases h with h | h
  ·exact h0 h
  ·omega
 refine ⟨⟨hrel.len, fun i B' r hB hr => BRel.keep (hrel.blk i B' r hB hr) fun cb sh n e => hown cb ⟨i, sh, n, by rw [hr, e]⟩, hrel.inj, fun i cb sh n hi => Nat.lt_of_lt_of_le (hrel.lt i cb sh n hi) hsz, hHB.1, hHB.2⟩, Nat.le_trans hsize hsz, OwnNew O w B, fun k hk => ?_, ⟨h2.mem, h2.newer, fun b o v hv => ?_, fun b es hv => ?_⟩, fun k hk => ?_, hat⟩
 ·obtain ⟨i, sh, n, hi⟩ := hk
  obtain ⟨h5, h6⟩ := h1 k ⟨i, sh, n, hi⟩;exact ⟨h5, hno k (hrel.lt i k sh n hi) h6⟩
 ·rcases h2.cell b o v hv with h5 | h0
  ·exact .inl h5
  ·exact .inr (hno b (World.block_lt_of_cell? w _ (hrel.cells b o v hv)) h0)
 ·rcases h2.map b es hv with h5 | h0
  ·exact .inl h5
  ·exact .inr (hno b (Array.getElem?_eq_some_iff.1 (hrel.maps b es hv)).1 h0)
 ·rcases hk with hk | hk
  ·exact ⟨(h3 k hk).1, Nat.lt_of_lt_of_le (h3 k hk).2 hsz⟩
  ·exact ⟨Nat.le_trans hsize hk.1, hk.2⟩
theorem qfD {A : Nat -> Obj -> Prop} {dfs : List Deferred} {M0 : Mem} {ρ0 : Env} {w0 : World} {n0 : Nat} {Q : Exit -> Act -> World -> Prop} {r : Option Nat} {nf : Nat} {ops : Array Oper} {N : Nat} (hN : ρ0.length <= N) {k : AState -> Prop -> Prop} {ot : List Oper} (hfin : ∀ τ F' M' ρ' a' w', k τ F' -> F' -> Stands A dfs n0 M0 ρ0 w0 M' ρ' τ a' w' -> wpListIn (Fw r) nf P ops Q ot a' w') :
  ∀ (as : List AOper) (os : List Oper) (id : Nat) (σ : AState) (F : Prop) (M : Mem) (ρ : Env) (a : Act) (w : World), okOpers P ops.toList as os = true -> ρ0.length <= id -> Stands A dfs n0 M0 ρ0 w0 M ρ σ a w -> F ->
   runI P n0 (withIds N id as) σ F k -> wpListIn (Fw r) nf P ops Q (os ++ ot) a w
 | [], [], id, σ, F, M, ρ, a, w, _, _, hS, hF, h => hfin σ F M ρ a w h hF hS
 | [], _ :: _, _, _, _, _, _, _, _, h, _, _, _, _ => by simp [okOpers] at h
 | _ :: _, [], _, _, _, _, _, _, _, h, _, _, _, _ => by simp [okOpers] at h
 | x :: as, o :: os, id, σ, F, M, ρ, a, w, hok, hid, hS, hF, h => by
  simp only [okOpers, Bool.and_eq_true] at hok
  have key : ∀ (i id' : Nat), ρ0.length <= i -> ρ0.length <= id' -> runI P n0 ((i, x) :: withIds N id' as) σ F k -> wpListIn (Fw r) nf P ops Q (o :: os ++ ot) a w := by
   intro i id' hi hid' hr;simp only [runI] at hr;have := qcf (r := r) (n := nf) (Q := Q) (Kc := fun a w => wpListIn (Fw r) nf P ops Q (os ++ ot) a w) hS (fun _ => hi) hok.1 hF hr (fun τ F' M' ρ' a' w' h1 h2 h3 _ => qfD hN hfin as os id' τ F' M' ρ' a' w' hok.2 hid' h3 h2 h1)
   rw [List.cons_append];unfold wpListIn;exact this
  unfold withIds at h
  cases ht : x.op.takes with
  | true => rw [ht] at h; exact key id (id + 1) hid (by omega) h
  | false => rw [ht] at h; exact key N id hN hid h
theorem qc6 {ops : List Oper} : ∀ {xs ys : List AOper} {os : List Oper}, okOpers P ops (xs ++ ys) os = true -> ∃ o1 o2, os = o1 ++ o2 /\ okOpers P ops xs o1 = true /\ okOpers P ops ys o2 = true
 | [], _, os, h => ⟨[], os, rfl, rfl, h⟩
 | x :: xs, ys, [], h => by simp [okOpers] at h
 | x :: xs, ys, o :: os, h => by
  simp only [List.cons_append, okOpers, Bool.and_eq_true] at h;obtain ⟨o1, o2, e, h1, h2⟩ := qc6 h.2;exact ⟨o :: o1, o2, by rw [e]; rfl, by simp only [okOpers, Bool.and_eq_true]; exact ⟨h.1, h1⟩, h2⟩
theorem qnc {M' : Mem} {ρ : Env} {l : Nat} {y : Value} (h : LVal M' ρ (.yl l) y) : y = .func (.yield l) #[] #[] := by
 have := h.one rfl (by simp)
 simpa [LRel] using this
end
section
variable {P : Program} {M : Mem} {W : World} {xs : List SV} {J : List SV -> (Nat -> Prop) -> Mem -> World -> Prop} {Jx : (Nat -> Prop) -> Mem -> World -> Prop}
theorem ZInv.stands {M' : Mem} {ρ : Env} {σ : AState} {rest : Option (List SV)} {a : Act} {w : World} (h : ZInv M W xs J Jx M' ρ σ.hp rest w) (hf : ZFr M' ρ σ.fr a) : Stands NoA [] 0 M' ρ w M' ρ σ a w :=
 ⟨MInv.startA h.rel (fun _ _ h => h.elim) (Nat.zero_le _), hf.fr, hf.nod⟩
theorem qot {l : Nat} (hR : ZRounds P M W l xs J Jx) {o : Oper} {f x : AX} {σ : AState} {rest : Option (List SV)} {M' : Mem} {ρ : Env} {a : Act} {w : World} {v : SV} {k : Bool -> Option (List SV) -> Prop} {K : Act -> World -> Prop} {Q : Exit -> Act -> World -> Prop}
  (hok : okOp P (.callv f [x]) o.op = true) (hI : ZInv M W xs J Jx M' ρ σ.hp rest w) (hf : ZFr M' ρ σ.fr a) (hl : f.ev σ.fr = .yl l) (hv : frz [] (x.ev σ.fr) = some v) (hy : zyldK v k rest)
  (hK : ∀ b r w', k b r -> ZInv M W xs J Jx M' ρ σ.hp r w' -> K (a.put o.dst (.bool b)) w') : o.wpIn (Fw none) 0 P a w K Q := by
 obtain ⟨yo, xso, ts, ho, hxo, hargs⟩ := qfa hok;obtain ⟨x', hx1, hx2⟩ := qcC hargs;have hv1 := qf hf.fr hxo;rw [hl] at hv1;have ey := qnc hv1;have hxr := qX (qf hf.fr hx2) hv;unfold zyldK at hy
 split at hy
 ·rename_i u r
  obtain ⟨rfl, h1, h2⟩ := hy;obtain ⟨O, hO1, hO2, hO3, pre, hpre, hjp⟩ := hI.at_;obtain ⟨fn, tmps, as, body, hrun, hround⟩ := hR pre u r (a.eval x') O M' w hpre hjp hI.rel.holds hO2 hO3 hI.size hxr;refine ⟨fun _ _ => trivial, ?_⟩
  rw [Oper.semAt_eq _ _ _ (qdr hok)]
  have hexec : (execOp a.eval o).run P w = .ok (.round l fn tmps as body) w := by
   have hxa : xso = #[x'] := by rw [<- Array.toArray_toList (xs := xso), hx1]
   simp [execOp, ho, resolve, ey, Deferred.ofValue, invoke, hxa, hrun]
  rw [hexec];simp only [Oper.uponIn];refine ⟨fun hh => (by cases hh), RoundIn.mono (n := 0) hround fun e B hB => ?_⟩
  obtain ⟨b, rfl, hsz, hsame, hh, hb1, hb2⟩ := hB
  cases b with
  | true => exact hK true _ B h1 (ZInv.round hI.rel hI.size hO1 hO2 hO3 hsz hsame hh ⟨pre ++ [u], by rw [hpre]; simp, hb1 rfl⟩)
  | false => exact hK false _ B h2 (ZInv.round (rest := none) hI.rel hI.size hO1 hO2 hO3 hsz hsame hh (hb2 rfl))
 ·cases hy
theorem qnd (hJ : ∀ s, ZStep W (J s)) (hJx : ZStep W Jx) {l : Nat} (hR : ZRounds P M W l xs J Jx) :
  ∀ (zc : ZCode) (c : Code) (σ : AState) (rest : Option (List SV)) (QA : AExit -> AState -> Option (List SV) -> Prop) (Q : Exit -> Act -> World -> Prop) (M' : Mem) (ρ : Env) (a : Act) (w : World), okZ P zc c = true -> ZInv M W xs J Jx M' ρ σ.hp rest w -> ZFr M' ρ σ.fr a -> zwp P l zc σ rest QA ->
   (∀ e τ r M'' ρ'' a' w', QA e τ r -> ZInv M W xs J Jx M'' ρ'' τ.hp r w' -> ZFr M'' ρ'' τ.fr a' -> Q (exitOf e) a' w') -> c.wpIn (Fw none) 0 P Q a w := by
 intro zc
 induction zc with
 | code ac =>
  intro c σ rest QA Q M' ρ a w hok hI hf h hQ;exact qas ac c M' ρ w a σ _ Q hok (hI.stands hf) h fun e τ M'' ρ'' a' w' he hS => hQ e τ rest M'' ρ'' a' w' he (hI.step hJ hJx hS.inv) ⟨hS.fr, hS.nod⟩
 | seq x y ihx ihy =>
  intro c σ rest QA Q M' ρ a w hok hI hf h hQ
  cases c <;> simp only [okZ, Bool.and_eq_true] at hok <;> try cases hok
  rename_i h1 h2
  simp only [zwp] at h;refine wpIn_seq (ihx _ σ rest _ _ M' ρ a w h1 hI hf h fun e τ r M'' ρ'' a' w' he hI' hf' => ?_)
  cases e with
  | normal => exact ihy _ τ r _ _ M'' ρ'' a' w' h2 hI' hf' he hQ
  | exit id => exact hQ (.exit id) τ r M'' ρ'' a' w' he hI' hf'
  | ret => exact hQ .ret τ r M'' ρ'' a' w' he hI' hf'
 | cond x A B iha ihb =>
  intro c σ rest QA Q M' ρ a w hok hI hf h hQ
  cases c <;> simp only [okZ, Bool.and_eq_true] at hok <;> try cases hok
  rename_i h1 h2
  obtain ⟨h1, h3⟩ := h1;have hv := qf hf.fr h1;simp only [zwp] at h;unfold condK at h
  split at h
  ·rename_i t hx
   have hb := qa2 hx hv;refine wpIn_cond_split hb (fun ht => ?_) (fun ht => ?_)
   ·subst ht; exact iha _ σ rest _ _ M' ρ a w h3 hI hf h hQ
   ·subst ht; exact ihb _ σ rest _ _ M' ρ a w h2 hI hf h hQ
  ·cases h
 | block id x ih =>
  intro c σ rest QA Q M' ρ a w hok hI hf h hQ
  cases c <;> simp only [okZ, Bool.and_eq_true, beq_iff_eq] at hok <;> try cases hok
  rename_i h1 h2
  subst h1;simp only [zwp] at h;refine wpIn_block (ih _ σ rest _ _ M' ρ a w h2 hI hf h fun e τ r M'' ρ'' a' w' he hI' hf' => ?_)
  cases e with
  | normal => exact hQ .normal τ r M'' ρ'' a' w' he hI' hf'
  | exit i =>
   simp only at he;simp only [exitOf, Exit.inBlock]
   split
   ·rename_i hi; rw [if_pos hi] at he; exact hQ .normal τ r M'' ρ'' a' w' he hI' hf'
   ·rename_i hi; rw [if_neg hi] at he; exact hQ (.exit i) τ r M'' ρ'' a' w' he hI' hf'
  | ret => exact hQ .ret τ r M'' ρ'' a' w' he hI' hf'
 | zap t off x ih =>
  intro c σ rest QA Q M' ρ a w hok hI hf h hQ;simp only [okZ] at hok;simp only [zwp] at h;obtain ⟨H', M'', h1, h2, h3⟩ := qfw (hI.stands hf).inv h;exact ih c { fr := σ.fr, hp := H' } rest QA Q M'' ρ a w hok (hI.step hJ hJx h2) ⟨hf.fr.mono h3 (Env.le_refl _), hf.nod⟩ h1 hQ
 | loop mask promo x ih =>
  intro c σ rest QA Q M' ρ a w hok hI hf h hQ
  cases c <;> simp only [okZ] at hok <;> try cases hok
  rename_i c
  simp only [zwp] at h;obtain ⟨ρ1, hS1⟩ := (hI.stands hf).promote promo;have hI1 := hI.step hJ hJx hS1.inv;have hf1 : ZFr M' ρ1 (promote promo σ).fr a := ⟨hS1.fr, hS1.nod⟩;generalize (promote promo σ).hp.length = n at h
  have hI' := h (fun τ r => ∀ M' ρ a w, ZInv M W xs J Jx M' ρ τ.hp r w -> ZFr M' ρ τ.fr a -> ∀ (b : Frame) (k : List Item) (cs : List Frame), b.roundOf = (Fw none).round -> (Fw none).fn b.fn -> (Fw none).room (cs.length + 1 + 0) -> ∃ e a' w', Q e a' w' /\ ArrivesIn (Machine.fenced P (Fw none)) P (lone (b.atR a (.code c :: .inLoop c :: k)) cs w) b k cs e a' w') (by
   intro τ r hb M' ρ a w hI hf b k cs hro hfn hrm
   have hbody := ih c τ r _ (Exit.then (fun a' w' => ∀ (b : Frame) (k : List Item) (cs : List Frame), b.roundOf = (Fw none).round -> (Fw none).fn b.fn -> (Fw none).room (cs.length + 1 + 0) -> ∃ e a'' w'', Q e a'' w'' /\ ArrivesIn (Machine.fenced P (Fw none)) P (lone (b.atR a' (.code c :: .inLoop c :: k)) cs w') b k cs e a'' w'') Q) M' ρ a w hok hI hf hb (fun e τ' r' M'' ρ'' a' w' he hI' hf' => by
    cases e with
    | normal =>
     obtain ⟨h8, h9⟩ := hI'.norm hf' mask n;exact he M'' _ a' w' h8 h9
    | exit id => exact hQ (.exit id) τ' r' M'' ρ'' a' w' he hI' hf'
    | ret => exact hQ .ret τ' r' M'' ρ'' a' w' he hI' hf')
   obtain ⟨e, a₁, w₁, hq, harr⟩ := hbody b (.inLoop c :: k) cs hro hfn hrm
   cases e with
   | normal =>
    obtain ⟨e₂, a₂, w₂, hq₂, harr₂⟩ := hq b k cs hro hfn hrm;exact ⟨e₂, a₂, w₂, hq₂, .of_steps (StepsIn.trans harr (.one (fenced_calm hfn hrm rfl) stepR_inLoop)) harr₂⟩
   | exit id => exact ⟨_, a₁, w₁, hq, .pass (x := .inLoop c) rfl (fun _ _ => .inl (by simp)) harr⟩
   | goto l => exact ⟨_, a₁, w₁, hq, .pass (x := .inLoop c) rfl (fun _ _ => .inl (by simp)) harr⟩
   | ret => exact ⟨_, a₁, w₁, hq, .pass (x := .inLoop c) rfl (fun _ _ => .inl (by simp)) harr⟩
   | panic ch => exact ⟨_, a₁, w₁, hq, .pass (x := .inLoop c) rfl (fun _ _ => .inl (by simp)) harr⟩
   | outgrown => exact ⟨_, a₁, w₁, hq, .pass (x := .inLoop c) rfl (fun _ _ => .inl (by simp)) harr⟩)
  intro b k cs hro hfn hrm;obtain ⟨h8, h9⟩ := hI1.norm hf1 mask n;obtain ⟨e, a', w', hq, harr⟩ := hI' M' _ a w h8 h9 b k cs hro hfn hrm;exact ⟨e, a', w', hq, .of_steps (.one (fenced_calm hfn hrm rfl) stepR_loop) harr⟩
 | yld pre f x d post =>
  intro c σ rest QA Q M' ρ a w hok hI hf h hQ
  cases c <;> simp only [okZ] at hok <;> try (cases hok; done)
  rename_i id ops draw
  simp only [Bool.and_eq_true, Bool.not_eq_true', List.all_eq_true] at hok;obtain ⟨⟨⟨hd, hok⟩, hn1⟩, hn2⟩ := hok;subst hd;obtain ⟨o1, o2, eo, hok1, hok2⟩ := qc6 hok
  cases o2 with
  | nil => simp [okOpers] at hok2
  | cons yo o2 =>
   simp only [okOpers, Bool.and_eq_true] at hok2;obtain ⟨hoky, hok2⟩ := hok2;refine wpIn_region_list ?_;rw [eo];simp only [zwp] at h;have hlen := hI.rel.len;have hokc : ∀ y ∈ pre, y.op.okc = true := qaz hok1;have hokc2 : ∀ y ∈ post, y.op.okc = true := qaz hok2;refine qfD (N := σ.hp.length) (by omega) (k := fun τ F => F -> f.ev τ.fr = .yl l /\ exO (frz [] (x.ev τ.fr)) fun v => zyldK v (fun b r => aops P 0 post τ.hp.length ⟨fpt τ.fr d (.s (.bool b)), τ.hp⟩ True fun τ2 F2 => F2 -> QA .normal τ2 r) rest) ?_ pre o1 σ.hp.length σ True M' ρ a w hok1 (by omega) (hI.stands hf) trivial (qb0 _ pre _ σ True hokc h)
   intro τ F M2 ρ2 a2 w2 hk hF hS2;obtain ⟨hl, hk⟩ := hk hF;obtain ⟨v, hv, hy⟩ := qd hk;have hI2 := hI.step hJ hJx hS2.inv;have hf2 : ZFr M2 ρ2 τ.fr a2 := ⟨hS2.fr, hS2.nod⟩;simp only [okOper, yOper, Bool.and_eq_true, beq_iff_eq] at hoky;obtain ⟨⟨⟨hdst, hop⟩, _⟩, hgd⟩ := hoky
   have hog : yo.guard = none := by
    cases hog : yo.guard with
    | none => rfl
    | some p => rw [hog] at hgd; cases hgd
   unfold wpListIn;rw [if_pos (by simp [Region.wanted, hog])]
   refine qot hR hop hI2 hf2 hl hv hy fun b r w3 hb hI3 => ?_
   have hf3 : ZFr M2 ρ2 (fpt τ.fr d (.s (.bool b))) (a2.put yo.dst (.bool b)) := by
    rw [hdst];exact ⟨qel hf2.fr qal, by rw [qcO]; exact hf2.nod⟩
   have hlen3 := hI3.rel.len;have hst : Stands NoA [] 0 M2 ρ2 w3 M2 ρ2 ⟨fpt τ.fr d (.s (.bool b)), τ.hp⟩ (a2.put yo.dst (.bool b)) w3 := ZInv.stands (σ := ⟨fpt τ.fr d (.s (.bool b)), τ.hp⟩) hI3 hf3;exact qcQ (N := τ.hp.length) (by omega) (fun τ2 F2 M4 ρ4 a4 w4 hk4 hF4 hS4 => hQ .normal τ2 r M4 ρ4 a4 w4 (hk4 hF4) (hI3.step hJ hJx hS4.inv) ⟨hS4.fr, hS4.nod⟩) post o2 τ.hp.length _ True M2 ρ2 _ w3 hok2 (by omega) hst trivial (qb0 _ post _ _ True hokc2 hb)
def finZ (e : AExit) (_ : AState) (rest : Option (List SV)) : Prop :=
 match e with
 | .exit _ => False
 | _ => rest = some [] \/ rest = none
theorem zyields_of_row {g : FuncId} {fn : Func} {c : Code} {zc : ZCode} {nt : Nat} {caps xs : List SV} (h1 : P.funcs[g]? = some fn) (h2 : fn.body = some c) (h3 : okZ P zc c = true) (h5 : fn.results = #[]) (h6 : fn.ntmps = nt)
  (h : ∀ l, zwp P l zc ⟨.yl l :: caps.map .s ++ List.replicate (nt - (caps.length + 1)) .any, []⟩ (some xs) finZ) : ZYields P g caps xs := by
 intro M W lb l J Jx hh hv hJ hJx hR hj0;have hlen := hv.length;have hno : ∀ O, OwnOk W O [] := fun O k hk => absurd hk (by rintro ⟨i, sh, n, hi⟩; simp at hi)
 refine calls_of_wp h1 h2 ((wpIn_wide (n := 0)).1 (qnd hJ hJx hR zc c _ (some xs) _ _ M [] _ W h3 ⟨SRel.start hh, Nat.le_refl _, fun _ => False, hno _, ⟨M.le_refl, Newer.refl _ _ _, fun _ _ _ h => .inl h, fun _ _ h => .inl h⟩, fun _ h => h.elim, [], rfl, hj0⟩ ⟨?_, rfl⟩ (h l) ?_))
 ·have h0 : FRel M [] (.yl l :: caps.map .s) (.func (.yield l) #[] #[] :: lb) := ⟨_, _, rfl, qh (by simp [LRel]) rfl, qaT hv⟩
  have := h0.append (qem (M := M) (ρ := []) (nt - (caps.length + 1)) undef)
  simpa [h6, hlen, Nat.add_comm] using this
 ·intro e τ r M'' ρ'' a' w' he hI' hf'
  have fin : (r = some [] \/ r = none) -> ∃ v, (results fn a'.tmps).run P w' = .ok v w' /\ ((∃ v', Ending.returned v = .returned v') /\ ∃ O Mc, J xs O Mc w' \/ Jx O Mc w') := by
   intro hr;refine ⟨retOf [], qat (by rw [h5]; simp), ⟨_, rfl⟩, ?_⟩
   obtain ⟨O, _, _, _, h8⟩ := hI'.at_
   rcases hr with rfl | rfl
   ·obtain ⟨pre, h7, h8⟩ := h8; rw [List.append_nil] at h7; subst h7; exact ⟨O, M'', .inl h8⟩
   ·exact ⟨O, M'', .inr h8⟩
  cases e with
  | normal => exact ⟨hf'.nod, fin he⟩
  | exit id => exact he.elim
  | ret => exact ⟨hf'.nod, fin he⟩
end
end Go.E
namespace Go.E.Sm
open Go Go.E
section
variable {P : Program} {l : Nat} {rest r : Option (List SV)} {Q : AExit -> AState -> Option (List SV) -> Prop} {fr : List LV} {H : List ABlock} {τ σ : AState} {i : Nat}
def zK (rest : Option (List SV)) (Q : AExit -> AState -> Option (List SV) -> Prop) : AExit -> AState -> Prop := fun e τ => Q e τ rest
@[go_sem] theorem qvR {e : AExit} : (zK rest Q e τ) = (Q e τ rest) := propext Iff.rfl
def zthenK (P : Program) (l : Nat) (b : ZCode) (Q : AExit -> AState -> Option (List SV) -> Prop) : AExit -> AState -> Option (List SV) -> Prop
 | .normal, τ, r => zwp P l b τ r Q
 | e, τ, r => Q e τ r
@[go_sem] theorem qtT {b : ZCode} : (zthenK P l b Q .normal τ r) = (zwp P l b τ r Q) := propext Iff.rfl
@[go_sem] theorem qtU {b : ZCode} : (zthenK P l b Q .ret τ r) = (Q .ret τ r) := propext Iff.rfl
def zblockK (id : Nat) (Q : AExit -> AState -> Option (List SV) -> Prop) : AExit -> AState -> Option (List SV) -> Prop
 | .exit i, τ, r => if i = id then Q .normal τ r else Q (.exit i) τ r
 | e, τ, r => Q e τ r
@[go_sem] theorem qsF {id : Nat} : (zblockK id Q .normal τ r) = (Q .normal τ r) := propext Iff.rfl
@[go_sem] theorem qsG {id : Nat} : (zblockK id Q .ret τ r) = (Q .ret τ r) := propext Iff.rfl
def zloopK (mask : List Bool) (n : Nat) (I : AState -> Option (List SV) -> Prop) (Q : AExit -> AState -> Option (List SV) -> Prop) : AExit -> AState -> Option (List SV) -> Prop
 | .normal, τ, r => I (norm mask n τ) r
 | e, τ, r => Q e τ r
section
variable {mask : List Bool} {n : Nat} {I : AState -> Option (List SV) -> Prop}
@[go_sem] theorem qtV : (zloopK mask n I Q .normal τ r) = (I (norm mask n τ) r) := propext Iff.rfl
@[go_sem] theorem qtW : (zloopK mask n I Q .ret τ r) = (Q .ret τ r) := propext Iff.rfl
end
def zvK (P : Program) (d : Option Nat) (post : List AOper) (rest : Option (List SV)) (fr : List LV) (H : List ABlock) (Q : AExit -> AState -> Option (List SV) -> Prop) (v : SV) : Prop :=
 zyldK v (fun b r => aops P 0 post H.length ⟨fpt fr d (.s (.bool b)), H⟩ True fun τ2 F2 => F2 -> Q .normal τ2 r) rest
def zyK (P : Program) (l : Nat) (f x : AX) (d : Option Nat) (post : List AOper) (rest : Option (List SV)) (Q : AExit -> AState -> Option (List SV) -> Prop) (τ : AState) (F : Prop) : Prop :=
 F -> f.ev τ.fr = .yl l /\ exO (frz [] (x.ev τ.fr)) (zvK P d post rest τ.fr τ.hp Q)
@[go_sem] theorem qvS {f x : AX} {d : Option Nat} {post : List AOper} {F : Prop} : (zyK P l f x d post rest Q ⟨fr, H⟩ F) = (F -> f.ev fr = .yl l /\ exO (frz [] (x.ev fr)) (zvK P d post rest fr H Q)) := propext Iff.rfl
def zpK (rest : Option (List SV)) (Q : AExit -> AState -> Option (List SV) -> Prop) (τ : AState) (F : Prop) : Prop := F -> Q .normal τ rest
@[go_sem] theorem qvg {F : Prop} : (zpK rest Q τ F) = (F -> Q .normal τ rest) := propext Iff.rfl
@[go_sem] theorem qtX {d : Option Nat} {post : List AOper} {u v : SV} {vs : List SV} : (zvK P d post (some (u :: vs)) fr H Q v) = (u = v /\ aops P 0 post H.length ⟨fpt fr d (.s (.bool true)), H⟩ True (zpK (some vs) Q) /\ aops P 0 post H.length ⟨fpt fr d (.s (.bool false)), H⟩ True (zpK none Q)) := propext Iff.rfl
@[go_sem] theorem qtY {a : ACode} : (zwp P l (.code a) σ rest Q) = (awp P 0 a σ (zK rest Q)) := propext Iff.rfl
@[go_sem] theorem qvh {a b : ZCode} : (zwp P l (.seq a b) σ rest Q) = (zwp P l a σ rest (zthenK P l b Q)) := by
 simp only [zwp]
 congr 1
 funext e τ r; cases e <;> rfl
def zcondC (P : Program) (l : Nat) (a b : ZCode) (σ : AState) (rest : Option (List SV)) (Q : AExit -> AState -> Option (List SV) -> Prop) (t : Bool) : Prop := bsplit (zwp P l a σ rest Q) (zwp P l b σ rest Q) t
def zcondV (P : Program) (l : Nat) (a b : ZCode) (σ : AState) (rest : Option (List SV)) (Q : AExit -> AState -> Option (List SV) -> Prop) (v : LV) : Prop := condK (zwp P l a σ rest Q) (zwp P l b σ rest Q) v
@[go_sem] theorem qtZ {a b : ZCode} : (zcondC P l a b σ rest Q true) = (zwp P l a σ rest Q) := propext Iff.rfl
@[go_sem] theorem qt0 {a b : ZCode} : (zcondC P l a b σ rest Q false) = (zwp P l b σ rest Q) := propext Iff.rfl
@[go_sem] theorem qt1 {a b : ZCode} {t : Bool} : (zcondV P l a b σ rest Q (.s (.bool t))) = (zcondC P l a b σ rest Q t) := propext Iff.rfl
@[go_sem] theorem qt2 {x : AX} {a b : ZCode} : (zwp P l (.cond x a b) ⟨fr, H⟩ rest Q) = (zcondV P l a b ⟨fr, H⟩ rest Q (x.ev fr)) := propext Iff.rfl
@[go_sem] theorem qsH {id : Nat} {a : ZCode} : (zwp P l (.block id a) σ rest Q) = (zwp P l a σ rest (zblockK id Q)) := by
 simp only [zwp]
 congr 1
 funext e τ r; cases e <;> rfl
@[go_sem] theorem qvi {t off : Nat} {a : ZCode} : (zwp P l (.zap t off a) ⟨fr, H⟩ rest Q) = (zapK H off (fun H' => zwp P l a { fr := fr, hp := H' } rest Q) (fget fr t)) := propext Iff.rfl
@[go_sem] theorem qvj {pre post : List AOper} {f x : AX} {d : Option Nat} : (zwp P l (.yld pre f x d post) ⟨fr, H⟩ rest Q) = (aops P 0 pre H.length ⟨fr, H⟩ True (zyK P l f x d post rest Q)) := propext Iff.rfl
@[go_sem] theorem qvT : (finZ .ret τ r) = (r = some [] \/ r = none) := propext Iff.rfl
theorem qiQ {mask : List Bool} {promo : List (Nat × Option Nat × Nat)} {a : ZCode} (J : Nat -> AState -> Option (List SV) -> Prop) (m : Nat) {σ' : AState} (hσ : promote promo σ = σ') (h0 : J m (norm mask σ'.hp.length σ') rest)
  (hs : ∀ (I : AState -> Option (List SV) -> Prop) k τ r, J k τ r -> (∀ k' τ' r', k' < k -> J k' τ' r' -> I τ' r') -> zwp P l a τ r (zloopK mask σ'.hp.length I Q)) : zwp P l (.loop mask promo a) σ rest Q := by
 subst hσ;simp only [zwp];intro I hI
 have key : ∀ n τ r, J n τ r -> I τ r := by
  intro n
  induction n using Nat.strongRecOn with
  | _ n ih =>
   intro τ r hJ;refine hI τ r ?_;have := hs I n τ r hJ fun n' τ' r' hlt hJ' => ih n' hlt τ' r' hJ'
   exact (congrArg (zwp P l a τ r) (funext fun e => funext fun τ' => funext fun r' => by cases e <;> rfl)).mp this
 exact key m _ _ h0
end
end Go.E.Sm
