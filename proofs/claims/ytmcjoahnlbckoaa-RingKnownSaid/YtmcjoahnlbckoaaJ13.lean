/- What a law's row asks for: behind a call that turned nothing that was there, and answered true. -/
import Derived.Test.YtmcjoahnlbckoaaJ12
import Derived.Test.YtmcjoahnlbckoaaRows
import Derived.ProofKit
import Derived.OpenShut

set_option linter.all false

namespace Go.Proofs.Ytmcjoahnlbckoaa.Sk
open Go Go.E Go.ChangeShapes Go.WideShapes Go.ChangeAt Go.RowKit
theorem touch_below {w w' : World} (h : E.Touch [] w w') : Below w.heap.size w w' :=
 ⟨h.os, h.tape, h.output, h.size, fun k hk => h.block k hk (by simp [E.Env.has])⟩
theorem trodAll_stays {H : Type} {enc : TypeId × Value -> H} {P : Program} (hl : laidOutB P = true) {W W' : World} (hb : Below W.heap.size W W') :
  ∀ {ts : List TypeId} {vs : List Value} {ds : List (DataW H)} {ps : List MemPlace}, (∀ t ∈ ts, P.readableRec t = true /\ t < P.types.size) ->
   DataW.TrodAll enc P W 0 (fun _ => true) true ts vs ds ps -> (∀ x ∈ ps, x.block < W.heap.size) -> DataW.TrodAll enc P W' 0 (fun b => decide (b < W.heap.size)) true ts vs ds ps
 | [], _, _, _, _, h, _ => by
  obtain ⟨rfl, rfl, rfl⟩ := trodAll_nil h
  exact trodAll_mk0
 | t :: ts, _, _, _, ht, h, hp => by
  obtain ⟨v, vs, d, ds, p, q, rfl, rfl, rfl, h1, h2⟩ := trodAll_cons h
  have ht1 := ht t (by simp)
  exact trodAll_cons_mk (Below.trod hl ht1.1 ht1.2 h1 hb fun x hx => hp x (by simp [hx])) (trodAll_stays hl hb (fun u hu => ht u (by simp [hu])) h2 fun x hx => hp x (by simp [hx]))
theorem law_post {H : Type} {enc : TypeId × Value -> H} {P : Program} (hl : laidOutB P = true) {f : Func} {s : ChangeSpec} {W W' : World} {args : Array Value} {ds : List (DataW H)} {p : List MemPlace} {tb : TypeId}
  (hA : DataW.TrodAll enc P W 0 (fun _ => true) true f.params.toList args.toList ds p) (hz : W.noneFrozen p) (hv : s.vars = []) (hr : f.resultTypes = #[tb]) (htb : P.underlying tb = some .bool)
  (ht : ∀ t ∈ f.params.toList, P.readableRec t = true /\ t < P.types.size) (hs : s.fn H ds = { results := [.lit (.bool true)], args := ds }) (hlt : ∀ x ∈ p, x.block < W.heap.size) (h : E.Touch [] W W') :
  s.post enc P f false true false false W args (.bool true) W' := by
 have hb := touch_below h
 refine ⟨ds, [], p, [], p, [], ⟨p, [], hA, by rw [hv]; rfl, by simp, hz, fun h => by cases h⟩, ?_, ?_, ?_, ?_, fun h => by cases h⟩
 ·rw [hr, List.append_nil, hs]
  exact trodAll_mk1 (shut_bool htb true)
 ·rw [List.append_nil, hs]
  exact trodAll_stays hl hb ht hA hlt
 ·rw [List.append_nil, hs, hv]
  rfl
 ·exact hb.frame _
theorem retOf_true {M : Mem} {xs : List Value} (h : VRelL M [.bool true] xs) : retOf xs = .bool true := by
 obtain ⟨y, ys, rfl, h1, h2⟩ := h
 simp only [VRelL] at h2
 subst h2
 obtain ⟨us, h3, rfl⟩ := h1
 simp only [CRel] at h3
 subst h3
 rfl
def noMem : Mem := ⟨fun _ _ => Option.none, fun _ => Option.none⟩
theorem noMem_holds (w : World) : E.Holds noMem w := ⟨fun _ _ _ h => (by cases h), fun _ _ h => (by cases h)⟩
end Go.Proofs.Ytmcjoahnlbckoaa.Sk
