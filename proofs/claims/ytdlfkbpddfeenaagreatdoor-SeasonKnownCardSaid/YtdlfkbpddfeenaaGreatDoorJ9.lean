/- The examples of the chapter on the season hold: the function SeasonKnown answers true. -/
import Derived.Test.YtdlfkbpddfeenaaGreatDoorJ8
import Derived.Test.YtdlfkbpddfeenaaGreatDoorCards

set_option linter.all false

namespace Go.Proofs.YtdlfkbpddfeenaaGreatDoor
open Go.ChangeShapes Go.WideShapes Go.ChangeAt Go.RowKit Go.E
theorem Tryz.laidOut : laidOutB Tryz.prog = true := by kernel_rfl
set_option maxRecDepth 100000 in
theorem seasonKnown_lifted (os : Os) (started : os.Started) (H : Type) (enc : TypeId × Value -> H) :
  ReturnsInHanded {} Tryz.checked os 16 .any (fun w args => (Rows.seasonKnownSpec.pre enc Tryz.prog Tryz.f16 [] false w args /\ laidMetH Tryz.prog Sk.laidL w) /\ sizedMet enc Tryz.prog Tryz.f16 (OpenSpec.ofChange Rows.seasonKnownSpec) false w args)
   (Rows.seasonKnownSpec.post enc Tryz.prog Tryz.f16 false true false false) := by
 refine Sk.ret_laid0 (C := Tryz.checked) (L := Sk.laidL) (fun W h h2 => Sk.memOf_gw h h2) (show ownKnob Tryz.prog.godebug = none by kernel_rfl) started (by kernel_rfl) Tryz.func16
  (ChangeSpec.witness_shaped (enc := enc) (C := Tryz.checked) (os := os) (X := fun w _ => laidMetH Tryz.prog Sk.laidL w) false (World.laidAll Tryz.prog os Sk.laidL) #[] 8 (World.laidAll_os _ _ _)
   (World.shaped_of_ZipB (by kernel_rfl) (by kernel_rfl)) (by kernel_rfl) (by kernel_rfl) (by kernel_rfl)
   (by rw [MakeChecks.laidMetH_plain _ _ _ (by kernel_rfl)]; exact laidMet_laidAll _ (by kernel_rfl) (by kernel_rfl))) ?_
 intro W base args ds gs before hval0 hW hG;obtain ⟨p, q, hA0, hV, rfl, hfz, hnd⟩ := hW;have hA : DataW.TrodAll enc Tryz.prog W 0 (fun _ => true) true Tryz.f16.params.toList args.toList ds p := hA0
 rw [Tryz.params16] at hA;obtain ⟨hn, rfl, rfl⟩ := trodAll_nil hA;have hargs : args = #[] := by cases args; simpa using hn
 subst hargs;obtain ⟨rfl, rfl⟩ := trodVars_none hV;simp only [List.append_nil] at hfz;refine (Sk.l16 (Sk.memOf W) W [] (Sk.memOf_holds hG) rfl).mono fun e W' ⟨xs, M', he, _, _, hx, ht, _⟩ => ?_
 rw [Sk.retOf_true hx] at he;subst he;exact ⟨_, rfl, Sk.law_post (p := []) Tryz.laidOut (by rw [Tryz.params16]; exact hA) hfz rfl rfl Tryz.underlying4 (by simp [Tryz.params16]) rfl (by simp) ht⟩
end Go.Proofs.YtdlfkbpddfeenaaGreatDoor
