/- AggregateSelects: whatever the numbers, the events, the matches and the have, the law answers true (the package variable ast.names tied to the program's text). -/
import Derived.Test.YtamcloifhjafcaaDoorCards
import Derived.Test.YtamcloifhjafcaaDoorTie
import Derived.Test.YtamcloifhjafcaaDoorSE3
import Derived.Test.YtamcloifhjafcaaDoorPwG5
import Derived.LaidMore
import Derived.Lay
import Derived.SevenTiedAt
import Derived.Stop.Joined
namespace Go.Proofs.YtamcloifhjafcaaDoor
open Go.ChangeShapes Go.WideShapes Go.ChangeAt Go.RowKit
set_option maxRecDepth 100000
set_option linter.unusedSimpArgs false
theorem own : ownKnob Tryd.prog.godebug = none := by kernel_rfl
theorem laidOut : laidOutB Tryd.prog = true := by kernel_rfl
theorem row_says {H : Type} {enc : TypeId × Value → H} (W : World) (base : Nat) (args : Array Value) {ds gs : List (DataW H)} (ps : List MemPlace) (hval : ∀ (j : Nat) t v, Tryd.f7.params[j]? = some t → args[j]? = some v → Value.okWide Tryd.prog W .any base t v)
  (hW : DataW.Whole enc Tryd.prog Tryd.f7.params.toList [] false W args.toList ds gs ps) (hL : laidMetH Tryd.prog Rows.aggregateSelectsRow.laid W) : Calls Tryd.prog 7 args W fun e W' => e = .returned (.bool true) ∧ Pw.Keep (fun _ => True) W W' := by
 rw [MakeChecks.laidMetH_plain _ _ _ (by kernel_rfl)] at hL
 have hG : Pw.GlobOK (Pw.memOf W) gN := Pw.glob_strs (t := 188) (e := 9) hL (List.mem_cons_self ..) (by kernel_rfl) (by kernel_rfl) (by kernel_rfl) (by kernel_rfl) (by kernel_rfl)
 obtain ⟨g, hw, hA⟩ := Pw.link_row (d := 12) (L := [.slice (.int .i64), .slice (.strct [.strct [.int .u64, .int .u64], .int .u64, .int .u64, .int .i64, .int .i64]), .slice (.strct [.slice (.strct [.int .i64, .int .i64])]), .strct [.strct [.int .i64, .str], .strct [.int .i64, .int .i64]]]) (by kernel_rfl) hval hW
 refine (Pw.start_pure (E := ESx g.1 g.2.1 g.2.2.1 g.2.2.2.1) (by kernel_rfl) (ESx_ok (ok64_of fun k hk => Pw.wf_i64 (hw.1.2 k hk)) (fun k hk => Pw.wf_i64 (hw.2.1.2 k hk).2.2.2.2.1) (Pw.wf_i64 hw.2.2.2.1.1.1) (fun k hk => (hw.2.2.1.2 k hk).1.1)) hG (fun B i v h => Pw.memOf_some h) hA
  (selects_sat _ _ _ _)).mono fun e W' ⟨v, x, ρ', M', hpt, nx', h1, h2, h3, h4⟩ => ?_
 rw [Pw.isBool_sat h4] at h2
 rw [h2.boolInv] at h1
 exact ⟨h1, h3⟩
theorem lifted (os : Os) (started : os.Started) (H : Type) (enc : TypeId × Value → H) :
  ReturnsInHanded {} Tryd.checked os 7 .any (fun w args => (Rows.aggregateSelectsSpec.pre enc Tryd.prog Tryd.f7 Rows.aggregateSelectsRow.domain false w args ∧ laidMetH Tryd.prog Rows.aggregateSelectsRow.laid w) ∧ sizedMet enc Tryd.prog Tryd.f7 (OpenSpec.ofChange Rows.aggregateSelectsSpec) false w args)
   (Rows.aggregateSelectsSpec.post enc Tryd.prog Tryd.f7 false true false false) := by
 refine returnsInHanded_of_change_and (C := Tryd.checked) (X := fun w _ => laidMetH Tryd.prog Rows.aggregateSelectsRow.laid w) (fun _ _ _ hh h => h.of_heap hh) own started (by kernel_rfl) Tryd.func7
  (ChangeSpec.witness_shaped (enc := enc) (C := Tryd.checked) (os := os) (X := fun w _ => laidMetH Tryd.prog Rows.aggregateSelectsRow.laid w) false (World.laidAll Tryd.prog os Rows.aggregateSelectsRow.laid) #[.slice none 0 0, .slice none 0 0, .slice none 0 0, .agg #[.int .i64 0, .string ⟨#[]⟩, .int .i64 0, .int .i64 0]] 8 (World.laidAll_os _ _ _)
   (World.shaped_of_ZipB (by kernel_rfl) (by kernel_rfl)) (by kernel_rfl) (by kernel_rfl) (by kernel_rfl)
   (by rw [MakeChecks.laidMetH_plain _ _ _ (by kernel_rfl)]; exact laidMet_laidAll _ (by kernel_rfl) (by kernel_rfl))) ?_
 intro W base args ds gs before hval0 hW hcnd _ hL _
 have hW' := hW
 obtain ⟨p, q, hA0, hV, rfl, hfz, hnd⟩ := hW
 have hA : DataW.TrodAll enc Tryd.prog W 0 (fun _ => true) true Tryd.f7.params.toList args.toList ds p := hA0
 rw [Tryd.params7] at hA
 obtain ⟨rfl, rfl⟩ := trodVars_none hV
 obtain ⟨v1, vs1, d1, ds1, p1, q1, e1, rfl, -, -, hA⟩ := trodAll_cons hA
 obtain ⟨v2, vs2, d2, ds2, p2, q2, e2, rfl, -, -, hA⟩ := trodAll_cons hA
 obtain ⟨v3, vs3, d3, ds3, p3, q3, e3, rfl, -, -, hA⟩ := trodAll_cons hA
 obtain ⟨v4, vs4, d4, ds4, p4, q4, e4, rfl, -, -, hA⟩ := trodAll_cons hA
 obtain rfl : ds4 = [] := by cases vs4 <;> cases ds4 <;> simp [DataW.TrodAll] at hA ⊢
 refine (row_says W base args _ hval0 hW' hL).mono fun e W' ⟨he, hk⟩ => ?_
 subst he
 exact ⟨_, rfl, Pw.post_true laidOut (by kernel_rfl) rfl rfl rfl rfl (by kernel_rfl) Tryd.underlying4 hW' hk⟩
theorem row_holds : Rows.AggregateSelectsSaid :=
 OpenClaim.holds_of_wide 7 Tryd.f7 rfl rfl rfl rfl rfl rfl rfl ⟨rfl, rfl, rfl, rfl, rfl⟩ rfl rfl rfl rfl rfl (by kernel_rfl) Tryd.func7 (by kernel_rfl)
  (of_decide_eq_true (by kernel_rfl)) (by unfold Func.isWrapper; first | (rw [if_pos (by decide +kernel)]; kernel_rfl) | (rw [if_neg (by decide +kernel)]; exact ⟨rfl, rfl⟩))
  (fun os started H enc _ => lifted os started H enc)
theorem aggregateSelects_holds : Rows.AggregateSelectsCardSaid :=
 Claim7.holds_tied_plain_at .later [] [.widerDeep] true (true, "d86fb702ba86c0438c0d058328c963e07d0a2193a154c825ddf8495371748618") false
  row_holds (fun _ h => by cases h) (by kernel_rfl) (fun _ h => by cases h) aggregateSelects_row_tie rfl ⟨rfl, rfl⟩ (by kernel_rfl) rfl
  (fun f fn hf hfn => by
   obtain rfl : f = 7 := Option.some.inj ((show Tryd.prog.funcNamed "partywall/partywalllaw16.AggregateSelects" = some 7 by kernel_rfl).symm.trans hf) |>.symm
   obtain rfl : fn = Tryd.f7 := (Option.some.inj (Tryd.func7.symm.trans hfn)).symm
   exact ⟨by kernel_rfl, fun j t ht => by
    rw [Tryd.params7] at ht
    have hm : t ∈ [56, 33, 71, 42] := by simpa using Array.mem_of_getElem? ht
    have hall : ([56, 33, 71, 42].all fun u => !Tryd.prog.wantsStandIn u) = true := by kernel_rfl
    exact (show Tryd.prog.wantsStandIn t = false by simpa using List.all_eq_true.1 hall t hm)⟩)
  (by kernel_rfl)
end Go.Proofs.YtamcloifhjafcaaDoor
