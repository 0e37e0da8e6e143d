/- FlowQueries: whatever the query, the clearance and the label, the law answers true (the package variable ast.names tied to the program's text). -/
import Derived.Test.YtamcloifhjafcaaGreatDoorCards
import Derived.Test.YtamcloifhjafcaaGreatDoorTie
import Derived.Test.YtamcloifhjafcaaGreatDoorQL1
import Derived.Test.YtamcloifhjafcaaGreatDoorPwG5
import Derived.LaidMore
import Derived.Lay
import Derived.SevenTiedAt
import Derived.Stop.Joined
namespace Go.Proofs.YtamcloifhjafcaaGreatDoor
open Go.ChangeShapes Go.WideShapes Go.ChangeAt Go.RowKit
set_option maxRecDepth 100000
set_option linter.unusedSimpArgs false
theorem own : ownKnob Tryz.prog.godebug = none := by kernel_rfl
theorem laidOut : laidOutB Tryz.prog = true := by kernel_rfl
theorem row_says {H : Type} {enc : TypeId × Value → H} (W : World) (base : Nat) (args : Array Value) {ds gs : List (DataW H)} (ps : List MemPlace) (hval : ∀ (j : Nat) t v, Tryz.f3.params[j]? = some t → args[j]? = some v → Value.okWide Tryz.prog W .any base t v)
  (hW : DataW.Whole enc Tryz.prog Tryz.f3.params.toList [] false W args.toList ds gs ps) (hL : laidMetH Tryz.prog Rows.flowQueriesRow.laid W) : Calls Tryz.prog 3 args W fun e W' => e = .returned (.bool true) ∧ Pw.Keep (fun _ => True) W W' := by
 rw [MakeChecks.laidMetH_plain _ _ _ (by kernel_rfl)] at hL
 have hG : Pw.GlobOK (Pw.memOf W) gN := Pw.glob_strs (t := 140) (e := 9) hL (List.mem_cons_self ..) (by kernel_rfl) (by kernel_rfl) (by kernel_rfl) (by kernel_rfl) (by kernel_rfl)
 obtain ⟨g, hw, hA⟩ := Pw.link_row (d := 12) (L := [.strct [.tree [.int .i64, .int .i64, .int .i64, .strct [.int .i64, .bool, .int .u64, .slice (.strct [.int .i64, .int .i64]), .str]], .int .u64, .slice (.strct [.strct [.int .i64, .str], .strct [.int .i64, .int .i64]]), .slice (.strct [.int .i64, .str])], .int .u64, .int .u64]) (by kernel_rfl) hval hW
 refine (Pw.start_pure (E := EQLx g.1.1 g.1.2.1 g.1.2.2.1 g.1.2.2.2.1 g.2.1 g.2.2.1) (by kernel_rfl) (EQLx_ok _ _ _ _ _ _) hG (fun B i v h => Pw.memOf_some h) hA
  (fq_sat _ _ _ _ _ _)).mono fun e W' ⟨v, x, ρ', M', hpt, nx', h1, h2, h3, h4⟩ => ?_
 rw [Pw.isBool_sat h4] at h2
 rw [h2.boolInv] at h1
 exact ⟨h1, h3⟩
theorem lifted (os : Os) (started : os.Started) (H : Type) (enc : TypeId × Value → H) :
  ReturnsInHanded {} Tryz.checked os 3 .any (fun w args => (Rows.flowQueriesSpec.pre enc Tryz.prog Tryz.f3 Rows.flowQueriesRow.domain false w args ∧ laidMetH Tryz.prog Rows.flowQueriesRow.laid w) ∧ sizedMet enc Tryz.prog Tryz.f3 (OpenSpec.ofChange Rows.flowQueriesSpec) false w args)
   (Rows.flowQueriesSpec.post enc Tryz.prog Tryz.f3 false true false false) := by
 refine returnsInHanded_of_change_and (C := Tryz.checked) (X := fun w _ => laidMetH Tryz.prog Rows.flowQueriesRow.laid w) (fun _ _ _ hh h => h.of_heap hh) own started (by kernel_rfl) Tryz.func3
  (ChangeSpec.witness_shaped (enc := enc) (C := Tryz.checked) (os := os) (X := fun w _ => laidMetH Tryz.prog Rows.flowQueriesRow.laid w) false (World.laidAll Tryz.prog os Rows.flowQueriesRow.laid) #[.agg #[.int .i64 0, .int .i64 0, .int .i64 0, .int .i64 0, .bool false, .int .u64 0, .slice none 0 0, .string ⟨#[]⟩, .slice none 0 0, .int .u64 0, .slice none 0 0, .slice none 0 0], .int .u64 0, .int .u64 0] 8 (World.laidAll_os _ _ _)
   (World.shaped_of_ZipB (by kernel_rfl) (by kernel_rfl)) (by kernel_rfl) (by kernel_rfl) (by kernel_rfl)
   (by rw [MakeChecks.laidMetH_plain _ _ _ (by kernel_rfl)]; exact laidMet_laidAll _ (by kernel_rfl) (by kernel_rfl))) ?_
 intro W base args ds gs before hval0 hW hcnd _ hL _
 have hW' := hW
 obtain ⟨p, q, hA0, hV, rfl, hfz, hnd⟩ := hW
 have hA : DataW.TrodAll enc Tryz.prog W 0 (fun _ => true) true Tryz.f3.params.toList args.toList ds p := hA0
 rw [Tryz.params3] at hA
 obtain ⟨rfl, rfl⟩ := trodVars_none hV
 obtain ⟨v1, vs1, d1, ds1, p1, q1, e1, rfl, -, -, hA⟩ := trodAll_cons hA
 obtain ⟨v2, vs2, d2, ds2, p2, q2, e2, rfl, -, -, hA⟩ := trodAll_cons hA
 obtain ⟨v3, vs3, d3, ds3, p3, q3, e3, rfl, -, -, hA⟩ := trodAll_cons hA
 obtain rfl : ds3 = [] := by cases vs3 <;> cases ds3 <;> simp [DataW.TrodAll] at hA ⊢
 refine (row_says W base args _ hval0 hW' hL).mono fun e W' ⟨he, hk⟩ => ?_
 subst he
 exact ⟨_, rfl, Pw.post_true laidOut (by kernel_rfl) rfl rfl rfl rfl (by kernel_rfl) Tryz.underlying4 hW' hk⟩
theorem row_holds : Rows.FlowQueriesSaid :=
 OpenClaim.holds_of_wide 3 Tryz.f3 rfl rfl rfl rfl rfl rfl rfl ⟨rfl, rfl, rfl, rfl, rfl⟩ rfl rfl rfl rfl rfl (by kernel_rfl) Tryz.func3 (by kernel_rfl)
  (of_decide_eq_true (by kernel_rfl)) (by unfold Func.isWrapper; first | (rw [if_pos (by decide +kernel)]; kernel_rfl) | (rw [if_neg (by decide +kernel)]; exact ⟨rfl, rfl⟩))
  (fun os started H enc _ => lifted os started H enc)
theorem flowQueries_holds : Rows.FlowQueriesCardSaid :=
 Claim7.holds_tied_plain_at .later [] [.widerDeep] true (true, "7ddd7c07e159ed2c874d6ca69b5eec67df86a6c6fcfb004ade55f983b5e248a4") false
  row_holds (fun _ h => by cases h) (by kernel_rfl) (fun _ h => by cases h) flowQueries_row_tie rfl ⟨rfl, rfl⟩ (by kernel_rfl) rfl
  (fun f fn hf hfn => by
   obtain rfl : f = 3 := Option.some.inj ((show Tryz.prog.funcNamed "partywall/partywalllaw11.FlowQueries" = some 3 by kernel_rfl).symm.trans hf) |>.symm
   obtain rfl : fn = Tryz.f3 := (Option.some.inj (Tryz.func3.symm.trans hfn)).symm
   exact ⟨by kernel_rfl, fun j t ht => by
    rw [Tryz.params3] at ht
    have hm : t ∈ [32, 22] := by simpa using Array.mem_of_getElem? ht
    have hall : ([32, 22].all fun u => !Tryz.prog.wantsStandIn u) = true := by kernel_rfl
    exact (show Tryz.prog.wantsStandIn t = false by simpa using List.all_eq_true.1 hall t hm)⟩)
  (by kernel_rfl)
end Go.Proofs.YtamcloifhjafcaaGreatDoor
