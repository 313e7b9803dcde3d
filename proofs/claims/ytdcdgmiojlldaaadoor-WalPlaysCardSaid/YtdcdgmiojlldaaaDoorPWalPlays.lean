/- Every row of batches, crashes and failures leaves of a log what the definition leaves, and what is recovered is the same. -/
import Derived.Test.YtdcdgmiojlldaaaDoorRows
import Derived.Test.YtdcdgmiojlldaaaDoorCards
import Derived.Test.YtdcdgmiojlldaaaDoorTie
import Derived.Test.YtdcdgmiojlldaaaDoorZP12
import Derived.WalkKit
import Derived.ProofKit
import Derived.OpenShut
import Derived.ShutString
import Derived.ChangeOld
import Derived.Below
import Derived.LaidMore
import Derived.Lay
import Derived.SevenTiedAt
import Derived.Stop.Joined
namespace Go.Proofs.YtdcdgmiojlldaaaDoor.walPlays
open Big
open Go.ChangeShapes Go.WideShapes Go.ChangeAt Go.RowKit
open Go.ChangeMaps (open_string shut_string)
set_option linter.unusedVariables false
set_option linter.unusedSimpArgs false
set_option maxRecDepth 100000
theorem own : ownKnob Tryd.prog.godebug = none := by kernel_rfl
theorem laidOut : laidOutB Tryd.prog = true := by kernel_rfl
theorem walk {H : Type} {enc : TypeId × Value → H} {base : Nat} (W : World) (v0 : Value) (d0 : DataW H) (p0 : List MemPlace) (h0 : DataW.Trod enc Tryd.prog W 0 (fun _ => true) true 3 v0 d0 p0) (k0 : Value.okWide Tryd.prog W .any base 3 v0) (v1 : Value) (d1 : DataW H) (p1 : List MemPlace) (h1 : DataW.Trod enc Tryd.prog W 0 (fun _ => true) true 36 v1 d1 p1) (k1 : Value.okWide Tryd.prog W .any base 36 v1) (v2 : Value) (d2 : DataW H) (p2 : List MemPlace) (h2 : DataW.Trod enc Tryd.prog W 0 (fun _ => true) true 40 v2 d2 p2) (k2 : Value.okWide Tryd.prog W .any base 40 v2) (v3 : Value) (d3 : DataW H) (p3 : List MemPlace) (h3 : DataW.Trod enc Tryd.prog W 0 (fun _ => true) true 40 v3 d3 p3) (k3 : Value.okWide Tryd.prog W .any base 40 v3) (v4 : Value) (d4 : DataW H) (p4 : List MemPlace) (h4 : DataW.Trod enc Tryd.prog W 0 (fun _ => true) true 3 v4 d4 p4) (k4 : Value.okWide Tryd.prog W .any base 3 v4) (v5 : Value) (d5 : DataW H) (p5 : List MemPlace) (h5 : DataW.Trod enc Tryd.prog W 0 (fun _ => true) true 28 v5 d5 p5) (k5 : Value.okWide Tryd.prog W .any base 28 v5) : ∃ w', butterylaw8_WalPlays (2 ^ 64) [v0, v1, v2, v3, v4, v5] W = some ([.bool true], w') ∧ Kp W w' := by
  obtain ⟨a0, rfl, r0⟩ := int_openT Tryd.underlying3 h0 k0
  obtain ⟨A, l, c, xs, rfl, hx⟩ := ev_openT (E := Wl.batEl) Tryd.underlying36 (by kernel_rfl) Wl.bat_open h1 k1
  obtain ⟨A2, l2, c2, ways, rfl, hw⟩ := bv_openT (k := .i64) Tryd.underlying40 Tryd.underlying3 (by kernel_rfl) h2 k2
  obtain ⟨A3, l3, c3, faults, rfl, hf⟩ := bv_openT (k := .i64) Tryd.underlying40 Tryd.underlying3 (by kernel_rfl) h3 k3
  obtain ⟨a4, rfl, r4⟩ := int_openT Tryd.underlying3 h4 k4
  obtain ⟨A5, l5, c5, junk, rfl, hj⟩ := bv_openT (k := .u8) Tryd.underlying28 Tryd.underlying5 (by kernel_rfl) h5 k5
  have := i64b r0
  have := i64b r4
  exact RB.out (Wl.Plays_spec (by decide) (by omega) hx hw hf (by omega) hj) trivial
set_option maxRecDepth 100000 in
theorem lifted (os : Os) (started : os.Started) (H : Type) (enc : TypeId × Value → H) :
    ReturnsInHanded {} Tryd.checked os 4 .any (fun w args => (Rows.walPlaysSpec.pre enc Tryd.prog Tryd.f4 Rows.walPlaysRow.domain false w args ∧ laidMetH Tryd.prog Rows.walPlaysRow.laid w) ∧ sizedMet enc Tryd.prog Tryd.f4 (OpenSpec.ofChange Rows.walPlaysSpec) false w args)
      (Rows.walPlaysSpec.post enc Tryd.prog Tryd.f4 false true false false) := by
  refine returnsInHanded_of_change_and (C := Tryd.checked) (X := fun w _ => laidMetH Tryd.prog Rows.walPlaysRow.laid w) (fun _ _ _ hh h => h.of_heap hh) own started (by kernel_rfl) Tryd.func4
    (ChangeSpec.witness_shaped (enc := enc) (C := Tryd.checked) (os := os) (X := fun w _ => laidMetH Tryd.prog Rows.walPlaysRow.laid w) false (World.laidAll Tryd.prog os Rows.walPlaysRow.laid) #[.int .i64 0, .slice none 0 0, .slice none 0 0, .slice none 0 0, .int .i64 0, .slice none 0 0] 8 (World.laidAll_os _ _ _)
      (World.shaped_of_ZipB (by kernel_rfl) (by kernel_rfl)) (by kernel_rfl) (by kernel_rfl) (by kernel_rfl)
      (by rw [MakeChecks.laidMetH_plain _ _ _ (by kernel_rfl)]; exact laidMet_laidAll _ (by kernel_rfl) (by kernel_rfl))) ?_
  intro W base args ds gs before hval0 hW hcnd _ hL _
  have hval : ∀ (j : Nat) t v, Tryd.f4.params[j]? = some t → args[j]? = some v → Value.okWide Tryd.prog W .any base t v := hval0
  have hW' := hW
  obtain ⟨p, q, hA0, hV, rfl, hfz, hnd⟩ := hW
  have hA : DataW.TrodAll enc Tryd.prog W 0 (fun _ => true) true Tryd.f4.params.toList args.toList ds p := hA0
  rw [Tryd.params4] at hA hval
  have hA1 := hA
  obtain ⟨v0, vs0, d0, ds0, p0, q0, hargs, rfl, rfl, h0, r0⟩ := trodAll_cons hA
  obtain ⟨v1, vs1, d1, ds1, p1, q1, rfl, rfl, rfl, h1, r1⟩ := trodAll_cons r0
  obtain ⟨v2, vs2, d2, ds2, p2, q2, rfl, rfl, rfl, h2, r2⟩ := trodAll_cons r1
  obtain ⟨v3, vs3, d3, ds3, p3, q3, rfl, rfl, rfl, h3, r3⟩ := trodAll_cons r2
  obtain ⟨v4, vs4, d4, ds4, p4, q4, rfl, rfl, rfl, h4, r4⟩ := trodAll_cons r3
  obtain ⟨v5, vs5, d5, ds5, p5, q5, rfl, rfl, rfl, h5, r5⟩ := trodAll_cons r4
  obtain ⟨rfl, rfl, rfl⟩ := trodAll_nil r5
  obtain rfl : args = #[v0, v1, v2, v3, v4, v5] := by cases args; simp_all
  obtain ⟨rfl, rfl⟩ := trodVars_none hV
  obtain ⟨W', hrun, bel⟩ := walk (base := base) W v0 d0 p0 h0 (hval 0 3 v0 rfl rfl) v1 d1 p1 h1 (hval 1 36 v1 rfl rfl) v2 d2 p2 h2 (hval 2 40 v2 rfl rfl) v3 d3 p3 h3 (hval 3 40 v3 rfl rfl) v4 d4 p4 h4 (hval 4 3 v4 rfl rfl) v5 d5 p5 h5 (hval 5 28 v5 rfl rfl)
  refine (butterylaw8_WalPlays.calls hrun).mono fun e W'' ⟨he, hw⟩ => ?_
  subst hw he
  exact ⟨_, rfl, _, _, _, [], _, [], hW', trodAll_mk1 (shut_bool Tryd.underlying4 _), all_stays laidOut bel (by kernel_rfl) hA1, rfl, bel.frame _, fun h => by cases h⟩
theorem over : Rows.WalPlaysSaid :=
  OpenClaim.holds_of_wide 4 Tryd.f4 rfl rfl rfl rfl rfl rfl rfl ⟨rfl, rfl, rfl, rfl, rfl⟩ rfl rfl rfl rfl rfl (by kernel_rfl) Tryd.func4 (by kernel_rfl)
    (of_decide_eq_true (by kernel_rfl)) (by unfold Func.isWrapper; first | (rw [if_pos (by decide +kernel)]; kernel_rfl) | (rw [if_neg (by decide +kernel)]; exact ⟨rfl, rfl⟩))
    (fun os started H enc _ => lifted os started H enc)
/-- The statement. -/
theorem proved : Rows.WalPlaysCardSaid :=
  Claim7.holds_tied_plain_at .later [] [.data, .pinned] true (true, "394f47e9ebd957fba687df67782488f88ff000ee72f2bf4429496c00a29a931f") false over (fun _ h => by cases h) (by kernel_rfl) (fun _ h => by cases h) walPlays_row_tie rfl ⟨rfl, rfl⟩ (by kernel_rfl) rfl
    (fun f fn hf hfn => by
      obtain rfl : f = 4 := Option.some.inj ((show Tryd.prog.funcNamed "buttery/butterylaw8.WalPlays" = some 4 by kernel_rfl).symm.trans hf) |>.symm
      obtain rfl : fn = Tryd.f4 := (Option.some.inj (Tryd.func4.symm.trans hfn)).symm
      exact ⟨by kernel_rfl, fun j t ht => by
        rw [Tryd.params4] at ht
        have hm : t ∈ [3, 36, 40, 40, 3, 28] := by simpa using Array.mem_of_getElem? ht
        have hall : ([3, 36, 40, 40, 3, 28].all fun u => !Tryd.prog.wantsStandIn u) = true := by kernel_rfl
        exact (show Tryd.prog.wantsStandIn t = false by simpa using List.all_eq_true.1 hall t hm)⟩)
    (by kernel_rfl)
#print axioms proved
end Go.Proofs.YtdcdgmiojlldaaaDoor.walPlays
