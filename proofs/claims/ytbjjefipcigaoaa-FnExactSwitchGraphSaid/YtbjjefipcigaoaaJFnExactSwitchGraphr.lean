/- The statement FnExactSwitchGraphSaid: whatever the arguments, the call returns true and leaves its arguments as they read. No condition. -/
import Derived.Test.YtbjjefipcigaoaaRows
import Derived.JoinedOf
import Derived.WalkKit
import Derived.ProofKit
import Derived.OpenShut
import Derived.ShutString
import Derived.ChangeOld
import Derived.Below
import Derived.SizedLaws
import Derived.Test.YtbjjefipcigaoaaJFnExactSwitchGraph7
import Derived.Test.YtbjjefipcigaoaaJFnExactSwitchGraphf
section
namespace Go.Proofs.Ytbjjefipcigaoaa.fnExactSwitchGraph
open Go.ChangeShapes Go.WideShapes Go.ChangeAt Go.RowKit Go.Proofs.YtbjjefipcigaoaaW.PrintWords
set_option linter.unusedVariables false
theorem own : ownKnob Try.prog.godebug = none := Fa.own
theorem laidOut : laidOutB Try.prog = true := Fa.laid
def IsRow (k : IntKind) (w : World) (a : Option Addr) (len cap : Nat) (zs : List Int) : Prop :=
  (a = none ∧ len = 0 ∧ cap = 0 ∧ zs = []) ∨
  ∃ x, a = some x ∧ len ≤ cap ∧ cap ≤ maxLen ∧ zs.length = cap ∧ (∀ i, i < zs.length → w.cell? (x.add i) = some (.int k (zs.getD i 0))) ∧ ∀ n ∈ zs, (Lit.int k n).wf = true
set_option maxRecDepth 100000 in
theorem lifted (os : Os) (started : os.Started) (H : Type) (enc : TypeId × Value → H) :
    ReturnsInHanded {} Try.checked os 6 .any (Rows.fnExactSwitchGraphSpec.pre6 enc Try.prog Try.f6 Rows.fnExactSwitchGraphRow.domain false) (Rows.fnExactSwitchGraphSpec.post enc Try.prog Try.f6 false true false false) := by
  refine returnsInHanded_of_change_sized (C := Try.checked) own started (by kernel_rfl) Try.func6
    (ChangeSpec.witness6 (enc := enc) (C := Try.checked) false ⟨#[], #[.agg #[.int .i64 0, .slice none 0 0], .slice none 0 0], []⟩ 8 (by kernel_rfl) (by kernel_rfl) (by kernel_rfl) (by kernel_rfl)) ?_
  intro W base args ds gs before hval0 hW hcnd hsz0 _
  have hsz : (DataW.weightsEach Try.prog (Try.f6.params.toList ++ Rows.fnExactSwitchGraphSpec.plain.varTypes Try.prog) (ds ++ gs)).all (· ≤ reachBytes) = true := hsz0
  have hval : ∀ (j : Nat) t v, Try.f6.params[j]? = some t → args[j]? = some v → Value.okWide Try.prog W .any base t v := hval0
  have hW' := hW
  obtain ⟨p, q, hA0, hV, rfl, hfz, hnd⟩ := hW
  have hA : DataW.TrodAll enc Try.prog W 0 (fun _ => true) true Try.f6.params.toList args.toList ds p := hA0
  rw [Try.params6] at hA hval hsz
  obtain ⟨v0, vs0, d0, ds0, p0, q0, hargs, rfl, rfl, h0, r0⟩ := trodAll_cons hA
  obtain ⟨v1, vs1, d1, ds1, p1, q1, rfl, rfl, rfl, h1, r1⟩ := trodAll_cons r0
  obtain ⟨rfl, rfl, rfl⟩ := trodAll_nil r1
  obtain rfl : args = #[v0, v1] := by cases args; simp_all
  obtain ⟨rfl, rfl⟩ := trodVars_none hV
  have k0 := h0
  have lt0 : ∀ x ∈ p0, x.block < W.heap.size := by obtain ⟨m, hm⟩ := k0; exact DataW.trod_lt m _ _ _ hm
  obtain ⟨n0, A0, cap0, l0, rfl, wn0, hl0, hm0, hC0, ha0⟩ := Gr.open_graph Try.underlying24 rfl rfl Try.underlying22 Try.underlying32 Try.underlying2 (by kernel_rfl) (by kernel_rfl) (by kernel_rfl) (by kernel_rfl) (hval 0 24 v0 rfl rfl) h0
  have k1 := h1
  have lt1 : ∀ x ∈ p1, x.block < W.heap.size := by obtain ⟨m, hm⟩ := k1; exact DataW.trod_lt m _ _ _ hm
  obtain ⟨a1, len1, cap1, rfl⟩ := okWide_slice Try.underlying32 (hval 1 32 v1 rfl rfl)
  obtain ⟨z1, w1⟩ : ∃ zs, IsRow .i64 W a1 len1 cap1 zs := by
    obtain ⟨fuel, hf⟩ := h1
    rcases open_ints Try.underlying32 Try.underlying2 (by kernel_rfl) hf with ⟨hcs, _⟩ | ⟨x, l, c, zs, hcs, _, hl, hm, hz, _, hcell, hwz⟩
    · simp [Value.cells] at hcs
      obtain ⟨rfl, rfl, rfl⟩ := hcs
      exact ⟨[], .inl ⟨rfl, rfl, rfl, rfl⟩⟩
    · simp [Value.cells] at hcs
      obtain ⟨rfl, rfl, rfl⟩ := hcs
      exact ⟨zs, .inr ⟨_, rfl, hl, hm, by simpa using hz, hcell, hwz⟩⟩
  have y1 : len1 * 8 ≤ 140737488351232 := sized_ints hsz (j := 1) (t := 32) rfl rfl Try.underlying32 Try.underlying2 (by kernel_rfl) (by kernel_rfl) h1
  obtain ⟨l1, rfl, hr1, hm1, hw1, hc1⟩ := ReadsInt.ofRowC w1
  clear hA0 hval0 hsz0 hsz
  obtain ⟨k, h⟩ := Q.FnExactSwitchGraph n0 l0 l1 wn0 hm0 ha0 hm1 y1 hw1
  refine (X.laws_FnExactSwitchGraph.calls k n0 _ _ l0 _ _ l1 true W hC0 hl0 (Kd.C_of_reads (d := (0 : Int)) (h1 := fun _ => rfl) hr1) hc1 h).mono fun e W' hh => ?_
  obtain ⟨he, bel⟩ := hh
  subst he
  exact ⟨_, rfl, _, _, _, [], _, [], hW', trodAll_mk1 (shut_bool Try.underlying4 _), (trodAll_cons_mk (Below.trod laidOut (by kernel_rfl) (of_decide_eq_true (by kernel_rfl)) k0 bel lt0) (trodAll_cons_mk (Below.trod laidOut (by kernel_rfl) (of_decide_eq_true (by kernel_rfl)) k1 bel lt1) trodAll_mk0)), rfl, bel.frame _, fun h => by cases h⟩
theorem fact0 : Rows.fnExactSwitchGraphRow.wf (OpenSpec.ofChange Rows.fnExactSwitchGraphSpec) = true := by kernel_rfl
theorem fact3 : Try.f6.params.all (Try.prog.readableRec ·) = true := by kernel_rfl
theorem fact4 : namedTie Try.prog Rows.fnExactSwitchGraphRow.named Rows.fnExactSwitchGraphSpec.vars = true := by kernel_rfl
theorem fact5 : (Rows.fnExactSwitchGraphRow.stops == []) = true := by kernel_rfl
theorem fact7 : (Rows.fnExactSwitchGraphRow.knobs == []) = true := by kernel_rfl
theorem fact9 : (Rows.fnExactSwitchGraphRow.inPlace == Try.prog.inPlace 6) = true := by kernel_rfl
theorem fact10 : (Rows.fnExactSwitchGraphRow.unfollowed == Try.prog.unfollowed 6) = true := by kernel_rfl
theorem fact11 : (Rows.fnExactSwitchGraphRow.recurses == Try.prog.recurses 6) = true := by kernel_rfl
theorem fact12 : (Rows.fnExactSwitchGraphRow.named == Try.prog.varsNamed 6) = true := by kernel_rfl
theorem fact13 : (Rows.fnExactSwitchGraphRow.maps == (Try.f6.params.toList ++ Rows.fnExactSwitchGraphSpec.plain.varTypes Try.prog).any (Try.prog.mapsRec ·)) = true := by kernel_rfl
theorem fact14 : (Rows.fnExactSwitchGraphRow.ifaces == (Try.f6.params.toList ++ Rows.fnExactSwitchGraphSpec.plain.varTypes Try.prog).any (Try.prog.ifacesRec ·)) = true := by kernel_rfl
theorem fact15 : (Rows.fnExactSwitchGraphRow.mapsOut == Try.prog.mapsAmong Try.f6.resultTypes.toList) = true := by kernel_rfl
theorem fact16 : (Rows.fnExactSwitchGraphRow.loops == (Try.f6.params.toList ++ Rows.fnExactSwitchGraphSpec.plain.varTypes Try.prog).any (Try.prog.loopsFrom ·)) = true := by kernel_rfl
theorem fact17 : (Rows.fnExactSwitchGraphRow.wideKeys == (Try.f6.params.toList ++ Rows.fnExactSwitchGraphSpec.plain.varTypes Try.prog ++ Try.f6.resultTypes.toList).any (Try.prog.wideKeysFrom ·)) = true := by kernel_rfl
theorem fact18 : Rows.fnExactSwitchGraphSpec.vars.all (Try.prog.varReadable ·) = true := by kernel_rfl
theorem fact19 : Try.f6.resultTypes.all (fun t => Try.prog.readableRec t && decide (t < Try.prog.types.size)) = true := by kernel_rfl
theorem fact20 : (Rows.fnExactSwitchGraphRow.ifacesOut == Try.f6.resultTypes.toList.any (Try.prog.ifacesRec ·)) = true := by kernel_rfl
theorem fact21 : (Rows.fnExactSwitchGraphRow.loopsOut == Try.f6.resultTypes.toList.any (Try.prog.loopsFrom ·)) = true := by kernel_rfl
theorem fact23 : Rows.fnExactSwitchGraphRow.shortTexts.isNone = true := by kernel_rfl
theorem fact28 : (Rows.fnExactSwitchGraphRow.kinds == (if Rows.fnExactSwitchGraphRow.domain.isEmpty then [] else Try.f6.params.toList.map fun t => match Try.prog.underlying t with | some (.int k) => some k | _ => none)) = true := by kernel_rfl
theorem fact29 : (Rows.fnExactSwitchGraphRow.pinned == Rows.fnExactSwitchGraphRow.pinnedBy) = true := by kernel_rfl
theorem fact30 : (Rows.fnExactSwitchGraphRow.veiled == (Try.f6.params.toList ++ Rows.fnExactSwitchGraphSpec.plain.varTypes Try.prog ++ Try.f6.resultTypes.toList).any (Try.prog.veiledRec ·)) = true := by kernel_rfl
theorem fact31 : Rows.fnExactSwitchGraphRow.veiledFits Try.prog Try.f6.params.toList (Try.f6.params.toList ++ Rows.fnExactSwitchGraphSpec.plain.varTypes Try.prog ++ Try.f6.resultTypes.toList) = true := by kernel_rfl
set_option maxRecDepth 100000 in
theorem facts0 : joinedFacts Try.prog 6 Try.f6 Rows.fnExactSwitchGraphSpec Rows.fnExactSwitchGraphRow = true :=
  Fa.joined_of (P := Try.prog) (f := 6) (fn := Try.f6) (s := Rows.fnExactSwitchGraphSpec) (c := Rows.fnExactSwitchGraphRow) fact0 Fa.laid Fa.mapsRowed_ fact3 fact4 fact5 Fa.stops_ fact7 Fa.stopKnobs_ fact9 fact10 fact11 fact12 fact13 fact14 fact15 fact16 fact17 fact18 fact19 fact20 fact21 (by rw [Fa.plainKeys_]; rfl) fact23 Fa.stopsHeard_ Fa.mayEnter (by rw [Fa.liftsFinal]; rfl) (by rw [Fa.make]; rfl) fact28 fact29 fact30 fact31
theorem progOf : Try.pinned.checked.prog = Try.prog := by kernel_rfl
theorem facts : joinedFacts Try.pinned.checked.prog 6 Try.f6 Rows.fnExactSwitchGraphSpec Rows.fnExactSwitchGraphRow = true := by rw [progOf]; exact facts0
theorem named : Try.pinned.checked.prog.funcNamed Rows.fnExactSwitchGraphRow.func = some 6 := by kernel_rfl
theorem wraps : (Try.f6).isWrapper Try.pinned.checked.prog Rows.fnExactSwitchGraphRow.wrapper Rows.fnExactSwitchGraphRow.mainSum := by
  unfold Func.isWrapper; first | (rw [if_pos (by decide +kernel)]; kernel_rfl) | (rw [if_neg (by decide +kernel)]; exact ⟨rfl, rfl⟩)
theorem inst : (Try.f6).isInstance Try.pinned.checked.prog Rows.fnExactSwitchGraphRow.origin Rows.fnExactSwitchGraphRow.targs := of_decide_eq_true (by kernel_rfl)
theorem over : Rows.fnExactSwitchGraphRow.holds Try.pinned (OpenSpec.ofChange Rows.fnExactSwitchGraphSpec) :=
  OpenClaim.holds_of_wide 6 Try.f6 rfl rfl rfl rfl rfl rfl rfl ⟨rfl, rfl, rfl, rfl, rfl⟩ rfl rfl rfl rfl rfl named Try.func6 facts
    inst wraps
    (fun os started H enc _ => lifted os started H enc)
theorem proved : Rows.FnExactSwitchGraphSaid := over
end Go.Proofs.Ytbjjefipcigaoaa.fnExactSwitchGraph
namespace Go.Proofs.Ytbjjefipcigaoaa
theorem fnExactSwitchGraph_holds : Rows.FnExactSwitchGraphSaid := fnExactSwitchGraph.proved
#print axioms fnExactSwitchGraph_holds
end Go.Proofs.Ytbjjefipcigaoaa
end
