/- Closed facts of the loaded program. -/
import Derived.Test.YtgidgjngigaocaaRows
import Derived.JoinedOf
import Derived.KernelRfl
section
namespace Go.Proofs.Ytgidgjngigaocaa.Fa
def sp : Char := Char.ofNat 32
theorem words_app (a r : List Char) (h : a.all (fun c => c != sp) = true) : wordsSigns (a ++ sp :: r) = a :: wordsSigns r := by
  induction a with
  | nil => rfl
  | cons c a ih =>
    simp only [List.all_cons, Bool.and_eq_true] at h
    have h1 : c ≠ sp := by simpa using h.1
    have e := ih h.2
    show wordsSigns (c :: (a ++ sp :: r)) = _
    conv => lhs; unfold wordsSigns
    split
    · rename_i h2; cases h2
    · rename_i h2; simp only [List.cons.injEq] at h2; exact absurd h2.1 h1
    · rename_i c2 r2 _ h2
      simp only [List.cons.injEq] at h2
      obtain ⟨rfl, rfl⟩ := h2
      rw [e]
def o1 : List Nat := [104, 97, 114, 110, 101, 115, 115]
def o2 : List Nat := [102, 99, 102, 52, 57, 102, 100, 99, 53, 98, 101, 54, 50, 53, 48, 51, 51, 57, 101, 54, 51, 100, 97, 49, 99, 100, 57, 51, 51, 98, 101, 98, 100, 102, 50, 57, 55, 52, 98, 100, 99, 101, 98, 100, 48, 53, 51, 98, 54, 101, 97, 101, 55, 50, 53, 57, 49, 50, 49, 48, 102, 51, 48, 97]
def o3 : List Nat := [99, 117, 116]
def o4 : List Nat := [97, 116, 32, 108, 111, 111, 112, 46, 101, 120, 97, 109, 112, 108, 101, 47, 103, 48, 49, 50, 57, 56, 47, 108, 97, 119, 115, 46, 70, 110, 69, 120, 97, 99, 116, 66, 97, 114, 116, 104, 111, 108, 100, 105, 70, 97, 99, 116, 111, 114]
def ofs (l : List Nat) : List Char := l.map Char.ofNat
theorem order : Try.prog.initOrder = String.ofList (ofs (o1 ++ 32 :: (o2 ++ 32 :: (o3 ++ 32 :: o4)))) := by kernel_rfl
theorem n1 : (ofs o1).all (fun c => c != sp) = true := by kernel_rfl
theorem n2 : (ofs o2).all (fun c => c != sp) = true := by kernel_rfl
theorem n3 : (ofs o3).all (fun c => c != sp) = true := by kernel_rfl
theorem e1 : ofs o1 = "harness".toList := by kernel_rfl
theorem e2 : isSumSigns (ofs o2) = true := by kernel_rfl
theorem e3 : ofs o3 = "cut".toList := by kernel_rfl
theorem words : behindMainWord (wordsSigns Try.prog.initOrder.toList) = "cut".toList :: wordsSigns (ofs o4) := by
  rw [order, String.toList_ofList]
  have e : ofs (o1 ++ 32 :: (o2 ++ 32 :: (o3 ++ 32 :: o4))) = ofs o1 ++ sp :: (ofs o2 ++ sp :: (ofs o3 ++ sp :: ofs o4)) := by
    unfold ofs sp; simp only [List.map_append, List.map_cons]
  rw [e, words_app _ _ n1, words_app _ _ n2, words_app _ _ n3, e1, e3]
  unfold behindMainWord
  dsimp only
  rw [if_pos (by rw [e2]; simp)]
theorem strip (r : List (List Char)) : stripLifts liftWords ("cut".toList :: r) = ([], "cut".toList :: r) := by kernel_rfl
theorem lifts_of (Q : Program) (r : List (List Char)) (h : behindMainWord (wordsSigns Q.initOrder.toList) = "cut".toList :: r) : Q.headLifts = [] := by
  unfold Program.headLifts
  rw [h, strip]
  simp
theorem mayEnter_of (Q : Program) (r : List (List Char)) (h : behindMainWord (wordsSigns Q.initOrder.toList) = "cut".toList :: r) (h1 : Q.laysLater = false) (h2 : Q.bearsReflect = false) (h3 : Q.doorFits [] = true) : Q.mayEnter = true := by
  unfold Program.mayEnter
  rw [h]
  simp only [strip, h1, h2, h3]
  simp
theorem liftsFinal_of (Q : Program) (r : List (List Char)) (h : behindMainWord (wordsSigns Q.initOrder.toList) = "cut".toList :: r) : Q.liftsFinal = false := by
  unfold Program.liftsFinal
  rw [h, lifts_of Q r h]
  simp
theorem make_of (Q : Program) (r : List (List Char)) (h : behindMainWord (wordsSigns Q.initOrder.toList) = "cut".toList :: r) : Q.make = some .cut := by
  unfold Program.make
  rw [h]
  simp only
  rw [if_neg (by simp), if_pos (by simp)]
theorem notLater : Try.prog.laysLater = false := by kernel_rfl
theorem notReflect : Try.prog.bearsReflect = false := by kernel_rfl
theorem door : Try.prog.doorFits [] = true := by kernel_rfl
theorem mayEnter : Try.prog.mayEnter = true := mayEnter_of _ _ words notLater notReflect door
theorem liftsFinal : Try.prog.liftsFinal = false := liftsFinal_of _ _ words
theorem make : Try.prog.make = some .cut := make_of _ _ words
theorem laid : laidOutB Try.prog = true := by kernel_rfl
theorem mapsRowed_ : mapsRowed Try.prog = true := by kernel_rfl
theorem stops_ : (Try.prog.stops == []) = true := by kernel_rfl
theorem stopKnobs_ : (Try.prog.stopKnobs == []) = true := by kernel_rfl
theorem stopsHeard_ : Try.prog.stopsHeard = true := by kernel_rfl
theorem plainKeys_ : Try.prog.plainKeys = true := by kernel_rfl
theorem own : ownKnob Try.prog.godebug = none := by kernel_rfl
theorem and_mk {a b : Bool} (ha : a = true) (hb : b = true) : (a && b) = true := by rw [ha, hb]; rfl
theorem joined_of {P : Program} {f : FuncId} {fn : Func} {s : ChangeSpec} {c : OpenClaim}
    (k0 : c.wf (OpenSpec.ofChange s) = true)
    (k1 : laidOutB P = true)
    (k2 : mapsRowed P = true)
    (k3 : fn.params.all (P.readableRec ·) = true)
    (k4 : namedTie P c.named s.vars = true)
    (k5 : (c.stops == []) = true)
    (k6 : (P.stops == []) = true)
    (k7 : (c.knobs == []) = true)
    (k8 : (P.stopKnobs == []) = true)
    (k9 : (c.inPlace == P.inPlace f) = true)
    (k10 : (c.unfollowed == P.unfollowed f) = true)
    (k11 : (c.recurses == P.recurses f) = true)
    (k12 : (c.named == P.varsNamed f) = true)
    (k13 : (c.maps == (fn.params.toList ++ s.plain.varTypes P).any (P.mapsRec ·)) = true)
    (k14 : (c.ifaces == (fn.params.toList ++ s.plain.varTypes P).any (P.ifacesRec ·)) = true)
    (k15 : (c.mapsOut == P.mapsAmong fn.resultTypes.toList) = true)
    (k16 : (c.loops == (fn.params.toList ++ s.plain.varTypes P).any (P.loopsFrom ·)) = true)
    (k17 : (c.wideKeys == (fn.params.toList ++ s.plain.varTypes P ++ fn.resultTypes.toList).any (P.wideKeysFrom ·)) = true)
    (k18 : s.vars.all (P.varReadable ·) = true)
    (k19 : fn.resultTypes.all (fun t => P.readableRec t && decide (t < P.types.size)) = true)
    (k20 : (c.ifacesOut == fn.resultTypes.toList.any (P.ifacesRec ·)) = true)
    (k21 : (c.loopsOut == fn.resultTypes.toList.any (P.loopsFrom ·)) = true)
    (k22 : (c.plainKeys == P.plainKeys) = true)
    (k23 : c.shortTexts.isNone = true)
    (k24 : P.stopsHeard = true)
    (k25 : P.mayEnter = true)
    (k26 : (c.lifted == P.liftsFinal) = true)
    (k27 : (P.make == some c.make) = true)
    (k28 : (c.kinds == (if c.domain.isEmpty then [] else fn.params.toList.map fun t => match P.underlying t with | some (.int k) => some k | _ => none)) = true)
    (k29 : (c.pinned == c.pinnedBy) = true)
    (k30 : (c.veiled == (fn.params.toList ++ s.plain.varTypes P ++ fn.resultTypes.toList).any (P.veiledRec ·)) = true)
    (k31 : c.veiledFits P fn.params.toList (fn.params.toList ++ s.plain.varTypes P ++ fn.resultTypes.toList) = true) : joinedFacts P f fn s c = true := by
  unfold joinedFacts
  repeat' (with_reducible refine and_mk ?_ ?_)
  all_goals assumption
end Go.Proofs.Ytgidgjngigaocaa.Fa
end
