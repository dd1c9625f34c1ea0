/- Words, what the functions that FnSpectra reaches compute, and the plain laws on it; part 4. -/
import Derived.Test.YtoacolpbdbojeaaProg
import Derived.Below
import Derived.Deep.Draws
import Derived.Deep.AppendLies
import Derived.Maps.AppendAt
import Derived.OwnWalk
import Derived.Laws.BytesArg
import Derived.Laws.MakeOwn
import Derived.Laws.OwnMore
import Derived.Deep.OwnRows
import Derived.Tactics
import Derived.Lib.ConvBytes
import Derived.Laws.Slices
import Derived.WalkKit
import Derived.KernelRfl
import Derived.RowKit3
import Derived.Deep.LoopGhost
import Derived.Deep.QuietTactic
import Derived.BigQuiet
import Derived.WideLaws
import Derived.Deep.DeepCutAuto
import Derived.Deep.CutBlock
import Derived.Deep.RegionHeld3
import Derived.Laws.Rows
import Derived.Lib.AppendStr
import Derived.ArgAppend
import Derived.Laws.IdiomCopy
import Derived.OrdersHeld
import Derived.Laws.BitsLemmas
import Derived.RowKit
import Derived.Lib.SliceRun
import Derived.Test.YtoacolpbdbojeaaJFnSpectra3
section
namespace Go.Proofs.Ytoacolpbdbojeaa.X
open Go.RowKit Go.Proofs.YtoacolpbdbojeaaW.PrintWords Go.Proofs.YtoacolpbdbojeaaW.PrintLast Go.Proofs.YtoacolpbdbojeaaW.PrintMore
attribute [local go_sem] w7z w8z w9z w10z w4z w3z w5z w6z
set_option linter.unusedVariables false
set_option linter.unusedSimpArgs false
def errW : Option Int → Value
 | none => .nilIface
 | some c => .iface 0 (.int .i64 c)
theorem errW_none : errW none = .nilIface := rfl
theorem errW_some (c : Int) : errW (some c) = .iface 0 (.int .i64 c) := rfl
theorem info2 : (Try.prog.info? 2).map (fun i => (i.zero, i.size, i.bytes)) = some (some (.int .i64 0), 1, 8) := by kernel_rfl
theorem info9 : (Try.prog.info? 9).map (fun i => (i.zero, i.size, i.bytes)) = some (some (.string ⟨#[]⟩), 1, 16) := by kernel_rfl
theorem info28 : (Try.prog.info? 28).map (fun i => (i.zero, i.size, i.bytes)) = some (some (.slice none 0 0), 1, 24) := by kernel_rfl
theorem info73 : (Try.prog.info? 73).map (fun i => (i.zero, i.size, i.bytes)) = some (some (.int .i64 0), 1, 8) := by kernel_rfl
def rd_L1 (xs : List (List Int)) (i : Int) : (List Int) := xs.getD i.toNat ([] : List Int)
theorem at_L1 {w : World} {A : Option Addr} {n : Nat} {xs : List (List Int)} (h : Kd.C (Kd.slice 2 (Kd.int .i64)) w A n xs) (i : Int) (h0 : 0 ≤ i) (h1 : i < n) : ∃ ad A0 c0, A = some ad ∧ w.cell? (ad.add i.toNat) = some (.slice A0 (rd_L1 xs i).length c0) ∧ (rd_L1 xs i).length ≤ c0 ∧ (Kd.int .i64).C w A0 (rd_L1 xs i).length (rd_L1 xs i) := by
 obtain ⟨ad, c, e, _, hK, hc0⟩ := Kd.C_get h ([] : List Int) i h0 h1
 have hc : ∀ j u, c[j]? = some u → w.cell? (ad.add (i.toNat * 1 + j)) = some u := hc0
 obtain ⟨A0, c0, rfl, l0, g0⟩ := hK
 exact ⟨ad, A0, c0, e, by have hq := hc 0 _ rfl; rwa [Nat.mul_one, Nat.add_zero] at hq, l0, g0⟩
end Go.Proofs.Ytoacolpbdbojeaa.X
end
section
namespace Go.Proofs.Ytoacolpbdbojeaa.X
open Go.RowKit Go.Proofs.YtoacolpbdbojeaaW.PrintWords Go.Proofs.YtoacolpbdbojeaaW.PrintLast Go.Proofs.YtoacolpbdbojeaaW.PrintMore
set_option linter.unusedVariables false
def mk (n m : Nat) : Array Bool := ((List.range n).map fun i => m.testBit i).toArray
section
variable {P : Program} {md : Region.Mode} {ops : Array Oper} {Q : Exit → Act → World → Prop} {S : World → Prop} {ds : List Nat} {oi : Oper} {fuel n m : Nat} {a a' : Act} {w w1 : World} {v : Value} {K : Act → World → Prop} {l : Array Bool} {T : Bool × List (List Nat × List Nat)}
theorem st_ {id : Nat} (n : Nat) (S : World → Prop) (ds : List Nat) (hS : S w.drew) (h : S w.drew → wpAnyLast P .any ops Q S ds n (mk n 0) a w.drew) (hm : P.follows .mixedOrders = true := by kernel_rfl) (hn : ops.size = n := by exact rfl) (hl : Array.replicate n false = mk n 0 := by kernel_rfl) : (Code.region id ops true).wp P Q a w := start_ (mk n 0) hm hn hl hS h
theorem pu_ (i N : Nat) (h : wpAnyLast P md ops Q S ds fuel (mk n (m + 2 ^ i)) a' w) (hi : ops[i]? = some oi := by exact rfl) (hN : oi.dst = some N := by exact rfl) (hc : anyB md ops (mk n m) (mk n (m + 2 ^ i)) i = true := by exact any_of HT_.out (by kernel_rfl)) (hQ : ∀ c a w, Q (.panic c) (a.put oi.dst v) w → Q (.panic c) a w := by exact fun _ _ _ h => h)
  (hy : Yields P ops oi v a := by exact Or.inl ⟨by rfl, by intro w'; go_simp; try (with_reducible rfl)⟩) (ha : a.put (some N) v = a' := by simp only [Act.put, List.setIfInBounds_toArray, List.set_cons_zero, List.set_cons_succ, i64_w, i32_w]; rfl) : wpAnyLast P md ops Q S ds (fuel + 1) (mk n m) a w := pure_ _ hi hN hc hQ hy ha h
theorem pk_ (i N : Nat) (h : wpAnyLast P md ops Q S ds fuel (mk n (m + 2 ^ i)) a' w) (hi : ops[i]? = some oi := by exact rfl) (hN : oi.dst = some N := by exact rfl) (hc : anyB md ops (mk n m) (mk n (m + 2 ^ i)) i = true := by kernel_rfl) (hQ : ∀ c a w, Q (.panic c) (a.put oi.dst v) w → Q (.panic c) a w := by exact fun _ _ _ h => h)
  (hy : Yields P ops oi v a := by exact Or.inl ⟨by rfl, by intro w'; go_simp; try (with_reducible rfl)⟩) (ha : a.put (some N) v = a' := by simp only [Act.put, List.setIfInBounds_toArray, List.set_cons_zero, List.set_cons_succ, i64_w, i32_w]; rfl) : wpAnyLast P md ops Q S ds (fuel + 1) (mk n m) a w := pure_ _ hi hN hc hQ hy ha h
theorem po_ (i N : Nat) (h : wpAnyLast P md ops Q S ds fuel (mk n (m + 2 ^ i)) a' w) (hi : ops[i]? = some oi := by exact rfl) (hN : oi.dst = some N := by exact rfl) (hc : anyB md ops (mk n m) (mk n (m + 2 ^ i)) i = true := by exact any_of HT_.out (by kernel_rfl)) (hQ : ∀ c a w, Q (.panic c) (a.put oi.dst undef) w → Q (.panic c) a w := by exact fun _ _ _ h => h)
  (hy : Yields P ops oi undef a := by exact Or.inr ⟨by rfl, rfl⟩) (ha : a.put (some N) undef = a' := by simp only [Act.put, List.setIfInBounds_toArray, List.set_cons_zero, List.set_cons_succ, i64_w, i32_w]; rfl) : wpAnyLast P md ops Q S ds (fuel + 1) (mk n m) a w := pure_ _ hi hN hc hQ hy ha h
theorem tk_ (i N : Nat) (h : wpAnyLast P md ops Q S ds fuel (mk n (m + 2 ^ i)) a' w) (hi : ops[i]? = some oi := by exact rfl) (hN : oi.dst = some N := by exact rfl) (hc : takeB md ops ds (mk n m) (mk n (m + 2 ^ i)) i = true := by exact take_ofW HT_.out HW_.out (by kernel_rfl)) (hQ : ∀ c a w, Q (.panic c) (a.put oi.dst v) w → Q (.panic c) a w := by exact fun _ _ _ h => h)
  (hy : YieldsIf P ops S oi v a := by exact Or.inl ⟨by rfl, by intro w' s_; (repeat (obtain ⟨_, s_⟩ := s_)); go_simp; try (with_reducible rfl)⟩) (hS : S w := by exact hHeld) (ha : a.put (some N) v = a' := by simp only [Act.put, List.setIfInBounds_toArray, List.set_cons_zero, List.set_cons_succ, i64_w, i32_w]; rfl) : wpAnyLast P md ops Q S ds (fuel + 1) (mk n m) a w := take_ _ hi hN hc hQ hy hS ha h
theorem tn_ (i N : Nat) (h : wpAnyLast P md ops Q S ds fuel (mk n (m + 2 ^ i)) a' w) (hi : ops[i]? = some oi := by exact rfl) (hN : oi.dst = some N := by exact rfl) (hc : takeB md ops ds (mk n m) (mk n (m + 2 ^ i)) i = true := by kernel_rfl) (hQ : ∀ c a w, Q (.panic c) (a.put oi.dst v) w → Q (.panic c) a w := by exact fun _ _ _ h => h)
  (hy : YieldsIf P ops S oi v a := by exact Or.inl ⟨by rfl, by intro w' s_; (repeat (obtain ⟨_, s_⟩ := s_)); go_simp; try (with_reducible rfl)⟩) (hS : S w := by exact hHeld) (ha : a.put (some N) v = a' := by simp only [Act.put, List.setIfInBounds_toArray, List.set_cons_zero, List.set_cons_succ, i64_w, i32_w]; rfl) : wpAnyLast P md ops Q S ds (fuel + 1) (mk n m) a w := take_ _ hi hN hc hQ hy hS ha h
theorem on_ (i N : Nat) (h : ∀ K : Act → World → Prop, Shut (∀ a' w', S w' → (S w' → wpAnyLast P md ops Q S ds fuel (mk n (m + 2 ^ i)) a' w') → K a' w') → if Region.wanted oi (yielded ops a.tmps) = true then Oper.wp P oi a w K Q else K (a.put (some N) undef) w) (hi : ops[i]? = some oi := by exact rfl) (hN : oi.dst = some N := by exact rfl) (hc : readyB md ops (mk n m) (mk n (m + 2 ^ i)) i = true := by exact one_of HT_.out (by kernel_rfl)) (hd : i ∉ ds := by decide) : wpAnyLast P md ops Q S ds (fuel + 1) (mk n m) a w := one_ _ hi hN hc hd h
theorem ok_ (i N : Nat) (h : ∀ K : Act → World → Prop, Shut (∀ a' w', S w' → (S w' → wpAnyLast P md ops Q S ds fuel (mk n (m + 2 ^ i)) a' w') → K a' w') → if Region.wanted oi (yielded ops a.tmps) = true then Oper.wp P oi a w K Q else K (a.put (some N) undef) w) (hi : ops[i]? = some oi := by exact rfl) (hN : oi.dst = some N := by exact rfl) (hc : readyB md ops (mk n m) (mk n (m + 2 ^ i)) i = true := by kernel_rfl) (hd : i ∉ ds := by decide) : wpAnyLast P md ops Q S ds (fuel + 1) (mk n m) a w := one_ _ hi hN hc hd h
theorem la_ {N : Option Tmp} (i : Nat) (h : ∀ K : Act → World → Prop, Shut (∀ a' w', wpAnyLast P md ops Q S ds fuel (mk n (m + 2 ^ i)) a' w' → K a' w') → if Region.wanted oi (yielded ops a.tmps) = true then Oper.wp P oi a w K Q else K (a.put N undef) w) (hi : ops[i]? = some oi := by exact rfl) (hN : oi.dst = N := by exact rfl) (hc : readyB md ops (mk n m) (mk n (m + 2 ^ i)) i = true := by exact one_of HT_.out (by kernel_rfl)) (hd : i ∈ ds := by decide) : wpAnyLast P md ops Q S ds (fuel + 1) (mk n m) a w := last_ _ hi hN hc hd h
theorem do_ (h : Q .normal a w) (hr : (Region.ready md ops (mk n m) == []) = true := by exact done_of HT_.out (by kernel_rfl)) : wpAnyLast P md ops Q S ds fuel (mk n m) a w := done_ hr h
theorem nm_ (N : Nat) (h : wpAnyLast P md ops Q S ds fuel l a' w) (ha : Act.put a (some N) v = a' := by simp only [Act.put, List.setIfInBounds_toArray, List.set_cons_zero, List.set_cons_succ, i64_w, i32_w]; rfl) : wpAnyLast P md ops Q S ds fuel l (Act.put a (some N) v) w := norm_ ha h
theorem va_ {N : Option Tmp} (h : K (a.put N v) w1) (hw : Region.wanted oi (yielded ops a.tmps) = true := by exact rfl) (hN : oi.dst = N := by exact rfl) (hrun : (execOp a.eval oi).run P w = .ok (.value v) w1 := by go_simp; try exact ⟨rfl, rfl⟩) : if Region.wanted oi (yielded ops a.tmps) = true then Oper.wp P oi a w K Q else K (a.put N undef) w := value_ hw hN hrun h
theorem sk_ (h : K a w1) (hw : Region.wanted oi (yielded ops a.tmps) = true := by exact rfl) (hN : oi.dst = none := by exact rfl) (hrun : (execOp a.eval oi).run P w = .ok .skip w1 := by go_simp; try rfl) : if Region.wanted oi (yielded ops a.tmps) = true then Oper.wp P oi a w K Q else K (a.put none undef) w := skip_ hw hN hrun h
theorem gs_ {N : Option Tmp} {f : FuncId} {fn : Func} {zs : Array Operand} {ts : Array TypeId} (hf : P.funcs[f]? = some fn) (args : Array Value) (h : Calls P f args w fun e w' => ∃ v, e = .returned v ∧ K (a.put N v) w') (hname : (fn.name == "runtime.NumGoroutine") = false := by kernel_rfl) (hb : fn.body.isSome = true := by exact rfl) (hw : Region.wanted oi (yielded ops a.tmps) = true := by exact rfl) (hN : oi.dst = N := by exact rfl)
  (hop : oi.op = .call { callee := .value (.func f), args := zs, argTypes := ts } := by exact rfl) (hargs : zs.map a.eval = args := by (try simp only [List.map_toArray, List.map_cons, List.map_nil]); first | done | rfl | (simp only [List.length_drop, List.length_take]; rfl)) : if Region.wanted oi (yielded ops a.tmps) = true then Oper.wp P oi a w K Q else K (a.put N undef) w := goes_ hf hname hb args hw hN hop hargs h
theorem gl_ {rest : List Oper} (N : Nat) {f : FuncId} {fn : Func} {zs : Array Operand} {ts : Array TypeId} (hf : P.funcs[f]? = some fn) (args : Array Value) (h : Calls P f args w fun e w' => ∃ v, e = .returned v ∧ wpList P ops Q rest (a.put (some N) v) w') (hd : oi.dst = some N := by exact rfl) (hg : oi.guard = none := by exact rfl) (hname : (fn.name == "runtime.NumGoroutine") = false := by kernel_rfl) (hb : fn.body.isSome = true := by exact rfl)
  (hop : oi.op = .call { callee := .value (.func f), args := zs, argTypes := ts } := by exact rfl) (hargs : zs.map a.eval = args := by (try simp only [List.map_toArray, List.map_cons, List.map_nil]); first | done | rfl | (simp only [List.length_drop, List.length_take]; rfl)) : wpList P ops Q (oi :: rest) a w := goesL_ (some N) hd hg hf hname hb args hop hargs h
theorem bx_ {rest : List Oper} (N : Nat) (cs : Array Value) (t : TypeId) (h : ∀ g, g = w.heap.size → ∀ w1, w1.heap[g]? = some (.cells cs t (0, 0)) → Below w.heap.size w w1 → wpList P ops Q rest (a.put oi.dst (.pointer (some ⟨g, 0, none⟩))) w1) (hgd : oi.guard = none := by exact rfl) (hd : oi.dst = some N := by exact rfl)
  (hrun : (execOp a.eval oi).run P w = .ok (.value (.pointer (some ⟨w.heap.size, 0, none⟩))) (w.alloc (.cells cs t (0, 0))) := by first | (go_simp; done) | (go_simp; rfl)) : wpList P ops Q (oi :: rest) a w := box_event hgd hd hrun h
end
section
variable {w w' w1 : World} {g : Nat} {t : TypeId} {cs : Array Value} {x y z u v : Value} {b c : Nat}
theorem bc_ (h : Aside0 (w.heap[g]? = some (.cells cs t (0, 0)))) (i : Nat) (e : cs[i]? = some v := by exact rfl) : w.cell? ⟨g, i, none⟩ = some v := (blk_cell h.out i).trans e
theorem hc_ {a : Addr} (h : Aside0 (Below w.heap.size w w')) (e : w.cell? a = some v) (q : w'.cell? a = w1.cell? a := by exact rfl) : w1.cell? a = some v := q.symm.trans ((h.out.cell (World.block_lt_of_cell? w _ e)).trans e)
theorem bk1_ (h : Aside0 (w.heap[g]? = some (.cells #[x] t (0, 0)))) : w.cell? ⟨g, 0, none⟩ = some x ∧ w.frozen? ⟨g, 0, none⟩ = false := ⟨(blk_cell h.out 0).trans rfl, blk_frozen h.out 0⟩
theorem bk2_ (h : Aside0 (w.heap[g]? = some (.cells #[x, y] t (0, 0)))) : w.cell? ⟨g, 0, none⟩ = some x ∧ w.cell? ⟨g, 1, none⟩ = some y ∧ w.frozen? ⟨g, 0, none⟩ = false ∧ w.frozen? ⟨g, 1, none⟩ = false := ⟨(blk_cell h.out 0).trans rfl, (blk_cell h.out 1).trans rfl, blk_frozen h.out 0, blk_frozen h.out 1⟩
theorem sz_ {a b c : Nat} (h : c = b) (k : a ≤ b) : a ≤ c := h ▸ k
theorem n1_ {a b c : Nat} (h : c = b) (k : a < b) : a ≠ c := h ▸ Nat.ne_of_lt k
theorem n2_ {a b c : Nat} (h : c = b) (k : a < b) : c ≠ a := h ▸ Nat.ne_of_gt k
theorem it_ {α : Type} {c : Prop} [Decidable c] {a b r : α} (k : c) (h : (if c then a else b) = r) : a = r := (if_pos k).symm.trans h
theorem ie_ {α : Type} {c : Prop} [Decidable c] {a b r : α} (k : ¬ c) (h : (if c then a else b) = r) : b = r := (if_neg k).symm.trans h
theorem ib_ {α : Type} {a b r : α} (h : (if true = true then a else b) = r) : a = r := (if_pos rfl).symm.trans h
theorem ic_ {α : Type} {a b r : α} (h : (if false = true then a else b) = r) : b = r := (if_neg (by decide)).symm.trans h
end
section
variable {W w0 w1 : World} {g g1 c : Nat} {o : Obj} {row : Option Nat}
theorem bb_ (h : Aside0 (w0.heap[g]? = some o)) (hb : Below W.heap.size W w1) (e : w0.heap[g]? = some o → W.heap[g]? = some o := by intro h_; (with_reducible repeat (first | refine w1z ?_ _ | refine w2z ?_ | refine w0z ?_ _)); exact h_) : Aside0 (w1.heap[g]? = some o) := ⟨blk_below (e h.out) hb⟩
theorem bg_ (h : Aside0 (w0.heap[g]? = some o)) (hg : W.grownBy w1 row) (hne : some g ≠ row) (e : w0.heap[g]? = some o → W.heap[g]? = some o := by intro h_; (with_reducible repeat (first | refine w1z ?_ _ | refine w2z ?_ | refine w0z ?_ _)); exact h_) : Aside0 (w1.heap[g]? = some o) := ⟨blk_grown (e h.out) hg hne⟩
theorem bq_ (h : Aside0 (w0.heap[g]? = some o)) (hk : KeepBut W w1 g1 none) (hn : Aside0 (g ≠ g1)) (e : w0.heap[g]? = some o → W.heap[g]? = some o := by intro h_; (with_reducible repeat (first | refine w1z ?_ _ | refine w2z ?_ | refine w0z ?_ _)); exact h_) : Aside0 (w1.heap[g]? = some o) := ⟨KeepBut.blk hk (e h.out) hn.out (by simp)⟩
theorem bl1_ (hg : c = W.heap.size) (h : Aside0 (w0.heap[g]? = some o)) (e : w0.heap[g]? = some o → W.heap[g]? = some o := by intro h_; (with_reducible repeat (first | refine w1z ?_ _ | refine w2z ?_ | refine w0z ?_ _)); exact h_) : Aside0 (g ≠ c) := ⟨n1_ hg (blk_lt (e h.out))⟩
theorem bl2_ (hg : c = W.heap.size) (h : Aside0 (w0.heap[g]? = some o)) (e : w0.heap[g]? = some o → W.heap[g]? = some o := by intro h_; (with_reducible repeat (first | refine w1z ?_ _ | refine w2z ?_ | refine w0z ?_ _)); exact h_) : Aside0 (c ≠ g) := ⟨n2_ hg (blk_lt (e h.out))⟩
end
section
variable {α γ : Type} {c : Prop} [Decidable c] {a : Option α} {r : α} {x y z : γ}
theorem na_ (h : (if c then a else none) = some r) : c ∧ a = some r := by by_cases k : c; exact ⟨k, (if_pos k).symm.trans h⟩; exact absurd ((if_neg k).symm.trans h) (by simp)
theorem nc_ (h : (if c then a else none) = some r) : c ∧ decide c = true ∧ a = some r := ⟨(na_ h).1, decide_eq_true (na_ h).1, (na_ h).2⟩
theorem nb_ (h : (if c then a else none) = some r) : decide c = true ∧ a = some r := (nc_ h).2
theorem il11_ (h : (if c then x else y) = z) : (c ∧ decide c = true ∧ x = z) ∨ (¬ c ∧ decide c = false ∧ y = z) := by by_cases k : c; exact .inl ⟨k, decide_eq_true k, (if_pos k).symm.trans h⟩; exact .inr ⟨k, decide_eq_false k, (if_neg k).symm.trans h⟩
theorem il10_ (h : (if c then x else y) = z) : (c ∧ decide c = true ∧ x = z) ∨ (decide c = false ∧ y = z) := (il11_ h).imp id (fun h => h.2)
theorem il00_ (h : (if c then x else y) = z) : (decide c = true ∧ x = z) ∨ (decide c = false ∧ y = z) := (il10_ h).imp (fun h => h.2) id
theorem ob_ {β : Type} {o : Option β} {f : β → Option α} (h : o.bind f = some r) : ∃ t, Aside0 (o = some t) ∧ f t = some r := let ⟨t, h1, h2⟩ := Option.bind_eq_some_iff.mp h; ⟨t, ⟨h1⟩, h2⟩
theorem oc_ {β : Type} {o : Option β} {f : β → Option α} (h : o.bind f = some r) : ∃ t, o = some t ∧ f t = some r := Option.bind_eq_some_iff.mp h
end
section
variable {α β γ : Type} [BEq β] [LawfulBEq β] {i j : β} [Decidable (i = j)] {a : Option α} {r : α} {x y z : γ}
theorem ne_ (h : (if i = j then a else none) = some r) : i = j ∧ (i == j) = true ∧ (i != j) = false ∧ a = some r := ⟨(na_ h).1, beq_iff_eq.mpr (na_ h).1, bne_eq_false_iff_eq.mpr (na_ h).1, (na_ h).2⟩
theorem nd_ (h : (if i = j then a else none) = some r) : (i == j) = true ∧ (i != j) = false ∧ a = some r := (ne_ h).2
theorem iq11_ (h : (if i = j then x else y) = z) : (i = j ∧ (i == j) = true ∧ (i != j) = false ∧ x = z) ∨ (¬ i = j ∧ (i == j) = false ∧ (i != j) = true ∧ y = z) := by by_cases k : i = j; exact .inl ⟨k, beq_iff_eq.mpr k, bne_eq_false_iff_eq.mpr k, (if_pos k).symm.trans h⟩; exact .inr ⟨k, beq_eq_false_iff_ne.mpr k, bne_iff_ne.mpr k, (if_neg k).symm.trans h⟩
theorem iq01_ (h : (if i = j then x else y) = z) : ((i == j) = true ∧ (i != j) = false ∧ x = z) ∨ (¬ i = j ∧ (i == j) = false ∧ (i != j) = true ∧ y = z) := (iq11_ h).imp (fun h => h.2) id
end
section
variable {α β γ : Type} {a b P : Prop} {E X L I : α → β → γ → Prop}
theorem pq_ (f : a → b → P) (p : a := by first | exact of_decide_eq_true (by first | (with_reducible assumption) | assumption) | omega) (q : b := by first | exact of_decide_eq_true (by first | (with_reducible assumption) | assumption) | omega) : (a = True) ∧ (b = True) ∧ P := ⟨eq_true p, eq_true q, f p q⟩
theorem pl_ (f : a → b → ∃ x y z, E x y z ∧ X x y z ∧ L x y z ∧ I x y z) (p : a := by first | exact of_decide_eq_true (by first | (with_reducible assumption) | assumption) | omega) (q : b := by first | exact of_decide_eq_true (by first | (with_reducible assumption) | assumption) | omega) : (a = True) ∧ (b = True) ∧ ∃ x y z, E x y z ∧ X x y z ∧ Aside0 (L x y z) ∧ Aside0 (I x y z) := let ⟨x, y, z, e, u, l, i⟩ := f p q; ⟨eq_true p, eq_true q, x, y, z, e, u, ⟨l⟩, ⟨i⟩⟩
end
section
variable {F G : Prop}
theorem bo_ (h : Aside0 F) (e : F → G := by intro h_; (with_reducible repeat (first | refine w1z ?_ _ | refine w2z ?_ | refine w0z ?_ _)); exact h_) : G := e h.out
theorem ro_ (h : Aside0 F) (e : F → G := by intro h_; (with_reducible repeat (first | apply Kd.R_alloc | apply Kd.R_drewN | apply Kd.R_drew)); exact h_) : G := e h.out
theorem so_ (h : Aside0 F) (e : F → G := by intro h_; (with_reducible repeat (first | apply Kd.S_alloc | apply Kd.S_drewN | apply Kd.S_drew)); exact h_) : G := e h.out
end
section
variable {P : Program} {ops : Array Oper} {Q : Exit → Act → World → Prop} {rest : List Oper} {o : Oper} {a : Act} {W : World}
theorem gc_ (f : FuncId) {zs : Array Operand} {ts : Array TypeId} (h : wpList P ops Q (o :: rest) a W) (_ho : o.op = .call { callee := .value (.func f), args := zs, argTypes := ts } := by with_reducible rfl) : wpList P ops Q (o :: rest) a W := h
theorem gd_ (N : Tmp) (h : wpList P ops Q (o :: rest) a W) (_hN : o.dst = some N := by with_reducible rfl) : wpList P ops Q (o :: rest) a W := h
end
section
variable {p : Prop}
theorem y9_ (h : p := by decide) : p := h
theorem y8_ (h : p := by repeat (first | (with_reducible first | exact I1.out | apply IsS67.alloc | apply IsS67.drewN | apply IsS67.drew | apply IsS67.set_1 | apply IsS67.set_2 | refine IsS67.far ?_ N1.out _ | refine IsS67.far ?_ N5.out _) | exact I1.out)) : p := h
theorem y7_ (h : p := by (with_reducible repeat (first | apply Kd.S_alloc | apply Kd.S_drewN | apply Kd.S_drew)); exact (Kd.S_mono (Kd.S_far (p := ⟨g1, 1, none⟩) (Kd.S_far (p := ⟨g1, 0, none⟩) (Kd.S_types O1.out B1.out (y9_)) (fun _ hk => hk.2) (.int .i64 t1)) (fun _ hk => hk.2) (.slice Q1 t2.length C1)) (fun _ h_ => h_.1))) : p := h
theorem y6_ (h : p := by (with_reducible repeat (first | apply Kd.S_alloc | apply Kd.S_drewN | apply Kd.S_drew)); exact (Kd.S_mono (Kd.S_far (p := ⟨g1, 1, none⟩) (Kd.S_far (p := ⟨g1, 0, none⟩) (Kd.S_types O1.out B1.out (y9_)) (fun _ hk => hk.2) (.int .i64 t2)) (fun _ hk => hk.2) (.slice Q1 t3.length C1)) (fun _ h_ => h_.1))) : p := h
theorem y5_ (h : p := by repeat (first | (with_reducible first | exact HK.out | apply KeepBut.set_ | apply keep_drewN | apply keep_drew | apply keep_alloc) | exact HK.out)) : p := h
theorem y4_ (h : p := by repeat (first | (with_reducible first | exact HB.out | apply below_alloc | apply pw_below_drewN | apply below_drew1 | refine below_set ?_ (IsS67.ge I1.out) | refine below_set ?_ (Aside0.out (by assumption))) | exact HB.out)) : p := h
theorem y3_ (h : p := by repeat (first | (with_reducible first | exact HK.out | apply KeepBut.set_ | apply keep_drewN | apply keep_drew | apply keep_alloc | refine keep_far ?_ W1.out _) | exact HK.out)) : p := h
theorem y2_ (h : p := by repeat (first | (with_reducible first | exact HK.out | apply KeepBut.set_ | apply keep_drewN | apply keep_drew | apply keep_alloc | refine keep_far ?_ W1.out _ | refine keep_far ?_ W2.out _) | exact HK.out)) : p := h
theorem y1_ (h : p := by repeat (first | (with_reducible first | exact HB.out | apply below_alloc | apply pw_below_drewN | apply below_drew1) | exact HB.out)) : p := h
theorem y0_ (h : p := by repeat (first | (with_reducible first | exact HB.out | apply below_alloc | apply pw_below_drewN | apply below_drew1 | refine below_set ?_ (Aside0.out (by assumption))) | exact HB.out)) : p := h
theorem z0_ (h : p := by exact Aside0.mk (Below.refl w.heap.size w)) : p := h
theorem z1_ (h : p := by exact Aside0.mk (hbox)) : p := h
theorem z2_ (h : p := by exact Aside0.mk (sz_ hg (w11z (y1_)))) : p := h
theorem z3_ (h : p := by exact Aside0.mk (below_step (y1_) hb)) : p := h
theorem z4_ (h : p := by repeat (first | exact (Kd.C_below R1.out HB.out) | (with_reducible refine Kd.C_alloc ?_ _) | (with_reducible refine Kd.C_drewN ?_ _) | (with_reducible refine Kd.C_drew ?_))) : p := h
theorem z5_ (h : p := by exact H1.out) : p := h
theorem z6_ (h : p := by exact Aside0.mk (below_step (y0_) hb)) : p := h
theorem z7_ (h : p := by exact Aside0.mk (Kd.S_lower o1 (w11z (y0_)))) : p := h
theorem z8_ (h : p := by first | rfl | (simp [errW_none, errW_some] <;> rfl) | (simp [*, errW_none, errW_some] <;> rfl)) : p := h
theorem z9_ (h : p := by repeat (first | (with_reducible first | exact HB.out | apply below_alloc | apply pw_below_drewN | apply below_drew1 | refine below_set ?_ (Aside0.out (by assumption))) | exact HB.out)) : p := h
theorem z10_ (h : p := by first | exact Kd.S_nil _ _ _ _ _ | exact Kd.N_nil _ _ _ _ _ | exact Kd.V_nil _ _ _ _ _ | exact Kd.Q_nil _ _ _ _ _ | exact Kd.R_nil _ _ _ _ _) : p := h
theorem z11_ (h : p := by exact Aside0.mk (Kd.R_lower o1 (w11z (y0_)))) : p := h
theorem z12_ (h : p := by first | exact Kd.R_nil _ _ _ _ _ | exact Kd.N_nil _ _ _ _ _ | exact Kd.V_nil _ _ _ _ _ | exact Kd.Q_nil _ _ _ _ _ | exact Kd.S_nil _ _ _ _ _) : p := h
theorem z13_ (h : p := by exact Aside0.mk (sz_ hg (w11z (y0_)))) : p := h
theorem z14_ (h : p := by exact Aside0.mk (w2z B1.out)) : p := h
theorem z15_ (h : p := by exact Aside0.mk (w2z B2.out)) : p := h
theorem z16_ (h : p := by exact Aside0.mk (below_drew1 HB.out)) : p := h
theorem z17_ (h : p := by exact Aside0.mk (Kd.R_lower (Kd.R_newB o1 (bo_ B2)) (w11z (y0_)))) : p := h
theorem z18_ (h : p := by repeat (first | exact (Kd.R_reads' O1.out).2.2 | (with_reducible refine Kd.C_alloc ?_ _) | (with_reducible refine Kd.C_drewN ?_ _) | (with_reducible refine Kd.C_drew ?_))) : p := h
theorem z19_ (h : p := by exact (Kd.R_reads' O1.out).2.1) : p := h
theorem z20_ (h : p := by exact Aside0.mk (Kd.R_below (ro_ O1) hb)) : p := h
theorem z21_ (h : p := by first | rfl | (simp; done) | (simp [*]; done)) : p := h
theorem z22_ (h : p := by first | (rw [E1]; with_reducible exact H) | (have H2_ := (Option.bind_some _ _).symm.trans H; rw [E1]; with_reducible exact H2_) | (have H2_ := (Option.bind_some _ _).symm.trans H; with_reducible exact H2_) | with_reducible exact H | (rw [E1]; exact H) | exact H) : p := h
theorem z23_ (h : p := by first | (rw [E2]; with_reducible exact H) | (have H2_ := (Option.bind_some _ _).symm.trans H; rw [E2]; with_reducible exact H2_) | (have H2_ := (Option.bind_some _ _).symm.trans H; with_reducible exact H2_) | with_reducible exact H | (rw [E2]; exact H) | exact H) : p := h
theorem z24_ (h : p := by first | (rw [E3]; with_reducible exact H) | (have H2_ := (Option.bind_some _ _).symm.trans H; rw [E3]; with_reducible exact H2_) | (have H2_ := (Option.bind_some _ _).symm.trans H; with_reducible exact H2_) | with_reducible exact H | (rw [E3]; exact H) | exact H) : p := h
theorem z25_ (h : p := by first | (rw [E4]; with_reducible exact H) | (have H2_ := (Option.bind_some _ _).symm.trans H; rw [E4]; with_reducible exact H2_) | (have H2_ := (Option.bind_some _ _).symm.trans H; with_reducible exact H2_) | with_reducible exact H | (rw [E4]; exact H) | exact H) : p := h
theorem z26_ (h : p := by first | (with_reducible assumption) | assumption) : p := h
theorem z27_ (h : p := by exact Aside0.mk (Kd.S_drew O2.out)) : p := h
theorem z28_ (h : p := by repeat (first | (with_reducible exact R3.out) | (with_reducible refine Kd.C_alloc ?_ _) | (with_reducible refine Kd.C_drewN ?_ _) | (with_reducible refine Kd.C_drew ?_) | exact R3.out)) : p := h
theorem z29_ (h : p := by first | exact qhq1 | (have e_ := (Kd.S_reads' O2.out).1; omega)) : p := h
theorem z30_ (h : p := by (with_reducible repeat (first | refine w1z ?_ _ | refine w2z ?_ | refine w0z ?_ _)); refine blk_far ?_ (by have h_ := Kd.R_ne V1.out B1.out (y9_); intro e_; exact h_ (by rw [e_]; rfl)) _; (with_reducible repeat (first | refine w1z ?_ _ | refine w2z ?_ | refine w0z ?_ _)); exact B1.out) : p := h
theorem z31_ (h : p := by repeat (first | (with_reducible exact R4.out) | (with_reducible refine Kd.C_alloc ?_ _) | (with_reducible refine Kd.C_drewN ?_ _) | (with_reducible refine Kd.C_drew ?_) | exact R4.out)) : p := h
theorem z32_ (h : p := by first | exact qhq2 | (have e_ := (Kd.S_reads' O2.out).1; omega)) : p := h
theorem z33_ (h : p := by have := K1.out; omega) : p := h
theorem z34_ (h : p := by (with_reducible repeat (first | refine w1z ?_ _ | refine w2z ?_ | refine w0z ?_ _)); refine blk_far ?_ (by have h_ := Kd.R_ne V2.out B1.out (y9_); intro e_; exact h_ (by rw [e_]; rfl)) _; (with_reducible repeat (first | refine w1z ?_ _ | refine w2z ?_ | refine w0z ?_ _)); exact B1.out) : p := h
theorem z35_ (h : p := by repeat (first | exact (Kd.S_reads' O1.out).2.2 | (with_reducible refine Kd.C_alloc ?_ _) | (with_reducible refine Kd.C_drewN ?_ _) | (with_reducible refine Kd.C_drew ?_))) : p := h
theorem z36_ (h : p := by exact (Kd.S_reads' O1.out).2.1) : p := h
theorem z37_ (h : p := by exact Aside0.mk (Kd.S_elder' (so_ O1) (Kd.R_base o1) hb)) : p := h
theorem z38_ (h : p := by first | (go_simp; done) | (go_simp; rfl)) : p := h
theorem z39_ (h : p := by exact (Reps.none _ _)) : p := h
theorem z40_ (h : p := by exact (fun _ _ => trivial)) : p := h
theorem z41_ (h : p := by exact (ro_ O2)) : p := h
theorem z42_ (h : p := by exact (w11z (y0_))) : p := h
theorem z43_ (h : p := by exact Aside0.mk (hb)) : p := h
theorem z44_ (h : p := by exact Aside0.mk (ho)) : p := h
theorem z45_ (h : p := by first | (rw [J1] at H; exact H) | (simp only [J1] at H ⊢; exact H)) : p := h
theorem z46_ (h : p := by first | (rw [J3] at H; exact H) | (simp only [J3] at H ⊢; exact H)) : p := h
theorem z47_ (h : p := by rw [hw]; exact P1.2) : p := h
theorem z48_ (h : p := by rw [hw, Y2.out]; exact P1.1) : p := h
theorem z49_ (h : p := by exact Aside0.mk ((by rw [hw]; exact below_set (HB.out) qGB1.out : Below w.heap.size w w3))) : p := h
theorem z50_ (h : p := by have := K1.out; have := K2.out; have := K3.out; omega) : p := h
theorem z51_ (h : p := by (try simp only [L2]); (with_reducible repeat (first | apply Kd.R_alloc | apply Kd.R_drewN | apply Kd.R_drew)); exact O2.out) : p := h
theorem z52_ (h : p := by (try simp only [L2]); (with_reducible repeat (first | refine w1z ?_ _ | refine w2z ?_ | refine w0z ?_ _)); exact B1.out) : p := h
theorem z53_ (h : p := by have := K1.out; have := K2.out; omega) : p := h
theorem z54_ (h : p := by injection e3) : p := h
theorem z55_ (h : p := by kernel_rfl) : p := h
theorem z56_ (h : p := by first | exact q7 | exact of_decide_eq_true (by first | (with_reducible assumption) | assumption) | (have e_ := (Kd.S_reads' O2.out).1; omega)) : p := h
theorem z57_ (h : p := by repeat (first | exact (Kd.C_below R2.out HB.out) | (with_reducible refine Kd.C_alloc ?_ _) | (with_reducible refine Kd.C_drewN ?_ _) | (with_reducible refine Kd.C_drew ?_))) : p := h
theorem z58_ (h : p := by exact Aside0.mk (Kd.R_below (ro_ O2) hb)) : p := h
theorem z59_ (h : p := by first | rfl | (simp [errW_none, errW_some] <;> rfl) | (simp only [← J1]; first | rfl | (simp [errW_none, errW_some] <;> rfl)) | (simp [*, errW_none, errW_some] <;> rfl)) : p := h
theorem z60_ (h : p := by exact Aside0.mk (Kd.R_elder' (ro_ O1) (Kd.R_base o2) hb)) : p := h
theorem z61_ (h : p := by exact Aside0.mk (Kd.S_lower jp_ (w11z (y0_)))) : p := h
theorem z62_ (h : p := by exact Aside0.mk (Kd.S_elder' (so_ O1) (Kd.S_base o1) hb)) : p := h
theorem z63_ (h : p := by first | exact qhq1 | (have e_ := (Kd.S_reads' O3.out).1; omega)) : p := h
theorem z64_ (h : p := by rw [Y2.out]; exact hbk1 hg (fun k_ e_ => by injection e_ with e_; subst e_; exact qge2.1 _ rfl) (Kd.M_row hz_)) : p := h
theorem z65_ (h : p := by first | rfl | (unfold Addr.add; split <;> rfl)) : p := h
theorem z66_ (h : p := by exact Aside0.mk ((Kd.R_reads' hm_).2.1)) : p := h
theorem z67_ (h : p := by (try simp only [L1]); (with_reducible repeat (first | apply Kd.S_alloc | apply Kd.S_drewN | apply Kd.S_drew)); (first | exact O3.out | exact Kd.S_mono O3.out (fun k_ hk_ => by (try simp only [ne_eq, true_and, and_true] at hk_ ⊢); simp only [hk_, not_false_eq_true, and_self, true_and, and_true]))) : p := h
theorem z68_ (h : p := by (try simp only [L1]); (with_reducible repeat (first | apply Kd.S_alloc | apply Kd.S_drewN | apply Kd.S_drew)); (first | exact O4.out | exact Kd.S_mono O4.out (fun k_ hk_ => by (try simp only [ne_eq, true_and, and_true] at hk_ ⊢); simp only [hk_, not_false_eq_true, and_self, true_and, and_true]))) : p := h
theorem z69_ (h : p := by (try simp only [L1]); (with_reducible repeat (first | refine w1z ?_ _ | refine w2z ?_ | refine w0z ?_ _)); exact B1.out) : p := h
theorem z70_ (h : p := by (try simp only [L1]); (with_reducible repeat (first | refine w1z ?_ _ | refine w2z ?_ | refine w0z ?_ _)); exact B2.out) : p := h
theorem z71_ (h : p := by repeat (first | exact (Kd.S_reads' O3.out).2.2 | (with_reducible refine Kd.C_alloc ?_ _) | (with_reducible refine Kd.C_drewN ?_ _) | (with_reducible refine Kd.C_drew ?_))) : p := h
theorem z72_ (h : p := by repeat (first | exact (Kd.S_reads' O4.out).2.2 | (with_reducible refine Kd.C_alloc ?_ _) | (with_reducible refine Kd.C_drewN ?_ _) | (with_reducible refine Kd.C_drew ?_))) : p := h
theorem z73_ (h : p := by exact (Kd.S_reads' O4.out).2.1) : p := h
theorem z74_ (h : p := by injection e2) : p := h
theorem z75_ (h : p := by (try simp only [L1]); (try simp only [L2]); (try simp only [L3]); (with_reducible repeat (first | refine w1z ?_ _ | refine w2z ?_ | refine w0z ?_ _)); exact B1.out) : p := h
theorem z76_ (h : p := by (try simp only [L1]); (try simp only [L2]); (try simp only [L3]); (with_reducible repeat (first | refine w1z ?_ _ | refine w2z ?_ | refine w0z ?_ _)); exact B2.out) : p := h
theorem z77_ (h : p := by have := K1.out; have := K2.out; have := K3.out; have := K4.out; omega) : p := h
theorem z78_ (h : p := by (try simp only [L1]); (try simp only [L2]); (try simp only [L3]); (try simp only [L6]); (try simp only [L7]); (with_reducible repeat (first | apply Kd.S_alloc | apply Kd.S_drewN | apply Kd.S_drew)); (first | exact O3.out | exact Kd.S_mono O3.out (fun k_ hk_ => by (try simp only [ne_eq, true_and, and_true] at hk_ ⊢); simp only [hk_, not_false_eq_true, and_self, true_and, and_true]))) : p := h
theorem z79_ (h : p := by (try simp only [L1]); (try simp only [L2]); (try simp only [L3]); (try simp only [L6]); (try simp only [L7]); (with_reducible repeat (first | apply Kd.S_alloc | apply Kd.S_drewN | apply Kd.S_drew)); (first | exact O4.out | exact Kd.S_mono O4.out (fun k_ hk_ => by (try simp only [ne_eq, true_and, and_true] at hk_ ⊢); simp only [hk_, not_false_eq_true, and_self, true_and, and_true]))) : p := h
theorem z80_ (h : p := by (try simp only [L1]); (try simp only [L2]); (try simp only [L3]); (try simp only [L6]); (try simp only [L7]); (with_reducible repeat (first | refine w1z ?_ _ | refine w2z ?_ | refine w0z ?_ _)); exact B1.out) : p := h
theorem z81_ (h : p := by (try simp only [L1]); (try simp only [L2]); (try simp only [L3]); (try simp only [L6]); (try simp only [L7]); (with_reducible repeat (first | refine w1z ?_ _ | refine w2z ?_ | refine w0z ?_ _)); exact B2.out) : p := h
theorem z82_ (h : p := by (try simp only [L1]); (try simp only [L2]); (try simp only [L3]); (try simp only [L6]); (try simp only [L7]); (with_reducible repeat (first | apply Kd.S_alloc | apply Kd.S_drewN | apply Kd.S_drew)); exact HJO.out) : p := h
theorem z83_ (h : p := by (try simp only [L1]); (try simp only [L2]); (try simp only [L3]); (try simp only [L6]); (try simp only [L7]); (with_reducible repeat (first | apply Kd.S_alloc | apply Kd.S_drewN | apply Kd.S_drew)); exact HJN.out) : p := h
theorem z84_ (h : p := by (first | exact qHX3.out | exact qHX4.out)) : p := h
theorem z85_ (h : p := by (try simp only [L1]); (try simp only [L2]); (try simp only [L3]); (with_reducible repeat (first | apply Kd.S_alloc | apply Kd.S_drewN | apply Kd.S_drew)); (first | exact O3.out | exact Kd.S_mono O3.out (fun k_ hk_ => by (try simp only [ne_eq, true_and, and_true] at hk_ ⊢); simp only [hk_, not_false_eq_true, and_self, true_and, and_true]))) : p := h
theorem z86_ (h : p := by (try simp only [L1]); (try simp only [L2]); (try simp only [L3]); (with_reducible repeat (first | apply Kd.S_alloc | apply Kd.S_drewN | apply Kd.S_drew)); (first | exact O4.out | exact Kd.S_mono O4.out (fun k_ hk_ => by (try simp only [ne_eq, true_and, and_true] at hk_ ⊢); simp only [hk_, not_false_eq_true, and_self, true_and, and_true]))) : p := h
theorem z87_ (h : p := by (try simp only [L1]); (try simp only [L2]); (try simp only [L3]); (with_reducible repeat (first | apply Kd.S_alloc | apply Kd.S_drewN | apply Kd.S_drew)); exact HJO.out) : p := h
theorem z88_ (h : p := by (try simp only [L1]); (try simp only [L2]); (try simp only [L3]); (with_reducible repeat (first | apply Kd.S_alloc | apply Kd.S_drewN | apply Kd.S_drew)); exact HJN.out) : p := h
theorem z89_ (h : p := by repeat (first | exact Drawn0.refl _ | apply Drawn0.step)) : p := h
theorem z90_ (h : p := by exact Aside0.mk (Kd.R_lower o1 (w11z (y1_)))) : p := h
theorem z91_ (h : p := by exact Aside0.mk (Kd.R_lower (Kd.R_new' o2 (Kd.R_lt (ro_ O1))) (w11z (y1_)))) : p := h
theorem z92_ (h : p := by (with_reducible repeat (first | apply Kd.R_alloc | apply Kd.R_drewN | apply Kd.R_drew)); exact Kd.R_mono O1.out (fun _ hk => hk.2)) : p := h
theorem z93_ (h : p := by (with_reducible repeat (first | apply Kd.R_alloc | apply Kd.R_drewN | apply Kd.R_drew)); exact Kd.R_mono O2.out (fun _ hk => hk.2)) : p := h
theorem z94_ (h : p := by repeat (first | (with_reducible first | exact HB.out | apply below_alloc | apply pw_below_drewN | apply below_drew1) | exact HB.out)) : p := h
theorem z95_ (h : p := by repeat (first | exact (Kd.R_reads' O4.out).2.2 | (with_reducible refine Kd.C_alloc ?_ _) | (with_reducible refine Kd.C_drewN ?_ _) | (with_reducible refine Kd.C_drew ?_))) : p := h
theorem z96_ (h : p := by exact (w11z (y1_))) : p := h
theorem z97_ (h : p := by (with_reducible repeat (first | apply Kd.R_alloc | apply Kd.R_drewN | apply Kd.R_drew)); exact Kd.R_mono O4.out (fun _ hk => hk.2)) : p := h
theorem z98_ (h : p := by (with_reducible repeat (first | apply Kd.R_alloc | apply Kd.R_drewN | apply Kd.R_drew)); exact Kd.R_mono O3.out (fun _ hk => trivial)) : p := h
theorem z99_ (h : p := by exact (Reps.one (show Kd.M (Kd.int .i64) _ _ _ 1 [.int .i64 1] from rfl) (Reps.none _ _))) : p := h
theorem z100_ (h : p := by (with_reducible repeat (first | apply Kd.S_alloc | apply Kd.S_drewN | apply Kd.S_drew)); exact Kd.S_mono O2.out (fun _ hk => hk.2)) : p := h
theorem z101_ (h : p := by exact Aside0.mk (Kd.S_lower (Kd.S_new' (Kd.S_new' o2 (Kd.R_lt (ro_ O3))) (Kd.S_lt (so_ O4))) (w11z (y1_)))) : p := h
theorem z102_ (h : p := by exact Aside0.mk (Kd.R_below (ro_ O3) hb)) : p := h
theorem z103_ (h : p := by repeat (first | (with_reducible exact R2.out) | (with_reducible refine Kd.C_alloc ?_ _) | (with_reducible refine Kd.C_drewN ?_ _) | (with_reducible refine Kd.C_drew ?_) | exact R2.out)) : p := h
theorem z104_ (h : p := by repeat (first | exact (Kd.S_reads' O6.out).2.2 | (with_reducible refine Kd.C_alloc ?_ _) | (with_reducible refine Kd.C_drewN ?_ _) | (with_reducible refine Kd.C_drew ?_))) : p := h
theorem z105_ (h : p := by (with_reducible repeat (first | apply Kd.R_alloc | apply Kd.R_drewN | apply Kd.R_drew)); exact Kd.R_mono O5.out (fun _ hk => trivial)) : p := h
theorem z106_ (h : p := by repeat (first | exact R1.out | (with_reducible refine Kd.C_alloc ?_ _) | (with_reducible refine Kd.C_drewN ?_ _) | (with_reducible refine Kd.C_drew ?_))) : p := h
theorem z107_ (h : p := by (try simp only [L1]); (with_reducible repeat (first | apply Kd.R_alloc | apply Kd.R_drewN | apply Kd.R_drew)); exact O2.out) : p := h
theorem z108_ (h : p := by exact Aside0.mk (Kd.R_drew O2.out)) : p := h
theorem z109_ (h : p := by have := K1.out; have := K2.out; first | omega | exact Nat.le_refl _) : p := h
theorem z110_ (h : p := by have := K1.out; have := K2.out; have := qHJ1.out; omega) : p := h
theorem z111_ (h : p := by exact Aside0.mk (Kd.S_lower o1 (w11z (y1_)))) : p := h
theorem z112_ (h : p := by exact Aside0.mk (Kd.S_elder' (so_ O2) (Kd.R_base o2) hb)) : p := h
theorem z113_ (h : p := by exact Kd.M_row (Kd.R_mono (Kd.R_tight rfl (Kd.R_mono (ok' := fun k_ => ((fun _ => True)) k_ ∧ some k_ ≠ (u3 : Value).ownBlock) (Kd.R_apart' (O3.out) (Kd.S_typed O2.out) (y9_)) (fun k_ hk => ⟨trivial, hk.2⟩))) (fun _ h_ => h_))) : p := h
theorem z114_ (h : p := by (with_reducible repeat (first | apply Kd.S_alloc | apply Kd.S_drewN | apply Kd.S_drew)); exact Kd.S_mono O2.out (fun k_ hk => ⟨trivial, fun e_ => hk.2 e_⟩)) : p := h
theorem z115_ (h : p := by first | rfl | (simp; done) | (simp only [← J1] <;> (first | rfl | simp)) | (simp [*]; done)) : p := h
theorem z116_ (h : p := by repeat (first | exact (Kd.V_reads' O2.out).2.2 | (with_reducible refine Kd.C_alloc ?_ _) | (with_reducible refine Kd.C_drewN ?_ _) | (with_reducible refine Kd.C_drew ?_))) : p := h
theorem z117_ (h : p := by exact Aside0.mk (Kd.V_elder' (by (with_reducible repeat (first | apply Kd.V_alloc | apply Kd.V_drewN | apply Kd.V_drew)); exact O2.out) (Kd.R_base o1) hb)) : p := h
theorem z118_ (h : p := by exact Aside0.mk (Kd.R_lower (Kd.R_newM (M := fun k_ => (w.heap.size ≤ k_)) o1 (w11z (y1_)) (fun k_ h_ => h_)) (w11z (y1_)))) : p := h
theorem z119_ (h : p := by (with_reducible repeat (first | apply Kd.R_alloc | apply Kd.R_drewN | apply Kd.R_drew)); exact Kd.R_mono O3.out (fun _ hk => hk.1)) : p := h
theorem z120_ (h : p := by exact Aside0.mk (Kd.S_below (so_ O1) hb)) : p := h
theorem z121_ (h : p := by refine (Kd.S_reads' (e := 28) (base := w.heap.size) (ok := fun k_ => True) (n := t3.length) (c := C1) ?_).2.2; exact (y6_)) : p := h
theorem z122_ (h : p := by exact Aside0.mk (Kd.S_elder' (y6_) (Kd.R_base o1) hb)) : p := h
theorem z123_ (h : p := by exact Aside0.mk (blk_below (o := .cells #[.int .i64 t2, .slice Q1 t3.length C1] 26 (0, 0)) (by (with_reducible repeat (first | refine w1z ?_ _ | refine w2z ?_ | refine w0z ?_ _)); refine blk_put (cs := #[.int .i64 t2, .slice none 0 0]) ?_ 1 _ rfl; (with_reducible repeat (first | refine w1z ?_ _ | refine w2z ?_ | refine w0z ?_ _)); refine blk_put (cs := #[.int .i64 0, .slice none 0 0]) ?_ 0 _ rfl; (with_reducible repeat (first | refine w1z ?_ _ | refine w2z ?_ | refine w0z ?_ _)); exact B1.out) hb)) : p := h
theorem z124_ (h : p := by exact Aside0.mk (Kd.R_lower (Kd.R_new' o1 (Kd.R_lt (ro_ O2))) (w11z (y0_)))) : p := h
theorem z125_ (h : p := by exact Aside0.mk (Kd.R_elder' (ro_ O2) (Kd.R_base o1) hb)) : p := h
theorem z126_ (h : p := by repeat (first | exact (Kd.R_reads' O2.out).2.2 | (with_reducible refine Kd.C_alloc ?_ _) | (with_reducible refine Kd.C_drewN ?_ _) | (with_reducible refine Kd.C_drew ?_))) : p := h
theorem z127_ (h : p := by exact (Kd.R_reads' O2.out).2.1) : p := h
theorem z128_ (h : p := by repeat (first | exact (Kd.R_reads' O3.out).2.2 | (with_reducible refine Kd.C_alloc ?_ _) | (with_reducible refine Kd.C_drewN ?_ _) | (with_reducible refine Kd.C_drew ?_))) : p := h
theorem z129_ (h : p := by exact (Kd.R_reads' O3.out).2.1) : p := h
theorem z130_ (h : p := by exact Aside0.mk (Kd.S_lower (Kd.S_new' (Kd.S_new' (Kd.S_new' o1 (Kd.S_lt (so_ O1))) (Kd.R_lt (ro_ O2))) (Kd.R_lt (ro_ O3))) (w11z (y0_)))) : p := h
theorem z131_ (h : p := by exact Aside0.mk (Kd.S_below (so_ O4) hb)) : p := h
theorem z132_ (h : p := by exact Aside0.mk (Kd.R_drew O5.out)) : p := h
theorem z133_ (h : p := by first | omega | exact Nat.le_refl _) : p := h
theorem z134_ (h : p := by (with_reducible repeat (first | apply Kd.S_alloc | apply Kd.S_drewN | apply Kd.S_drew)); exact Kd.S_mono O4.out (fun _ hk => ⟨hk.2, hk.1.1.1.2⟩)) : p := h
theorem z135_ (h : p := by (with_reducible repeat (first | apply Kd.S_alloc | apply Kd.S_drewN | apply Kd.S_drew)); exact Kd.S_mono O1.out (fun _ hk => ⟨hk.1.2, hk.2⟩)) : p := h
theorem z136_ (h : p := by (with_reducible repeat (first | apply Kd.S_alloc | apply Kd.S_drewN | apply Kd.S_drew)); exact Kd.S_mono O8.out (fun _ hk => hk.2)) : p := h
theorem z137_ (h : p := by exact Aside0.mk (Kd.R_below (ro_ O7) hb)) : p := h
theorem z138_ (h : p := by exact Aside0.mk (Kd.S_below (so_ O8) hb)) : p := h
theorem z139_ (h : p := by repeat (first | exact (Kd.C_below R1.out (y0_)) | (with_reducible refine Kd.C_alloc ?_ _) | (with_reducible refine Kd.C_drewN ?_ _) | (with_reducible refine Kd.C_drew ?_))) : p := h
theorem z140_ (h : p := by refine (Kd.S_reads' (e := 28) (base := w.heap.size) (ok := fun k_ => True) (n := t2.length) (c := C1) ?_).2.2; exact (y7_)) : p := h
theorem z141_ (h : p := by (with_reducible repeat (first | apply Kd.S_alloc | apply Kd.S_drewN | apply Kd.S_drew)); exact (Kd.S_mono (Kd.S_far (p := ⟨g1, 1, none⟩) (Kd.S_far (p := ⟨g1, 0, none⟩) (Kd.S_types O1.out B1.out (y9_)) (fun _ hk => hk.2) (.int .i64 t1)) (fun _ hk => hk.2) (.slice Q1 t2.length C1)) (fun _ h_ => h_.1))) : p := h
theorem z142_ (h : p := by exact Aside0.mk (blk_below (o := .cells #[.int .i64 t1, .slice Q1 t2.length C1] 26 (0, 0)) (by (with_reducible repeat (first | refine w1z ?_ _ | refine w2z ?_ | refine w0z ?_ _)); refine blk_put (cs := #[.int .i64 t1, .slice none 0 0]) ?_ 1 _ rfl; (with_reducible repeat (first | refine w1z ?_ _ | refine w2z ?_ | refine w0z ?_ _)); refine blk_put (cs := #[.int .i64 0, .slice none 0 0]) ?_ 0 _ rfl; (with_reducible repeat (first | refine w1z ?_ _ | refine w2z ?_ | refine w0z ?_ _)); exact B1.out) hb)) : p := h
theorem z143_ (h : p := by (with_reducible repeat (first | apply Kd.S_alloc | apply Kd.S_drewN | apply Kd.S_drew)); exact (Kd.S_mono (Kd.S_far (p := ⟨g2, 1, none⟩) (Kd.S_far (p := ⟨g2, 0, none⟩) (Kd.S_types O4.out B2.out (y9_)) (fun _ hk => hk.2) (.int .i64 t7)) (fun _ hk => hk.2) (.slice Q2 t8.length C2)) (fun _ h_ => h_.1))) : p := h
theorem z144_ (h : p := by (with_reducible repeat (first | apply Kd.R_alloc | apply Kd.R_drewN | apply Kd.R_drew)); exact (Kd.R_mono (Kd.R_far (p := ⟨g2, 1, none⟩) (Kd.R_far (p := ⟨g2, 0, none⟩) (Kd.R_types O2.out B2.out (y9_)) (fun _ hk => hk.2) (.int .i64 t7)) (fun _ hk => hk.2) (.slice Q2 t8.length C2)) (fun _ h_ => h_.1))) : p := h
theorem z145_ (h : p := by (with_reducible repeat (first | apply Kd.R_alloc | apply Kd.R_drewN | apply Kd.R_drew)); exact (Kd.R_mono (Kd.R_far (p := ⟨g2, 1, none⟩) (Kd.R_far (p := ⟨g2, 0, none⟩) (Kd.R_types O3.out B2.out (y9_)) (fun _ hk => hk.2) (.int .i64 t7)) (fun _ hk => hk.2) (.slice Q2 t8.length C2)) (fun _ h_ => h_.1))) : p := h
theorem z146_ (h : p := by (with_reducible repeat (first | refine w1z ?_ _ | refine w2z ?_ | refine w0z ?_ _)); refine blk_far ?_ N1.out _; (with_reducible repeat (first | refine w1z ?_ _ | refine w2z ?_ | refine w0z ?_ _)); refine blk_far ?_ N1.out _; (with_reducible repeat (first | refine w1z ?_ _ | refine w2z ?_ | refine w0z ?_ _)); exact B1.out) : p := h
theorem z147_ (h : p := by repeat (first | exact (Kd.R_reads' O5.out).2.2 | (with_reducible refine Kd.C_alloc ?_ _) | (with_reducible refine Kd.C_drewN ?_ _) | (with_reducible refine Kd.C_drew ?_))) : p := h
theorem z148_ (h : p := by exact Aside0.mk (Kd.S_below (y7_) hb)) : p := h
theorem z149_ (h : p := by exact Aside0.mk (hi)) : p := h
theorem z150_ (h : p := by exact Aside0.mk (IsS67.ne_blk hi (blk_below (bo_ B1) b1) (y9_))) : p := h
theorem z151_ (h : p := by exact Aside0.mk (Ne.symm (IsS67.ne_blk hi (blk_below (bo_ B1) b1) (y9_)))) : p := h
theorem z152_ (h : p := by exact Aside0.mk (blk_below (bo_ B1) b1)) : p := h
theorem z153_ (h : p := by repeat (first | (with_reducible first | exact I1.out | apply IsS67.alloc | apply IsS67.drewN | apply IsS67.drew | apply IsS67.set_1 | apply IsS67.set_2 | refine IsS67.far ?_ N1.out _) | exact I1.out)) : p := h
theorem z154_ (h : p := by repeat (first | (with_reducible first | exact HB.out | apply below_alloc | apply pw_below_drewN | apply below_drew1 | refine below_set ?_ (IsS67.ge I1.out) | refine below_set ?_ (Aside0.out (by assumption))) | exact HB.out)) : p := h
theorem z155_ (h : p := by exact Aside0.mk (Kd.S_lower o1 (w11z (y4_)))) : p := h
theorem z156_ (h : p := by (with_reducible repeat (first | refine w1z ?_ _ | refine w2z ?_ | refine w0z ?_ _)); refine blk_put (cs := #[.int .i64 t4, .slice none 0 0]) ?_ 1 _ rfl; (with_reducible repeat (first | refine w1z ?_ _ | refine w2z ?_ | refine w0z ?_ _)); refine blk_put (cs := #[.int .i64 0, .slice none 0 0]) ?_ 0 _ rfl; (with_reducible repeat (first | refine w1z ?_ _ | refine w2z ?_ | refine w0z ?_ _)); exact B1.out) : p := h
theorem z157_ (h : p := by (with_reducible repeat (first | apply Kd.S_alloc | apply Kd.S_drewN | apply Kd.S_drew)); exact Kd.S_mono (Kd.S_far (p := ⟨g1, 1, none⟩) (Kd.S_far (p := ⟨g1, 0, none⟩) (Kd.S_types O1.out B1.out (y9_)) (fun _ hk => hk.2) (.int .i64 t4)) (fun _ hk => hk.2) (.slice Q1 t5.length C1)) (fun _ hk => trivial)) : p := h
theorem z158_ (h : p := by exact Aside0.mk (Kd.S_mono (Kd.S_keep (IsS67.apartS (show IsS67 w _ qg1 t1 t6 t7 from by repeat (first | (with_reducible first | exact I1.out | apply IsS67.alloc | apply IsS67.drewN | apply IsS67.drew | apply IsS67.set_1 | apply IsS67.set_2 | refine IsS67.far ?_ N1.out _) | exact I1.out)) (so_ O1) (y9_)) hk (fun _ h => h.2)) (fun _ h => h.1))) : p := h
theorem z159_ (h : p := by exact Aside0.mk (Kd.S_elder' (so_ O1) (Kd.R_base o2) hb)) : p := h
theorem z160_ (h : p := by exact Aside0.mk (Kd.R_lower o2 (w11z (y4_)))) : p := h
theorem z161_ (h : p := by exact Aside0.mk (below_step (y4_) hb)) : p := h
theorem z162_ (h : p := by exact Aside0.mk (IsS67.below (by repeat (first | (with_reducible first | exact I1.out | apply IsS67.alloc | apply IsS67.drewN | apply IsS67.drew | apply IsS67.set_1 | apply IsS67.set_2 | refine IsS67.far ?_ N1.out _) | exact I1.out)) hb)) : p := h
theorem z163_ (h : p := by exact far_slice (IsS67.own_ne I1.out O2.out (y9_))) : p := h
theorem z164_ (h : p := by exact Aside0.mk (Kd.S_mono (Kd.S_keep (IsS67.apartS (show IsS67 w _ qg1 t1 t9 t10 from by repeat (first | (with_reducible first | exact I1.out | apply IsS67.alloc | apply IsS67.drewN | apply IsS67.drew | apply IsS67.set_1 | apply IsS67.set_2 | refine IsS67.far ?_ N1.out _) | exact I1.out)) (so_ O1) (y9_)) hk (fun _ h => h.2)) (fun _ h => h.1))) : p := h
theorem z165_ (h : p := by exact Aside0.mk (Kd.R_mono (Kd.R_keep (IsS67.apart (show IsS67 w _ qg1 t1 t9 t10 from by repeat (first | (with_reducible first | exact I1.out | apply IsS67.alloc | apply IsS67.drewN | apply IsS67.drew | apply IsS67.set_1 | apply IsS67.set_2 | refine IsS67.far ?_ N1.out _) | exact I1.out)) (ro_ O2) (y9_)) hk (fun _ h => h.2)) (fun _ h => h.1))) : p := h
theorem z166_ (h : p := by (with_reducible repeat (first | apply Kd.S_alloc | apply Kd.S_drewN | apply Kd.S_drew)); exact Kd.S_mono (Kd.S_far (p := ⟨g1, 1, none⟩) (Kd.S_far (p := ⟨g1, 0, none⟩) (Kd.S_types O1.out B1.out (y9_)) (fun _ hk => hk.2) (.int .i64 t4)) (fun _ hk => hk.2) (.slice Q2 t5.length C2)) (fun _ hk => trivial)) : p := h
theorem z167_ (h : p := by exact Aside0.mk (Kd.R_elder' (ro_ O2) (Kd.R_base o2) hb)) : p := h
theorem z168_ (h : p := by exact Aside0.mk (Kd.R_lower o2 (w11z (y0_)))) : p := h
theorem z169_ (h : p := by first | (rw [E5]; with_reducible exact H) | (have H2_ := (Option.bind_some _ _).symm.trans H; rw [E5]; with_reducible exact H2_) | (have H2_ := (Option.bind_some _ _).symm.trans H; with_reducible exact H2_) | with_reducible exact H | (rw [E5]; exact H) | exact H) : p := h
theorem z170_ (h : p := by rw [e_]; rfl) : p := h
theorem z171_ (h : p := by (with_reducible repeat (first | apply Kd.R_alloc | apply Kd.R_drewN | apply Kd.R_drew)); exact Kd.R_mono O6.out (fun _ hk => trivial)) : p := h
theorem z172_ (h : p := by exact Aside0.mk (Kd.R_lower (Kd.R_new' o2 (Kd.R_lt (ro_ O2))) (w11z (y1_)))) : p := h
theorem z173_ (h : p := by exact Aside0.mk (Kd.S_below (so_ O2) hb)) : p := h
theorem z174_ (h : p := by exact Aside0.mk (KeepBut.refl w g none)) : p := h
theorem z175_ (h : p := by exact Aside0.mk (below_step (by repeat (first | (with_reducible first | exact HB.out | apply below_alloc | apply pw_below_drewN | apply below_drew1 | refine below_set ?_ (IsS67.ge I1.out)) | exact HB.out)) hb)) : p := h
theorem z176_ (h : p := by exact Aside0.mk (sz_ hg (keep_size (w := w) (g := g) (row := none) (y5_)))) : p := h
theorem z177_ (h : p := by exact Aside0.mk (Nat.le_trans qHW1.out (sz_ hg (keep_size (w := w) (g := g) (row := none) (y5_))))) : p := h
theorem z178_ (h : p := by exact Aside0.mk (KeepBut.trans (y5_) (KeepBut.of_below hb g none) (.inl rfl))) : p := h
theorem z179_ (h : p := by exact Aside0.mk (n1_ hg (IsS67.lt (show IsS67 w1 _ g s1 s2 s3 from by repeat (first | (with_reducible first | exact I1.out | apply IsS67.alloc | apply IsS67.drewN | apply IsS67.drew | apply IsS67.set_1 | apply IsS67.set_2) | exact I1.out))))) : p := h
theorem z180_ (h : p := by exact Aside0.mk (n2_ hg (IsS67.lt (show IsS67 w1 _ g s1 s2 s3 from by repeat (first | (with_reducible first | exact I1.out | apply IsS67.alloc | apply IsS67.drewN | apply IsS67.drew | apply IsS67.set_1 | apply IsS67.set_2) | exact I1.out))))) : p := h
theorem z181_ (h : p := by exact Aside0.mk (IsS67.below (by repeat (first | (with_reducible first | exact I1.out | apply IsS67.alloc | apply IsS67.drewN | apply IsS67.drew | apply IsS67.set_1 | apply IsS67.set_2) | exact I1.out)) hb)) : p := h
theorem z182_ (h : p := by exact Aside0.mk (sz_ hg (keep_size (w := w) (g := g) (row := none) (y3_)))) : p := h
theorem z183_ (h : p := by exact Aside0.mk (Nat.le_trans qHW1.out (sz_ hg (keep_size (w := w) (g := g) (row := none) (y3_))))) : p := h
theorem z184_ (h : p := by exact Aside0.mk (KeepBut.trans (y3_) (KeepBut.of_below hb g none) (.inl rfl))) : p := h
theorem z185_ (h : p := by exact Aside0.mk (n1_ hg (IsS67.lt (show IsS67 w1 _ g s1 s2 s3 from by repeat (first | (with_reducible first | exact I1.out | apply IsS67.alloc | apply IsS67.drewN | apply IsS67.drew | apply IsS67.set_1 | apply IsS67.set_2 | refine IsS67.far ?_ N1.out _) | exact I1.out))))) : p := h
theorem z186_ (h : p := by exact Aside0.mk (n2_ hg (IsS67.lt (show IsS67 w1 _ g s1 s2 s3 from by repeat (first | (with_reducible first | exact I1.out | apply IsS67.alloc | apply IsS67.drewN | apply IsS67.drew | apply IsS67.set_1 | apply IsS67.set_2 | refine IsS67.far ?_ N1.out _) | exact I1.out))))) : p := h
theorem z187_ (h : p := by repeat (first | (with_reducible first | exact I1.out | apply IsS67.alloc | apply IsS67.drewN | apply IsS67.drew | apply IsS67.set_1 | apply IsS67.set_2 | refine IsS67.far ?_ N1.out _ | refine IsS67.far ?_ N5.out _) | exact I1.out)) : p := h
theorem z188_ (h : p := by exact Aside0.mk (KeepBut.trans (y2_) hk (.inl rfl))) : p := h
theorem z189_ (h : p := by repeat (first | (with_reducible first | exact HK.out | apply KeepBut.set_ | apply keep_drewN | apply keep_drew | apply keep_alloc | refine keep_far ?_ W1.out _ | refine keep_far ?_ W2.out _) | exact HK.out)) : p := h
theorem z190_ (h : p := by exact Aside0.mk (KeepBut.trans (y2_) (KeepBut.of_below hb g none) (.inl rfl))) : p := h
theorem z191_ (h : p := by exact Aside0.mk (IsS67.below (y8_) hb)) : p := h
theorem z192_ (h : p := by exact far_slice (IsS67.own_ne I1.out O1.out (y9_))) : p := h
theorem z193_ (h : p := by (with_reducible repeat (first | refine w1z ?_ _ | refine w2z ?_ | refine w0z ?_ _)); refine blk_put (cs := #[.int .i64 t4, .slice none 0 0]) ?_ 1 _ rfl; (with_reducible repeat (first | refine w1z ?_ _ | refine w2z ?_ | refine w0z ?_ _)); refine blk_put (cs := #[.int .i64 0, .slice none 0 0]) ?_ 0 _ rfl; (with_reducible repeat (first | refine w1z ?_ _ | refine w2z ?_ | refine w0z ?_ _)); refine blk_far ?_ N4.out _; (with_reducible repeat (first | refine w1z ?_ _ | refine w2z ?_ | refine w0z ?_ _)); exact B2.out) : p := h
theorem z194_ (h : p := by exact Kd.C_foot_now R1.out (y2_)) : p := h
theorem z195_ (h : p := by exact Aside0.mk (Kd.S_lower o1 (keep_size (w := w) (g := g) (row := none) (y2_)))) : p := h
theorem z196_ (h : p := by (with_reducible repeat (first | apply Kd.S_alloc | apply Kd.S_drewN | apply Kd.S_drew)); exact (Kd.S_mono (Kd.S_far (p := ⟨g1, 1, none⟩) (Kd.S_far (p := ⟨g1, 0, none⟩) (Kd.S_types O1.out B1.out (y9_)) (fun _ hk => hk.2) (.int .i64 t4)) (fun _ hk => hk.2) (.slice Q1 t5.length C1)) (fun _ h_ => h_.1))) : p := h
theorem z197_ (h : p := by exact Aside0.mk (Kd.R_lower o2 (keep_size (w := w) (g := g) (row := none) (y2_)))) : p := h
theorem z198_ (h : p := by (with_reducible repeat (first | refine w1z ?_ _ | refine w2z ?_ | refine w0z ?_ _)); refine blk_put (cs := #[.int .i64 t4, .slice A1 l1.length c1]) ?_ 1 _ rfl; (with_reducible repeat (first | refine w1z ?_ _ | refine w2z ?_ | refine w0z ?_ _)); refine blk_put (cs := #[.int .i64 a1, .slice A1 l1.length c1]) ?_ 0 _ rfl; (with_reducible repeat (first | refine w1z ?_ _ | refine w2z ?_ | refine w0z ?_ _)); exact B1.out) : p := h
theorem z199_ (h : p := by (with_reducible repeat (first | refine w1z ?_ _ | refine w2z ?_ | refine w0z ?_ _)); refine blk_far ?_ N4.out _; (with_reducible repeat (first | refine w1z ?_ _ | refine w2z ?_ | refine w0z ?_ _)); refine blk_far ?_ N4.out _; (with_reducible repeat (first | refine w1z ?_ _ | refine w2z ?_ | refine w0z ?_ _)); exact B2.out) : p := h
theorem z200_ (h : p := by (with_reducible repeat (first | apply Kd.S_alloc | apply Kd.S_drewN | apply Kd.S_drew)); exact Kd.S_mono O1.out (fun k_ hk => ⟨trivial, fun e_ => hk.2 e_⟩)) : p := h
theorem z201_ (h : p := by exact (keep_size (w := w) (g := g) (row := none) (y2_))) : p := h
theorem z202_ (h : p := by exact Aside0.mk (below_weaken (y4_) HL.out hb)) : p := h
theorem z203_ (h : p := by (with_reducible repeat (first | apply Kd.R_alloc | apply Kd.R_drewN | apply Kd.R_drew)); exact Kd.R_mono qUU1.out (fun _ hk => .inl hk)) : p := h
theorem z204_ (h : p := by first | (rw [add_block]; exact (fun e_ => ((V1.out.1 _ e_.symm).2) rfl)) | (show some (Addr.add _ _).block ≠ _; rw [add_block]; exact (fun e_ => ((V1.out.1 _ e_.symm).2) rfl)) | exact (fun e_ => ((V1.out.1 _ e_.symm).2) rfl)) : p := h
theorem z205_ (h : p := by assumption) : p := h
theorem z206_ (h : p := by (with_reducible repeat (first | refine w1z ?_ _ | refine w2z ?_ | refine w0z ?_ _)); refine blk_put (cs := #[.int .i64 t4, .slice none 0 0]) ?_ 1 _ rfl; (with_reducible repeat (first | refine w1z ?_ _ | refine w2z ?_ | refine w0z ?_ _)); refine blk_put (cs := #[.int .i64 0, .slice none 0 0]) ?_ 0 _ rfl; (with_reducible repeat (first | refine w1z ?_ _ | refine w2z ?_ | refine w0z ?_ _)); exact B2.out) : p := h
theorem z207_ (h : p := by exact Aside0.mk (IsS67.grown (y8_) hg (IsS67.own_neS I1.out O2.out (y9_)))) : p := h
theorem z208_ (h : p := by exact Aside0.mk (KeepBut.trans (y2_) (KeepBut.of_grown hg g) (Kd.S_base2 O2.out))) : p := h
theorem z209_ (h : p := by (with_reducible repeat (first | refine w1z ?_ _ | refine w2z ?_ | refine w0z ?_ _)); refine blk_put (cs := #[.int .i64 a1, .slice none 0 0]) ?_ 1 _ rfl; (with_reducible repeat (first | refine w1z ?_ _ | refine w2z ?_ | refine w0z ?_ _)); refine blk_put (cs := #[.int .i64 0, .slice none 0 0]) ?_ 0 _ rfl; (with_reducible repeat (first | refine w1z ?_ _ | refine w2z ?_ | refine w0z ?_ _)); exact B2.out) : p := h
theorem z210_ (h : p := by exact Aside0.mk (Kd.R_lower (Kd.R_new' (Kd.R_new' o3 (Kd.R_lt (ro_ O2))) (Kd.R_lt (ro_ O3))) (w11z (y1_)))) : p := h
theorem z211_ (h : p := by exact Aside0.mk (Kd.R_elder' (ro_ O2) (Kd.R_base o3) hb)) : p := h
theorem z212_ (h : p := by exact Aside0.mk (Kd.R_elder' (ro_ O3) (Kd.R_base o3) hb)) : p := h
theorem z213_ (h : p := by exact Aside0.mk (Kd.R_lower (Kd.R_new' (Kd.R_new' (Kd.R_new' o4 (Kd.R_lt (ro_ O2))) (Kd.R_lt (ro_ O5))) (Kd.R_lt (ro_ O6))) (w11z (y1_)))) : p := h
theorem z214_ (h : p := by exact Aside0.mk (Kd.R_elder' (ro_ O2) (Kd.R_base o4) hb)) : p := h
theorem z215_ (h : p := by (with_reducible repeat (first | apply Kd.R_alloc | apply Kd.R_drewN | apply Kd.R_drew)); exact Kd.R_mono O2.out (fun _ hk => ⟨hk.1.1, ⟨hk.1.2, hk.2⟩⟩)) : p := h
theorem z216_ (h : p := by (with_reducible repeat (first | apply Kd.R_alloc | apply Kd.R_drewN | apply Kd.R_drew)); exact Kd.R_mono O5.out (fun _ hk => ⟨hk.1.1, ⟨hk.1.2, hk.2⟩⟩)) : p := h
theorem z217_ (h : p := by (with_reducible repeat (first | apply Kd.R_alloc | apply Kd.R_drewN | apply Kd.R_drew)); exact Kd.R_mono O6.out (fun _ hk => ⟨hk.1.1, ⟨hk.1.2, hk.2⟩⟩)) : p := h
theorem z218_ (h : p := by have := K1.out; have := K2.out; have := K3.out; have := K4.out; have := K5.out; omega) : p := h
theorem z219_ (h : p := by first | (rw [J2] at H; exact H) | (simp only [J2] at H ⊢; exact H)) : p := h
theorem z220_ (h : p := by (try simp only [L2]); (with_reducible repeat (first | apply Kd.R_alloc | apply Kd.R_drewN | apply Kd.R_drew)); exact O5.out) : p := h
theorem z221_ (h : p := by (try simp only [L2]); (with_reducible repeat (first | apply Kd.R_alloc | apply Kd.R_drewN | apply Kd.R_drew)); exact O8.out) : p := h
theorem z222_ (h : p := by (with_reducible repeat (first | refine w1z ?_ _ | refine w2z ?_ | refine w0z ?_ _)); refine blk_far ?_ N3.out _; (with_reducible repeat (first | refine w1z ?_ _ | refine w2z ?_ | refine w0z ?_ _)); refine blk_far ?_ N3.out _; (with_reducible repeat (first | refine w1z ?_ _ | refine w2z ?_ | refine w0z ?_ _)); exact B1.out) : p := h
theorem z223_ (h : p := by (with_reducible repeat (first | refine w1z ?_ _ | refine w2z ?_ | refine w0z ?_ _)); refine blk_far ?_ N3.out _; (with_reducible repeat (first | refine w1z ?_ _ | refine w2z ?_ | refine w0z ?_ _)); exact B1.out) : p := h
theorem z224_ (h : p := by exact Aside0.mk (KeepBut.trans (y3_) hk (.inl rfl))) : p := h
theorem z225_ (h : p := by exact Aside0.mk (Kd.R_lower o1 (keep_size (w := w) (g := g) (row := none) (y3_)))) : p := h
theorem z226_ (h : p := by exact Aside0.mk (Kd.S_lower o1 (keep_size (w := w) (g := g) (row := none) (y3_)))) : p := h
theorem z227_ (h : p := by repeat (first | (with_reducible first | exact HK.out | apply KeepBut.set_ | apply keep_drewN | apply keep_drew | apply keep_alloc | refine keep_far ?_ W1.out _) | exact HK.out)) : p := h
theorem z228_ (h : p := by have := K1.out; first | omega | exact Nat.le_refl _) : p := h
theorem z229_ (h : p := by exact Aside0.mk (Kd.S_mono (Kd.S_keep (IsS67.apartS (show IsS67 w1 _ g s1 x2 x3 from by repeat (first | (with_reducible first | exact I1.out | apply IsS67.alloc | apply IsS67.drewN | apply IsS67.drew | apply IsS67.set_1 | apply IsS67.set_2 | refine IsS67.far ?_ N1.out _ | refine IsS67.far ?_ N5.out _) | exact I1.out)) (so_ O2) (y9_)) hk (fun _ h => h.2)) (fun _ h => h.1))) : p := h
theorem z230_ (h : p := by exact Aside0.mk (Kd.S_mono (Kd.S_keep (IsS67.apartS (show IsS67 w1 _ g s1 t5 t6 from by repeat (first | (with_reducible first | exact I1.out | apply IsS67.alloc | apply IsS67.drewN | apply IsS67.drew | apply IsS67.set_1 | apply IsS67.set_2 | refine IsS67.far ?_ N1.out _ | refine IsS67.far ?_ N5.out _) | exact I1.out)) (so_ O2) (y9_)) hk (fun _ h => h.2)) (fun _ h => h.1))) : p := h
theorem z231_ (h : p := by exact Kd.M_row (Kd.R_mono (Kd.R_tight rfl (Kd.R_mono (ok' := fun k_ => ((fun _ => True)) k_ ∧ some k_ ≠ (u106001 : Value).ownBlock) (Kd.R_apart' (O3.out) (Kd.S_typed O2.out) (y9_)) (fun k_ hk => ⟨trivial, hk.2⟩))) (fun _ h_ => h_))) : p := h
theorem z232_ (h : p := by (with_reducible repeat (first | apply Kd.S_alloc | apply Kd.S_drewN | apply Kd.S_drew)); exact Kd.S_mono (Kd.S_far (p := ⟨g2, 1, none⟩) (Kd.S_types O4.out B2.out (y9_)) (fun _ hk => hk.2) (.slice Q3 y3.length C3)) (fun _ hk => trivial)) : p := h
theorem z233_ (h : p := by (with_reducible repeat (first | refine w1z ?_ _ | refine w2z ?_ | refine w0z ?_ _)); refine blk_put (cs := #[.int .i64 a1, u106001]) ?_ 1 _ rfl; (with_reducible repeat (first | refine w1z ?_ _ | refine w2z ?_ | refine w0z ?_ _)); exact B2.out) : p := h
theorem z234_ (h : p := by have := K1.out; have := qHJ1.out; have := K2.out; first | omega | exact Nat.le_refl _) : p := h
theorem z235_ (h : p := by exact Aside0.mk (Kd.S_mono (Kd.S_keep (IsS67.apartS (show IsS67 w1 _ g s1 x7 x8 from by repeat (first | (with_reducible first | exact I1.out | apply IsS67.alloc | apply IsS67.drewN | apply IsS67.drew | apply IsS67.set_1 | apply IsS67.set_2 | refine IsS67.far ?_ N1.out _ | refine IsS67.far ?_ N5.out _) | exact I1.out)) (so_ O2) (y9_)) hk (fun _ h => h.2)) (fun _ h => h.1))) : p := h
theorem z236_ (h : p := by exact Aside0.mk (Kd.S_mono (Kd.S_keep (IsS67.apartS (show IsS67 w1 _ g s1 t8 t9 from by repeat (first | (with_reducible first | exact I1.out | apply IsS67.alloc | apply IsS67.drewN | apply IsS67.drew | apply IsS67.set_1 | apply IsS67.set_2 | refine IsS67.far ?_ N1.out _ | refine IsS67.far ?_ N5.out _) | exact I1.out)) (so_ O2) (y9_)) hk (fun _ h => h.2)) (fun _ h => h.1))) : p := h
theorem z237_ (h : p := by exact Aside0.mk (Kd.S_mono (Kd.S_keep (IsS67.apartS (show IsS67 w1 _ g s1 t11 t12 from by repeat (first | (with_reducible first | exact I1.out | apply IsS67.alloc | apply IsS67.drewN | apply IsS67.drew | apply IsS67.set_1 | apply IsS67.set_2 | refine IsS67.far ?_ N1.out _ | refine IsS67.far ?_ N5.out _) | exact I1.out)) (so_ O2) (y9_)) hk (fun _ h => h.2)) (fun _ h => h.1))) : p := h
theorem z238_ (h : p := by have := K1.out; have := qHJ1.out; have := K2.out; have := qHJ2.out; omega) : p := h
theorem z239_ (h : p := by exact (Reps.one (show Kd.M (Kd.int .i64) _ _ _ t7 [.int .i64 t7] from rfl) (Reps.one (show Kd.M (Kd.int .i64) _ _ _ t10 [.int .i64 t10] from rfl) (Reps.none _ _)))) : p := h
theorem z240_ (h : p := by repeat (first | (with_reducible first | exact HBW.out | apply below_alloc | apply pw_below_drewN | apply below_drew1) | exact HBW.out)) : p := h
theorem z241_ (h : p := by repeat (first | (with_reducible first | exact HBW.out | apply below_alloc | apply pw_below_drewN | apply below_drew1 | refine below_set ?_ (Aside0.out (by assumption))) | exact HBW.out)) : p := h
theorem z242_ (h : p := by have := qHJ1.out; have := K1.out; omega) : p := h
theorem z243_ (h : p := by rw [← hq_]; exact (y0_)) : p := h
theorem z244_ (h : p := by repeat (first | (with_reducible first | exact I1.out | apply IsS67.alloc | apply IsS67.drewN | apply IsS67.drew | apply IsS67.set_1 | apply IsS67.set_2) | exact I1.out)) : p := h
theorem z245_ (h : p := by repeat (first | (with_reducible first | exact HB.out | apply below_alloc | apply pw_below_drewN | apply below_drew1 | refine below_set ?_ (IsS67.ge I1.out)) | exact HB.out)) : p := h
theorem z246_ (h : p := by exact Aside0.mk (KeepBut.trans (y5_) hk (.inl rfl))) : p := h
theorem z247_ (h : p := by repeat (first | (with_reducible first | exact HK.out | apply KeepBut.set_ | apply keep_drewN | apply keep_drew | apply keep_alloc) | exact HK.out)) : p := h
theorem z248_ (h : p := by first | (rw [add_block]; exact qhn1) | (show (Addr.add _ _).block ≠ _; rw [add_block]; exact qhn1) | exact qhn1) : p := h
theorem z249_ (h : p := by (with_reducible repeat (first | apply Kd.R_alloc | apply Kd.R_drewN | apply Kd.R_drew)); exact (Kd.R_mono (Kd.R_far (p := ⟨g2, 1, none⟩) (Kd.R_far (p := ⟨g2, 0, none⟩) (Kd.R_types O1.out B2.out (y9_)) (fun _ hk => hk.2) (.int .i64 t2)) (fun _ hk => hk.2) (.slice Q2 y1.length C2)) (fun _ h_ => h_.1))) : p := h
theorem z250_ (h : p := by (with_reducible repeat (first | apply Kd.R_alloc | apply Kd.R_drewN | apply Kd.R_drew)); exact Kd.R_mono O4.out (fun _ hk => trivial)) : p := h
theorem z251_ (h : p := by exact Aside0.mk (Kd.S_below (so_ O5) hb)) : p := h
theorem z252_ (h : p := by exact Aside0.mk (Kd.R_lower (Kd.R_new' o1 (Kd.R_lt (ro_ O4))) (w11z (y0_)))) : p := h
theorem z253_ (h : p := by (with_reducible repeat (first | apply Kd.S_alloc | apply Kd.S_drewN | apply Kd.S_drew)); exact Kd.S_mono O5.out (fun k_ hk => ⟨trivial, fun e_ => hk.2 e_⟩)) : p := h
theorem z254_ (h : p := by (with_reducible repeat (first | refine w1z ?_ _ | refine w2z ?_ | refine w0z ?_ _)); refine blk_put (cs := #[.int .i64 0, .slice none 0 0]) ?_ 1 _ rfl; (with_reducible repeat (first | refine w1z ?_ _ | refine w2z ?_ | refine w0z ?_ _)); refine blk_put (cs := #[.int .i64 x3, .slice none 0 0]) ?_ 0 _ rfl; (with_reducible repeat (first | refine w1z ?_ _ | refine w2z ?_ | refine w0z ?_ _)); exact B1.out) : p := h
theorem z255_ (h : p := by repeat (first | exact (Kd.S_reads' O5.out).2.2 | (with_reducible refine Kd.C_alloc ?_ _) | (with_reducible refine Kd.C_drewN ?_ _) | (with_reducible refine Kd.C_drew ?_))) : p := h
theorem z256_ (h : p := by (try simp only [List.map_toArray, List.map_cons, List.map_nil]); first | done | (rw [show (l1.take (x1 : Int).toNat).length = x1.toNat from (by rw [List.length_take]; have h_ : (x1 : Int) ≤ (l1.length : Int) := of_decide_eq_true (by first | (with_reducible assumption) | assumption); omega)] <;> rfl) | rfl | (simp only [List.length_drop, List.length_take]; rfl)) : p := h
theorem z257_ (h : p := by exact Aside0.mk (Kd.R_after (ok := (fun _ => True)) (by (with_reducible repeat (first | apply Kd.R_alloc | apply Kd.R_drewN | apply Kd.R_drew)); exact Kd.R_mono O3.out (fun _ hk => ⟨trivial, hk⟩)) hg hat)) : p := h
theorem z258_ (h : p := by (with_reducible repeat (first | apply Kd.R_alloc | apply Kd.R_drewN | apply Kd.R_drew)); exact Kd.R_mono O3.out (fun _ hk => hk.2)) : p := h
theorem z259_ (h : p := by exact (Reps.one (show Kd.M (Kd.int .i64) _ _ _ a1 [.int .i64 a1] from rfl) (Reps.one (show Kd.M (Kd.int .i64) _ _ _ 1 [.int .i64 1] from rfl) (Reps.none _ _)))) : p := h
theorem z260_ (h : p := by exact (Reps.one (show Kd.M (Kd.int .i64) _ _ _ (rd l1 x2) [.int .i64 (rd l1 x2)] from rfl) (Reps.none _ _))) : p := h
theorem z261_ (h : p := by exact Aside0.mk (Kd.R_lower (Kd.R_new' (Kd.R_new' (Kd.R_new' o4 (Kd.R_lt (ro_ O2))) (Kd.R_lt (ro_ O3))) (Kd.R_lt (ro_ O4))) (w11z (y1_)))) : p := h
theorem z262_ (h : p := by exact Aside0.mk (Kd.R_elder' (ro_ O3) (Kd.R_base o4) hb)) : p := h
theorem z263_ (h : p := by exact Aside0.mk (Kd.R_elder' (ro_ O4) (Kd.R_base o4) hb)) : p := h
theorem z264_ (h : p := by (with_reducible repeat (first | apply Kd.R_alloc | apply Kd.R_drewN | apply Kd.R_drew)); exact Kd.R_mono O3.out (fun _ hk => ⟨hk.1.2, ⟨hk.2, hk.1.1.2⟩⟩)) : p := h
theorem z265_ (h : p := by (with_reducible repeat (first | apply Kd.R_alloc | apply Kd.R_drewN | apply Kd.R_drew)); exact Kd.R_mono O4.out (fun _ hk => ⟨hk.1.2, ⟨hk.2, hk.1.1.2⟩⟩)) : p := h
theorem z266_ (h : p := by (with_reducible repeat (first | apply Kd.R_alloc | apply Kd.R_drewN | apply Kd.R_drew)); exact Kd.R_mono O5.out (fun _ hk => ⟨hk.1.2, ⟨hk.2, hk.1.1.2⟩⟩)) : p := h
end
end Go.Proofs.Ytoacolpbdbojeaa.X
end
section
namespace Go.Proofs.Ytoacolpbdbojeaa.X
open Go.RowKit Go.Proofs.YtoacolpbdbojeaaW.PrintWords Go.Proofs.YtoacolpbdbojeaaW.PrintLast Go.Proofs.YtoacolpbdbojeaaW.PrintMore
attribute [local go_sem] w7z w8z w9z w10z w4z w3z w5z w6z
set_option linter.unusedVariables false
set_option linter.unusedSimpArgs false
set_option maxHeartbeats 8000000
set_option maxRecDepth 100000
def f94z.f (l1 : List Int) : Option (Bool) := some (decide ((l1.length : Int) > 4096))
theorem f94z.calls (A1 : Option Addr) (c1 : Nat) (l1 : List Int) (r : Bool) (w : World) (m1 : Kd.C (Kd.int .u8) w A1 l1.length l1) (n1 : l1.length ≤ c1) (h : f94z.f l1 = some r) :
  Calls Try.prog 4 #[.slice A1 l1.length c1] w fun e w' => e = .returned (.bool r) ∧ Drawn0 w w' := by
 have R1 := Aside0.mk m1
 have H1 := Aside0.mk n1
 clear m1 n1
 have H := h
 clear h
 unfold f94z.f at H
 obtain rfl := Option.some.inj H
 go_enter Try.func4, Try.ntmps4
 go_wp2
 go_ret
 exact ⟨z21_, z89_⟩
def IsS67 (w0 W : World) (g : Nat) (f0 : List Int) (f1 : Int) (f2 : Int) : Prop := ∃ A0 c0, W.heap[g]? = some (.cells #[.slice A0 f0.length c0, .int .i64 f1, .int .u64 f2] 67 (0, 0)) ∧ w0.heap.size ≤ g ∧ Kd.C (Kd.int .u8) w0 A0 f0.length f0
theorem IsS67.grown {w0 W : World} {g : Nat} {f0 : List Int} {f1 : Int} {f2 : Int} {W1 : World} {row : Option Nat} (h : IsS67 w0 W g f0 f1 f2) (hw : W.grownBy W1 row) (hne : some g ≠ row) : IsS67 w0 W1 g f0 f1 f2 := by
 obtain ⟨A0, c0, hb, hg, hr0⟩ := h
 exact ⟨A0, c0, blk_grown hb hw hne, hg, hr0⟩
theorem IsS67.kept {w0 W : World} {g : Nat} {f0 : List Int} {f1 : Int} {f2 : Int} {W1 : World} {S : Nat → Prop} (h : IsS67 w0 W g f0 f1 f2) (hk : Kept W W1 S) (hne : ¬ S g) : IsS67 w0 W1 g f0 f1 f2 := by
 obtain ⟨A0, c0, hb, hg, hr0⟩ := h
 exact ⟨A0, c0, blk_kept hb hk hne, hg, hr0⟩
theorem IsS67.below {w0 W : World} {g : Nat} {f0 : List Int} {f1 : Int} {f2 : Int} {W1 : World} (h : IsS67 w0 W g f0 f1 f2) (hw : Below W.heap.size W W1) : IsS67 w0 W1 g f0 f1 f2 := h.grown (grown_of_below hw none) (by simp)
theorem IsS67.alloc {w0 W : World} {g : Nat} {f0 : List Int} {f1 : Int} {f2 : Int} (h : IsS67 w0 W g f0 f1 f2) (o : Obj) : IsS67 w0 (W.alloc o) g f0 f1 f2 := h.below (below_alloc (Below.refl _ _) o)
theorem IsS67.drewN {w0 W : World} {g : Nat} {f0 : List Int} {f1 : Int} {f2 : Int} (h : IsS67 w0 W g f0 f1 f2) (m : Nat) : IsS67 w0 (W.drewN m) g f0 f1 f2 := h
theorem IsS67.drew {w0 W : World} {g : Nat} {f0 : List Int} {f1 : Int} {f2 : Int} (h : IsS67 w0 W g f0 f1 f2) : IsS67 w0 W.drew g f0 f1 f2 := h
theorem IsS67.at_ {w0 W : World} {g : Nat} {f0 : List Int} {f1 : Int} {f2 : Int} {w' : World} {m : Nat} (hq : W.drewN m = w') (h : IsS67 w0 W g f0 f1 f2) : IsS67 w0 w' g f0 f1 f2 := by subst hq; exact IsS67.drewN h m
theorem IsS67.apart {w0 W : World} {g : Nat} {f0 : List Int} {f1 : Int} {f2 : Int} {α : Type} {d : Kd α} {e : Nat} {base : Nat} {ok : Nat → Prop} {v : Value} {xs : List α} (h : IsS67 w0 W g f0 f1 f2) (ho : d.R e W base ok v xs) (ht : ∀ q, q ∈ e :: d.E → q ≠ 67) : d.R e W base (fun k => ok k ∧ k ≠ g) v xs := by
 obtain ⟨A0, c0, hb, hg, hr0⟩ := h
 exact Kd.R_types ho hb ht
theorem IsS67.own_ne {w0 W : World} {g : Nat} {f0 : List Int} {f1 : Int} {f2 : Int} {α : Type} {d : Kd α} {e : Nat} {base : Nat} {ok : Nat → Prop} {v : Value} {xs : List α} (h : IsS67 w0 W g f0 f1 f2) (ho : d.R e W base ok v xs) (ht : e ≠ 67) : some g ≠ v.ownBlock := by
 obtain ⟨A0, c0, hb, hg, hr0⟩ := h
 exact Kd.R_ne ho hb ht
theorem IsS67.apartS {w0 W : World} {g : Nat} {f0 : List Int} {f1 : Int} {f2 : Int} {α : Type} {d : Kd α} {e : Nat} {base : Nat} {ok : Nat → Prop} {v : Value} {xs : List α} (h : IsS67 w0 W g f0 f1 f2) (ho : d.S e W base ok v xs) (ht : ∀ q, q ∈ e :: d.E → q ≠ 67) : d.S e W base (fun k => ok k ∧ k ≠ g) v xs := by
 obtain ⟨A0, c0, hb, hg, hr0⟩ := h
 exact Kd.S_types ho hb ht
theorem IsS67.own_neS {w0 W : World} {g : Nat} {f0 : List Int} {f1 : Int} {f2 : Int} {α : Type} {d : Kd α} {e : Nat} {base : Nat} {ok : Nat → Prop} {v : Value} {xs : List α} (h : IsS67 w0 W g f0 f1 f2) (ho : d.S e W base ok v xs) (ht : e ≠ 67) : some g ≠ v.ownBlock := by
 obtain ⟨A0, c0, hb, hg, hr0⟩ := h
 exact Kd.S_ne ho hb ht
theorem IsS67.lt {w0 W : World} {g : Nat} {f0 : List Int} {f1 : Int} {f2 : Int} (h : IsS67 w0 W g f0 f1 f2) : g < W.heap.size := by
 obtain ⟨A0, c0, hb, hg, hr0⟩ := h
 exact blk_lt hb
theorem IsS67.ge {w0 W : World} {g : Nat} {f0 : List Int} {f1 : Int} {f2 : Int} (h : IsS67 w0 W g f0 f1 f2) : w0.heap.size ≤ g := by
 obtain ⟨A0, c0, hb, hg, hr0⟩ := h
 exact hg
theorem IsS67.ne_blk {w0 W : World} {g : Nat} {f0 : List Int} {f1 : Int} {f2 : Int} {a : Nat} {cs : Array Value} {t : TypeId} {fr : Nat × Nat} (h : IsS67 w0 W g f0 f1 f2) (hb2 : W.heap[a]? = some (.cells cs t fr)) (ht : t ≠ 67) : g ≠ a := by
 obtain ⟨A0, c0, hb, hg, hr0⟩ := h
 rintro rfl
 rw [hb] at hb2
 injection hb2 with hb2
 injection hb2 with _ ht2
 exact ht ht2.symm
theorem IsS67.far {w0 W : World} {g : Nat} {f0 : List Int} {f1 : Int} {f2 : Int} {p : Addr} (h : IsS67 w0 W g f0 f1 f2) (hne : g ≠ p.block) (u : Value) : IsS67 w0 (W.setCell p u) g f0 f1 f2 := by
 obtain ⟨A0, c0, hb, hg, hr0⟩ := h
 exact ⟨A0, c0, blk_far hb hne u, hg, hr0⟩
theorem cellS67_0 {W : World} {g : Nat} {A0 : Option Addr} {c0 : Nat} {f0 : List Int} {f1 : Int} {f2 : Int} (h : W.heap[g]? = some (.cells #[.slice A0 f0.length c0, .int .i64 f1, .int .u64 f2] 67 (0, 0))) : W.cell? ⟨g, 0, none⟩ = some (.slice A0 f0.length c0) := (blk_cell h 0).trans rfl
theorem cellS67_1 {W : World} {g : Nat} {A0 : Option Addr} {c0 : Nat} {f0 : List Int} {f1 : Int} {f2 : Int} (h : W.heap[g]? = some (.cells #[.slice A0 f0.length c0, .int .i64 f1, .int .u64 f2] 67 (0, 0))) : W.cell? ⟨g, 1, none⟩ = some (.int .i64 f1) := (blk_cell h 1).trans rfl
theorem IsS67.set_1 {w0 W : World} {g : Nat} {f0 : List Int} {f1 : Int} {f2 : Int} (h : IsS67 w0 W g f0 f1 f2) (x : Int) : IsS67 w0 (W.setCell ⟨g, 1, none⟩ (.int .i64 x)) g f0 x f2 := by
 obtain ⟨A0, c0, hb, hg, hr0⟩ := h
 exact ⟨A0, c0, by simpa using blk_set hb 1 (.int .i64 x), hg, hr0⟩
theorem cellS67_2 {W : World} {g : Nat} {A0 : Option Addr} {c0 : Nat} {f0 : List Int} {f1 : Int} {f2 : Int} (h : W.heap[g]? = some (.cells #[.slice A0 f0.length c0, .int .i64 f1, .int .u64 f2] 67 (0, 0))) : W.cell? ⟨g, 2, none⟩ = some (.int .u64 f2) := (blk_cell h 2).trans rfl
theorem IsS67.set_2 {w0 W : World} {g : Nat} {f0 : List Int} {f1 : Int} {f2 : Int} (h : IsS67 w0 W g f0 f1 f2) (x : Int) : IsS67 w0 (W.setCell ⟨g, 2, none⟩ (.int .u64 x)) g f0 f1 x := by
 obtain ⟨A0, c0, hb, hg, hr0⟩ := h
 exact ⟨A0, c0, by simpa using blk_set hb 2 (.int .u64 x), hg, hr0⟩
def f67z.f (s1 : List Int) (s2 : Int) (s3 : Int) (a1 : Int) : Option (Int × Int × Int) := if a1 < 1 then (some (0, s2, s3)) else (if s2 < (s1.length : Int) then (if 0 ≤ s2 then (if a1 = 0 then (none) else (some (Int.tmod (wrap64 ((wrap64 (Go.bits .and .u64 ((IntKind.u64.wrap ((IntKind.u64.wrap (s3 * 6364136223846793005)) + 1442695040888963407)) / 2147483648) 1073741823)) + (wrap64 (rd s1 s2)))) a1, wrap64 (s2 + 1), IntKind.u64.wrap ((IntKind.u64.wrap (s3 * 6364136223846793005)) + 1442695040888963407)))) else (none)) else (if a1 = 0 then (none) else (some (Int.tmod (wrap64 (Go.bits .and .u64 ((IntKind.u64.wrap ((IntKind.u64.wrap (s3 * 6364136223846793005)) + 1442695040888963407)) / 2147483648) 1073741823)) a1, s2, IntKind.u64.wrap ((IntKind.u64.wrap (s3 * 6364136223846793005)) + 1442695040888963407)))))
theorem f67z.calls (g : Nat) (s1 : List Int) (s2 : Int) (s3 : Int) (a1 : Int) (r1 : Int) (r2 : Int) (r3 : Int) (w1 w : World) (hI : IsS67 w1 w g s1 s2 s3) (hB : Below w1.heap.size w1 w) (h : f67z.f s1 s2 s3 a1 = some (r1, r2, r3)) :
  Calls Try.prog 72 #[.pointer (some ⟨g, 0, none⟩), .int .i64 a1] w fun e w' => e = .returned (.int .i64 r1) ∧ IsS67 w1 w' g s1 r2 r3 ∧ Below w1.heap.size w1 w' ∧ KeepBut w w' g none := by
 have I1 := Aside0.mk hI
 have HK := z174_
 have HL := Aside0.mk hB.size
 clear hI
 have qHW1 := Aside0.mk hB.size
 have HB := Aside0.mk hB
 clear hB
 have H := h
 clear h
 unfold f67z.f at H
 obtain ⟨d1, H⟩ | ⟨d1, H⟩ := il00_ H
 ·simp only [Option.some.injEq, Prod.mk.injEq] at H
  obtain ⟨rfl, rfl, rfl⟩ := H
  go_enter Try.func72, Try.ntmps72
  go_wp2
  go_ret
  exact ⟨z8_, z244_, z245_, z247_⟩
 obtain ⟨d2, H⟩ | ⟨d2, H⟩ := il00_ H
 rotate_left
 ·by_cases c3 : a1 = 0
  ·replace H := it_ c3 H
   exact absurd H (by simp)
  ·replace H := ie_ c3 H
   have d3 := beq_eq_false_iff_ne.mpr c3
   have d4 := bne_iff_ne.mpr c3
   simp only [Option.some.injEq, Prod.mk.injEq] at H
   obtain ⟨rfl, rfl, rfl⟩ := H
   obtain ⟨ASz1, cSz1, HGz1, hgz1, HSz1⟩ := I1.out
   have z1 := cellS67_0 HGz1
   have z2 := cellS67_1 HGz1
   have z3 := cellS67_2 HGz1
   have f1 := blk_frozen HGz1 1
   have f2 := blk_frozen HGz1 2
   clear HGz1 hgz1
   go_enter Try.func72, Try.ntmps72
   go_wp2
   repeat (go_quiet (fail); try go_wp2)
   go_ret
   exact ⟨z8_, z244_, z245_, z247_⟩
 obtain ⟨d3, H⟩ := nb_ H
 by_cases c4 : a1 = 0
 ·replace H := it_ c4 H
  exact absurd H (by simp)
 replace H := ie_ c4 H
 have d4 := beq_eq_false_iff_ne.mpr c4
 have d5 := bne_iff_ne.mpr c4
 simp only [Option.some.injEq, Prod.mk.injEq] at H
 obtain ⟨rfl, rfl, rfl⟩ := H
 obtain ⟨ASz1, cSz1, HGz1, hgz1, HSz1⟩ := I1.out
 have z1 := cellS67_0 HGz1
 have z2 := cellS67_1 HGz1
 have z3 := cellS67_2 HGz1
 have f1 := blk_frozen HGz1 1
 have f2 := blk_frozen HGz1 2
 clear HGz1 hgz1
 have p1 : 0 ≤ (s2 : Int) := of_decide_eq_true (z26_)
 have q1 : s2 < (s1.length : Int) := of_decide_eq_true (z26_)
 obtain ⟨D1, e1, X1⟩ := Kd.at_int HSz1 s2 p1 q1
 cases e1
 have qhn1 : D1.block ≠ g := Nat.ne_of_lt (Nat.lt_of_lt_of_le (by have := World.block_lt_of_cell? _ _ X1; first | rwa [add_block] at this | exact this) (IsS67.ge I1.out))
 replace X1 := pw_cell_below HB.out X1
 replace X1 := (cell_far (p := ⟨g, 2, none⟩) (z248_) (.int .u64 (IntKind.u64.wrap ((IntKind.u64.wrap (s3 * 6364136223846793005)) + 1442695040888963407)))).trans X1
 have E1 := fun (n_ : Nat) => (show (((w.drewN n_).setCell ⟨g, 2, none⟩ (.int .u64 (IntKind.u64.wrap ((IntKind.u64.wrap (s3 * 6364136223846793005)) + 1442695040888963407))))).cell? _ = some _ from X1)
 clear qhn1
 replace p1 := eq_true p1
 replace q1 := eq_true q1
 go_enter Try.func72, Try.ntmps72
 go_wp2
 repeat (go_quiet (fail); try go_wp2)
 go_ret
 exact ⟨z8_, z244_, z245_, z247_⟩
def f64z.f (s1 : List Int) (s2 : Int) (s3 : Int) (l1 : List Int) : Option (Int × Int × Int) := (f67z.f s1 s2 s3 (l1.length : Int)).bind fun T1 => (if 0 ≤ T1.1 then (if T1.1 < (l1.length : Int) then (some (rd l1 T1.1, T1.2.1, T1.2.2)) else (none)) else (none))
theorem f64z.calls (g : Nat) (s1 : List Int) (s2 : Int) (s3 : Int) (A1 : Option Addr) (c1 : Nat) (l1 : List Int) (r1 : Int) (r2 : Int) (r3 : Int) (w1 w : World) (hI : IsS67 w1 w g s1 s2 s3) (hB : Below w1.heap.size w1 w) (m1 : Kd.C (Kd.int .i64) w A1 l1.length l1) (n1 : l1.length ≤ c1) (qhf1 : ∀ ad, A1 = some ad → 0 < l1.length → ad.block ≠ g) (h : f64z.f s1 s2 s3 l1 = some (r1, r2, r3)) :
  Calls Try.prog 57 #[.pointer (some ⟨g, 0, none⟩), .slice A1 l1.length c1] w fun e w' => e = .returned (.int .i64 r1) ∧ IsS67 w1 w' g s1 r2 r3 ∧ Below w1.heap.size w1 w' ∧ KeepBut w w' g none := by
 have R1 := Aside0.mk m1
 have H1 := Aside0.mk n1
 clear m1 n1
 have I1 := Aside0.mk hI
 have HK := z174_
 have HL := Aside0.mk hB.size
 clear hI
 have qHW1 := Aside0.mk hB.size
 have HB := Aside0.mk hB
 clear hB
 have H := h
 clear h
 unfold f64z.f at H
 obtain ⟨⟨t1, t2, t3⟩, A3, H⟩ := ob_ H
 dsimp only at H
 obtain ⟨d1, H⟩ := nb_ H
 obtain ⟨d2, H⟩ := nb_ H
 simp only [Option.some.injEq, Prod.mk.injEq] at H
 obtain ⟨rfl, rfl, rfl⟩ := H
 go_enter Try.func57, Try.ntmps57
 go_wp2_with (first | (refine gc_ 72 ?_; refine gl_ 9 Try.func72 #[.pointer (some ⟨g, 0, none⟩), .int .i64 (l1.length : Int)] ?_; (with_reducible refine (f67z.calls g s1 s2 s3 (l1.length : Int) t1 t2 t3 w1 _ ?S1 ?S2 A3.out).mono ?_); (case S1 => exact z244_); (case S2 => exact z245_); rintro e w2 ⟨rfl, hi, hb, hk⟩; refine ⟨_, rfl, ?_⟩; replace HK := z246_; replace HB := z43_; replace I1 := z149_; (try clear hb hk hi); have p1 : 0 ≤ (t1 : Int) := of_decide_eq_true (z26_); have q1 : t1 < (l1.length : Int) := of_decide_eq_true (z26_); obtain ⟨D1, e1, X1⟩ := Kd.at_int R1.out t1 p1 q1; cases e1; replace X1 := keep_cell HK.out X1 (by first | (rw [add_block]; exact qhf1 _ rfl (by omega)) | exact qhf1 _ rfl (by omega) | exact qhf1 D1 rfl (by omega)); replace p1 := eq_true p1; replace q1 := eq_true q1))
 go_ret
 exact ⟨z8_, z244_, z245_, z247_⟩
def f78z.f (l1 : List Int) : Option (List Int) := (some (([] : List Int) : List Int)).bind fun y1 => (if y1.length + l1.length < 17592186044416 then (some (y1 ++ l1)) else (none))
theorem f78z.calls (A1 : Option Addr) (c1 : Nat) (l1 : List Int) (r : List Int) (w : World) (m1 : Kd.C (Kd.int .i64) w A1 l1.length l1) (n1 : l1.length ≤ c1) (h : f78z.f l1 = some r) :
  Calls Try.prog 87 #[.slice A1 l1.length c1] w fun e w' => ∃ v1 : Value, e = .returned (v1) ∧ Kd.R (Kd.int .i64) 2 w' w.heap.size (fun _ => True) v1 r ∧ Below w.heap.size w w' := by
 have R1 := Aside0.mk m1
 have H1 := Aside0.mk n1
 clear m1 n1
 have HB := z0_
 have H := h
 clear h
 unfold f78z.f at H
 obtain ⟨y1, E1⟩ : ∃ y_ : List Int, y_ = (([] : List Int)) := ⟨_, rfl⟩
 replace H : (if y1.length + l1.length < 17592186044416 then (some (y1 ++ l1)) else (none)) = some r := (z22_)
 have Y1 := Aside0.mk E1
 clear E1
 obtain ⟨c2, H⟩ := na_ H
 have M1 := Aside0.mk c2
 clear c2
 obtain ⟨y2, E2⟩ : ∃ y_ : List Int, y_ = (y1 ++ l1) := ⟨_, rfl⟩
 replace H : (some y2) = some r := (z23_)
 have Y2 := Aside0.mk E2
 clear E2
 obtain rfl := Option.some.inj H
 go_enter Try.func87, Try.ntmps87
 go_wp2_with (first | (refine gd_ 3 ?_; refine Kd.R_lit (Kd.int .i64) _ 2 ?hg (N := 3) ?hd (xs := ([] : List Int)) (inner := []) (ok := fun _ => True) (okp := fun _ => True) ?hr ?hp (fun _ hk => hk) trivial (Below.refl _ _) (Nat.le_refl _) (by simp) ?_; (case hd => rfl); (case hg => rfl); (case hr => exact z38_); (case hp => exact z39_); intro v2 w1 o1 hb hg_ hnew_; clear hg_ hnew_; (first | rw [← Y1.out] at o1 | (simp only [Int.reduceToNat] at o1; rw [← Y1.out] at o1)); have O1 := z90_; replace HB := z3_; clear hb o1) | ((with_reducible refine gate_builtin (b := .append) (xs := #[.tmp 3, .tmp 4]) rfl ?_); at_builtin; refine Kd.R_append_rows (Kd.int .i64) (w0 := w) w.heap.size rfl (.tmp 3) (.tmp 4) 28 2 (.int .i64 0) 8 rfl Try.underlying28 info2 rfl (by decide) (by omega) v2 y1 l1 _ _ _ (fun _ => True) (fun _ => False) rfl rfl ?aO ?aR (fun _ _ h => h) (fun _ h => h.elim) ?aF ?aB ?aS ?aL ?_; (case aR => exact z4_); (case aB => exact z94_); (case aF => exact z40_); (case aO => exact (ro_ O1)); (case aS => exact z96_); (case aL => have := M1.out; omega); intro v3 w2 ho hb hg hat; rw [← Y2.out] at ho; replace HB := z43_; have O2 := z44_; clear O1; clear ho hb hg hat))
 go_ret
 exact ⟨_, z8_, ro_ O2, z94_⟩
end Go.Proofs.Ytoacolpbdbojeaa.X
end
