import Derived.Test.YtmnialmphlbmaaaKParts2
set_option linter.unusedVariables false
set_option linter.unusedSimpArgs false
namespace Go.Proofs.Ytmnialmphlbmaaa
open Go Go.Eng Go.Conc Go.RowKit Go.Conc.Lib Go.ConcR.Gen
open Go.ConcR (KK wgBlock WgAt stA smA rd wr DC0 Payload)

section
variable {S : Shared} {Φ : Ph} {b : Frame} {k : List Item} {cs : List Frame}

/-- The go statement. -/
theorem spawn10 {i fb pb sb ib : Nat} (hk : b.kind ≠ .early) {a : Act} (h42 : a.tmps.getD 42 undef = .func (.func 50) #[] (capsW Φ.Wg fb pb sb ib)) {Nx : Frame → List Frame → Eng.Heap → Prop} {hh h1 hc : Eng.Heap}
    (s1 : Eng.Sub h1 hh) (sc : Eng.Sub hc hh) (hap : ∀ x, ¬ Φ.S x → hc x ≠ none → h1 x = none) (hro : ∀ x, Φ.S x → h1 x = hh x) (hW : Works Try.prog Φ i (bornW (callW5 Φ.Wg fb pb sb ib)) [] hc)
    (hN : Nx (b.at a (.inRegion (opsP 10) [] :: k)) cs h1) : SpawnOp Try.prog Φ i Nx (b.at a (.inRegion (opsP 10) [1] :: k)) cs hh := by
  obtain ⟨o, d1, d2, d3, d4⟩ := op_of (p := fun _ => true) c10c c10d
  refine ⟨h1, hc, s1, sc, hap, hro, fun w hw hJ => ⟨_, _, _, _, ?_, hW, hN⟩⟩
  have hr : (execOp a.eval o).run Try.prog w = .ok (.spawn (callW5 Φ.Wg fb pb sb ib)) w := by
    unfold execOp
    simp only [d4, resolve, Deferred.ofValue, Act.eval, h42]
    simp [callW5, capsW, go_sem]
  have he : (execOp a.eval o).events Try.prog w #[] = #[] := by
    unfold execOp
    simp only [d4, resolve, Deferred.ofValue, Act.eval, h42]
    simp [callW5, capsW, go_sem]
  have st := stepG_spawn (P := Try.prog) (main := true) (b := b) (a := a) (k := k) (cs := cs) (w := w) (rest := []) d1 (by simp [Region.wanted, d3]) hk hr rfl
  unfold listed at st
  rw [he, seen_none, d2] at st
  exact st

/-- The closure is made. -/
theorem make10 (hk : b.kind ≠ .early) {a : Act} {fb pb sb ib wg : Nat} {rest : List Nat} {Post : Frame → List Frame → Eng.Heap → Prop} {h : Eng.Heap}
    (h9 : a.tmps.getD 9 undef = .pointer (some ⟨wg, 0, none⟩)) (h3 : a.tmps.getD 3 undef = .pointer (some ⟨fb, 0, none⟩)) (h11 : a.tmps.getD 11 undef = .pointer (some ⟨pb, 0, none⟩)) (h7 : a.tmps.getD 7 undef = .pointer (some ⟨sb, 0, none⟩)) (h10 : a.tmps.getD 10 undef = .pointer (some ⟨ib, 0, none⟩))
    (K : Eng.Safe Try.prog S Post (b.at (a.put (some 42) (.func (.func 50) #[] (capsW wg fb pb sb ib))) (.inRegion (opsP 10) rest :: k)) cs h) : Eng.Safe Try.prog S Post (b.at a (.inRegion (opsP 10) (0 :: rest) :: k)) cs h := by
  obtain ⟨o, d1, d2, d3, d4⟩ := op_of (p := fun _ => true) c10a c10b
  refine sf_value (.func (.func 50) #[] (capsW wg fb pb sb ib)) d1 (by simp [Region.wanted, d3]) hk (fun w => ?_) (fun w => ?_) (by rw [d2]; exact K)
  · unfold execOp
    simp [d4, Act.eval, h9, h3, h11, h7, h10, capsW, go_sem]
  · unfold execOp
    simp [d4, Act.eval, h9, h3, h11, h7, h10, capsW, go_sem]

set_option maxRecDepth 100000 in
theorem go5 {h : Eng.Heap} {x : Option Addr} {l c fb sb bS wg n j : Nat} {a : Act} {c0 : Code} (A : AtL a (.slice x l c) fb sb bS wg n j) (hi : Inv S h) :
    Eng.Safe Try.prog S (Eng.Reach S b 47 (.code c0 :: k) cs [0, 3, 7, 8, 9, 22, 23, 24] (fun f h' => RS h (.slice x l c) fb sb bS wg n j f h' ∧ f 24 = .bool (decide ((j : Int) < n)))) (b.at a (.code (.seq (rP 5) c0) :: k)) cs h := by
  refine piece_ok (rs := [rP 5]) (ps := allP) tabPOk mixedP s5 A.slots A.sz A.df hi ?_
  simp only [t5, Tr.wp]
  exact endP.intro st50 rfl rfl rfl rfl ⟨⟨rfl, rfl, rfl, rfl, rfl, rfl, rfl, rfl⟩, by simp only [got, st50, envP, Tr.wp, mksW, callW, Ex.ev, coerce, toInt_int, toBool_bool, slL_sl, slC_sl, slA_sl, toAddr_ptr, ptrOf_ptr, isNil_sl, isNil_ptr, it_and, it_or, it_int, optN_int, optN_nl, cmpI, arith, Cst.val, SV.den, resShs, resV, resSV, resVals, newVars, runCells, exSh, allSh, cellsAre, List.flatMap_cons, List.flatMap_nil, List.replicate_one, List.getD_cons_zero, List.getD_cons_succ, List.getElem?_cons_zero, List.getElem?_cons_succ, decide_eq_true_eq, decide_eq_false_iff_not, List.map_cons, List.map_nil, List.cons_append, List.nil_append, List.append_nil, List.length_cons, List.length_nil, Nat.zero_add, Nat.add_zero, and_true, true_and, if_true, if_false, Bool.false_eq_true]⟩

set_option maxRecDepth 100000 in
theorem go11 {h : Eng.Heap} {x : Option Addr} {l c fb sb bS wg n j : Nat} {a : Act} (A : AtL a (.slice x l c) fb sb bS wg n j) (hi : Inv S h) (hj : j < 2 ^ 40) :
    Eng.Safe Try.prog S (Eng.Reach S b 47 k cs [0, 3, 7, 8, 9, 22, 23] (RS h (.slice x l c) fb sb bS wg n (j + 1))) (b.at a (.code (rP 11) :: k)) cs h := by
  refine reg_ok (ps := allP) tabPOk mixedP s11 A.slots A.sz A.df hi ?_
  simp only [t11, Tr.wp]
  have w2 : IntKind.i64.wrap ((j : Int) + 1) = ((j + 1 : Nat) : Int) := by rw [IntKind.wrap_i64]; omega
  exact endP.intro st110 rfl rfl rfl rfl ⟨rfl, rfl, rfl, rfl, rfl, rfl, by simp only [got, st110, envP, Tr.wp, mksW, callW, Ex.ev, coerce, toInt_int, toBool_bool, slL_sl, slC_sl, slA_sl, toAddr_ptr, ptrOf_ptr, isNil_sl, isNil_ptr, it_and, it_or, it_int, optN_int, optN_nl, cmpI, arith, Cst.val, SV.den, resShs, resV, resSV, resVals, newVars, runCells, exSh, allSh, cellsAre, List.flatMap_cons, List.flatMap_nil, List.replicate_one, List.getD_cons_zero, List.getD_cons_succ, List.getElem?_cons_zero, List.getElem?_cons_succ, decide_eq_true_eq, decide_eq_false_iff_not, List.map_cons, List.map_nil, List.cons_append, List.nil_append, List.append_nil, List.length_cons, List.length_nil, Nat.zero_add, Nat.add_zero, and_true, true_and, if_true, if_false, Bool.false_eq_true, w2], rfl⟩

theorem AtL.reach {x : Value} {fb sb bS wg n j : Nat} {a : Act} {f : Nat → Value} {h h' : Eng.Heap} {is : List Nat} (hs : a.tmps.size = 47) (hd : a.defers = []) (hf : ∀ i ∈ is, a.tmps.getD i undef = f i)
    (hi : [0, 3, 7, 8, 9, 22, 23].all (fun i => is.contains i) = true) (R : RS h x fb sb bS wg n j f h') : AtL a x fb sb bS wg n j := by
  obtain ⟨r0, r3, r7, r8, r9, r22, r23, _⟩ := R
  have g : ∀ i, i ∈ ([0, 3, 7, 8, 9, 22, 23] : List Nat) → a.tmps.getD i undef = f i := fun i h => hf i (by simpa using List.all_eq_true.1 hi i h)
  exact ⟨hs, hd, (g 0 (by simp)).trans r0, (g 3 (by simp)).trans r3, (g 7 (by simp)).trans r7, (g 8 (by simp)).trans r8, (g 9 (by simp)).trans r9, (g 22 (by simp)).trans r22, (g 23 (by simp)).trans r23⟩
end
end Go.Proofs.Ytmnialmphlbmaaa
