import Derived.Test.YtmnialmphlbmaaaKLe
import Derived.Test.YtmnialmphlbmaaaKFix
import Derived.Test.YtmnialmphlbmaaaKAdler2
set_option linter.unusedVariables false
set_option linter.unusedSimpArgs false
namespace Go.Proofs.Ytmnialmphlbmaaa
open Go Go.Eng Go.IntWalk
variable {S : Shared} {h h0 : Eng.Heap}

theorem shr_nat (x k : Nat) (hk : k ≤ 32) : Int.fdiv (x : Int) (2 ^ (min (k : Int).toNat IntKind.u32.bits)) = ((x / 2 ^ k : Nat) : Int) := by
  have e : min (k : Int).toNat IntKind.u32.bits = k := by show min (k : Int).toNat 32 = k; omega
  rw [e, Int.fdiv_eq_ediv_of_nonneg _ (by exact_mod_cast Nat.zero_le _)]; push_cast; rfl

theorem k_appendBig (hi : Eng.Inv S h0) (hs : Eng.Sub h0 h) {a : Option Addr} {c : Nat} {xs : List Int} (P : Part .u8 h (.slice a xs.length c) xs) (N : Eng.New h0 (.slice a xs.length c)) (x : Nat) (hx : x < 4294967296) (hl : xs.length ≤ 3000000) :
    CallsH Try.prog S F_impl_appendBig #[.slice a xs.length c, .int .u32 x] h (fun v h' => Part .u8 h' v (xs ++ be x 4) ∧ Eng.New h0 v ∧ Eng.Sub h0 h') := by
  refine run_impl_appendBig (vs := [.slice a xs.length c, .int .u32 x]) ⟨rfl, rfl, trivial⟩ (hi.sub hs) ?_
  simp only [t_impl_appendBig, Tr.wp, mksW, callW, Ex.ev, coerce, toInt_int, toBool_bool, slL_sl, slC_sl, slA_sl, toAddr_ptr, ptrOf_ptr, isNil_sl, isNil_ptr, it_and, it_or, it_int, optN_int, optN_nl, cmpI, arith, Cst.val, SV.den, resShs, resV, resSV, resVals, newVars, runCells, exSh, allSh, cellsAre, storeW, List.flatMap_cons, List.flatMap_nil, List.replicate_one, List.getD_cons_zero, List.getD_cons_succ, List.getElem?_cons_zero, List.getElem?_cons_succ, decide_eq_true_eq, decide_eq_false_iff_not, List.map_cons, List.map_nil, List.cons_append, List.nil_append, List.append_nil, List.length_cons, List.length_nil, Nat.zero_add, Nat.add_zero, and_true, true_and, if_true, if_false, Bool.false_eq_true]
  intro b hb
  have e1 : IntKind.u8.wrap (Int.fdiv (x : Int) (2 ^ (min (Int.toNat 24) IntKind.u32.bits))) = ((x / 16777216 % 256 : Nat) : Int) := by rw [show Int.toNat 24 = ((24 : Nat) : Int).toNat from rfl, shr_nat x 24 (by omega), IntKind.wrap_u8]; omega
  have e2 : IntKind.u8.wrap (Int.fdiv (x : Int) (2 ^ (min (Int.toNat 16) IntKind.u32.bits))) = ((x / 65536 % 256 : Nat) : Int) := by rw [show Int.toNat 16 = ((16 : Nat) : Int).toNat from rfl, shr_nat x 16 (by omega), IntKind.wrap_u8]; omega
  have e3 : IntKind.u8.wrap (Int.fdiv (x : Int) (2 ^ (min (Int.toNat 8) IntKind.u32.bits))) = ((x / 256 % 256 : Nat) : Int) := by rw [show Int.toNat 8 = ((8 : Nat) : Int).toNat from rfl, shr_nat x 8 (by omega), IntKind.wrap_u8]; omega
  have e4 : IntKind.u8.wrap (x : Int) = ((x % 256 : Nat) : Int) := by rw [IntKind.wrap_u8]; omega
  rw [e1, e2, e3, e4]
  have s3 : Eng.Sub h (upd h b (.cells (ints .u8 (be x 4)) 5)) := Sub.of_upd hb
  have e : (#[Value.int .u8 ((x / 16777216 % 256 : Nat) : Int), Value.int .u8 ((x / 65536 % 256 : Nat) : Int), Value.int .u8 ((x / 256 % 256 : Nat) : Int), Value.int .u8 ((x % 256 : Nat) : Int)] : Array Value) = ints .u8 (be x 4) := by rw [be4]; rfl
  rw [e]
  refine appW_part hi (hs.trans s3) (P.sub s3) N (a := some ⟨b, 0, none⟩) (c := 4) (ys := be x 4) HInts.new (by rw [be_len]; omega) fun v' h3 o n3 s4 _ _ => ?_
  obtain ⟨a4, c4, rfl, _, _⟩ := o.ints
  exact ⟨o, n3, s4⟩

/-! ### The head of a zlib frame -/
def zhead (n : Nat) (d : Bool) : Nat := let x := 256 * (16 * n + 8) + if d then 32 else 0; x + (31 - x % 31) % 31
def ans_EncodeZlib (xs : List Int) (info : Int) (ds : List Int) : List Int :=
  if info < 0 ∨ info > 7 ∨ xs.length > 100000 then []
  else be (zhead info.toNat (decide (0 < ds.length))) 2 ++ (if 0 < ds.length then be (adler 1 ds).toNat 4 else []) ++ ans_EncodeFixed xs ++ be (adler 1 xs).toNat 4

/-- The heads, as each side reckons them. -/
def zs0 (n : Int) (d : Bool) : Int := if d = true then IntKind.i64.wrap (IntKind.i64.wrap (256 * IntKind.i64.wrap (IntKind.i64.wrap (16 * n) + 8)) + 32) else IntKind.i64.wrap (256 * IntKind.i64.wrap (IntKind.i64.wrap (16 * n) + 8))
def zi0 (n : Int) (d : Bool) : Int := if d = true then Go.bits .or .u32 (IntKind.u32.wrap (IntKind.u32.wrap (IntKind.i64.wrap (IntKind.i64.wrap (16 * n) + 8)) * 2 ^ min (Int.toNat 8) IntKind.u32.bits)) 32
  else IntKind.u32.wrap (IntKind.u32.wrap (IntKind.i64.wrap (IntKind.i64.wrap (16 * n) + 8)) * 2 ^ min (Int.toNat 8) IntKind.u32.bits)
theorem zs_head : ∀ n : Fin 8, ∀ d : Bool, IntKind.u64.wrap (IntKind.i64.wrap (zs0 (n.1 : Int) d + (IntKind.i64.wrap (31 - (zs0 (n.1 : Int) d).tmod 31)).tmod 31)) = ((zhead n.1 d : Nat) : Int) := by decide +kernel
theorem zhead_lt : ∀ n : Fin 8, ∀ d : Bool, zhead n.1 d < 65536 := by decide +kernel
theorem zi_head : ∀ n : Fin 8, ∀ d : Bool, IntKind.u32.wrap (zi0 (n.1 : Int) d + (IntKind.u32.wrap (31 - (zi0 (n.1 : Int) d).tmod 31)).tmod 31) = ((zhead n.1 d : Nat) : Int) := by decide +kernel
theorem ifd {m : Nat} {x y : Int} : (if (m : Int) > 0 then x else y) = if decide (0 < m) = true then x else y := by
  by_cases h : 0 < m
  · rw [if_pos (show (m : Int) > 0 by omega), if_pos (by simpa using h)]
  · rw [if_neg (show ¬ (m : Int) > 0 by omega), if_neg (by simpa using h)]

theorem adler_nat (c : Int) (xs : List Int) : adler c xs = ((adler c xs).toNat : Int) ∧ (adler c xs).toNat < 4294967296 := by
  unfold adler adOut w32
  rw [IntKind.wrap_u32]; omega

theorem fix_len {xs : List Int} (hw : ∀ x ∈ xs, 0 ≤ x ∧ x ≤ 255) : (ans_EncodeFixed xs).length ≤ 300000 := by
  unfold ans_EncodeFixed
  split
  · simp
  · rename_i hle
    rw [pk_len]
    have h1 := flat_len hw
    have h2 := cbits_len (c := 256) (by omega)
    have h3 : (strm xs).length ≤ 3 + 15 * xs.length + 15 := by unfold strm; simp only [List.length_append, List.length_cons, List.length_nil]; omega
    omega

/-- What comes behind the head: the code of the data, and its sum (the reference's side). -/
theorem zl_tail (hi : Eng.Inv S h) {xs pre : List Int} {a a0 : Option Addr} {c l0 c0 : Nat} {h' : Eng.Heap} (s : Eng.Sub h h') (O : tB.O h (.slice a xs.length c) xs) (hw : ∀ x ∈ xs, 0 ≤ x ∧ x ≤ 255) (L : limB xs)
    (P : Part .u8 h' (.slice a0 l0 c0) pre) (N : Eng.New h (.slice a0 l0 c0)) (hl : pre.length ≤ 1000) {Q : Value → Eng.Heap → Prop}
    (hQ : ∀ v h', Part .u8 h' v (pre ++ ans_EncodeFixed xs ++ be (adler 1 xs).toNat 4) → Eng.New h v → Eng.Sub h h' → Q v h') :
    CallsH Try.prog S F_spec_EncodeFixed #[.slice a xs.length c] h' fun v_1 h' => ∃ (a_6 : Option Addr) (l c_2 : Nat), v_1 = .slice a_6 l c_2 ∧ appW S 5 1 1 [.int .u8 0] (.slice a0 l0 c0) (.slice a_6 l c_2) h' fun v h' =>
      CallsH Try.prog S F_spec_AdlerUpdate #[.int .u32 1, .slice a xs.length c] h' fun v_2 h' => ∃ x, v_2 = .int .u32 x ∧ CallsH Try.prog S F_spec_l6Put #[.int .u64 (IntKind.u64.wrap x), .int .i64 4, .bool true] h' fun v_3 h' =>
        ∃ (a : Option Addr) (l c : Nat), v_3 = .slice a l c ∧ appW S 5 1 1 [.int .u8 0] (.slice (slA v) (slL v) (slC v)) (.slice a l c) h' fun v h' => Q (.slice (slA v) (slL v) (slC v)) h' := by
  have hx : HInts h .u8 a xs := by obtain ⟨a', c', e, _, g⟩ := Part.ints O; cases e; exact g
  have fl := fix_len hw
  refine (g_spec_EncodeFixed (hi.sub s) (O.sub s) hw L).mono ?_
  rintro v1 h1 ⟨O1, N1, s1⟩
  obtain ⟨a1, c1, rfl, _, g1⟩ := Part.ints O1
  have el0 : l0 = pre.length := by obtain ⟨a', c', e, _, _⟩ := P.ints; cases e; rfl
  subst el0
  refine ⟨_, _, _, rfl, ?_⟩
  refine appW_part hi (s.trans s1) (P.sub s1) N g1 (by omega) fun v2 h2 o2 n2 s2 _ _ => ?_
  obtain ⟨a2, c2, rfl, _, _⟩ := o2.ints
  refine (g_spec_AdlerUpdate (hi.sub s2) 1 _ _ xs (hx.sub s2) (by have : xs.length ≤ 1048576 := L; omega)).mono ?_
  rintro _ h3 ⟨rfl, rfl⟩
  refine ⟨_, rfl, ?_⟩
  obtain ⟨ea, la⟩ := adler_nat 1 xs
  have wa : IntKind.u64.wrap (adler 1 xs) = ((adler 1 xs).toNat : Int) := by rw [u64_in _ (by omega)]; exact ea
  rw [wa]
  refine (k_l6Put (hi.sub s2) (adler 1 xs).toNat (by omega) 4 (by omega) true).mono ?_
  rintro v4 h4 ⟨O4, N4, s4⟩
  obtain ⟨a4, c4, rfl, _, g4⟩ := Part.ints O4
  refine ⟨_, _, _, rfl, ?_⟩
  simp only [slA_sl, slL_sl, slC_sl]
  refine appW_part hi (s2.trans s4) (o2.sub s4) n2 g4 (by rw [put6_len, List.length_append]; omega) fun v5 h5 o5 n5 s5 _ _ => ?_
  obtain ⟨a5, c5, rfl, _, _⟩ := o5.ints
  exact hQ _ _ o5 n5 s5

theorem g_spec_EncodeZlib (hi : Eng.Inv S h) {v u : Value} {xs ds : List Int} (O : tB.O h v xs) (hw : ∀ x ∈ xs, 0 ≤ x ∧ x ≤ 255) (L : limB xs) (n : Int) (wn : (Lit.int .i64 n).wf = true) (O2 : tB.O h u ds) (hw2 : ∀ x ∈ ds, 0 ≤ x ∧ x ≤ 255) (L2 : limB ds) :
    CallsH Try.prog S F_spec_EncodeZlib #[v, .int .i64 n, u] h (fun v h' => tB.O h' v (ans_EncodeZlib xs n ds) ∧ tB.New h v ∧ Eng.Sub h h') := by
  obtain ⟨a, c, rfl, hc, hx⟩ := Part.ints O
  obtain ⟨a2, c2, rfl, hc2, hx2⟩ := Part.ints O2
  refine run_spec_EncodeZlib (vs := [.slice a xs.length c, .int .i64 n, .slice a2 ds.length c2]) ⟨rfl, rfl, rfl, trivial⟩ hi ?_
  simp only [t_spec_EncodeZlib, Tr.wp, mksW, callW, Ex.ev, coerce, toInt_int, toBool_bool, slL_sl, slC_sl, slA_sl, toAddr_ptr, ptrOf_ptr, isNil_sl, isNil_ptr, it_and, it_or, it_int, optN_int, optN_nl, cmpI, arith, Cst.val, SV.den, resShs, resV, resSV, resVals, newVars, runCells, exSh, allSh, cellsAre, List.flatMap_cons, List.flatMap_nil, List.replicate_one, List.getD_cons_zero, List.getD_cons_succ, List.getElem?_cons_zero, List.getElem?_cons_succ, decide_eq_true_eq, decide_eq_false_iff_not, List.map_cons, List.map_nil, List.cons_append, List.nil_append, List.append_nil, List.length_cons, List.length_nil, Nat.zero_add, Nat.add_zero, and_true, true_and, if_true, if_false, Bool.false_eq_true]
  have hL2 : ds.length ≤ 1048576 := L2
  refine ⟨fun hbad b hb => ?_, fun hok b hb => ?_⟩
  · have e : ans_EncodeZlib xs n ds = [] := if_pos (by simp only [Bool.or_eq_true, decide_eq_true_eq] at hbad; omega)
    rw [e]
    exact ⟨(Own.made (k := .u8) (h := h) (b := b) (T := 5) []).part, New.of hb, Sub.of_upd hb⟩
  simp only [Bool.or_eq_false_iff, decide_eq_false_iff_not, Bool.or_eq_true, decide_eq_true_eq] at hok
  obtain ⟨m, rfl⟩ := Int.eq_ofNat_of_zero_le (show 0 ≤ n by omega)
  have hm : m < 8 := by omega
  have e : ans_EncodeZlib xs (m : Int) ds = be (zhead m (decide (0 < ds.length))) 2 ++ (if 0 < ds.length then be (adler 1 ds).toNat 4 else []) ++ ans_EncodeFixed xs ++ be (adler 1 xs).toNat 4 := if_neg (by omega)
  rw [e]
  have s0 : Eng.Sub h (upd h b (.cells (ints .u8 []) 5)) := Sub.of_upd hb
  have hd := zs_head ⟨m, hm⟩ (decide (0 < ds.length))
  have hdl := zhead_lt ⟨m, hm⟩ (decide (0 < ds.length))
  simp only [zs0] at hd hdl
  rw [ifd, hd]
  refine (k_l6Put (hi.sub s0) _ (by omega) 2 (by omega) true).mono ?_
  rintro v1 h1 ⟨O1, N1, s1⟩
  obtain ⟨a1, c1, rfl, _, g1⟩ := Part.ints O1
  refine ⟨_, _, _, rfl, ?_⟩
  refine appW_part (xs := []) hi (s0.trans s1) ((Own.made (k := .u8) (h := h) (b := b) (T := 5) []).part.sub s1) (New.of hb) g1 (by rw [put6_len]; simp) fun v2 h2 o2 n2 s2 _ _ => ?_
  obtain ⟨a2', c2', rfl, _, _⟩ := o2.ints
  have l2 : (([] : List Int) ++ put6 (zhead m (decide (0 < ds.length))) 2 true).length ≤ 2 := by simp [put6_len]
  refine ⟨fun hgt => ?_, fun hle _ => ?_⟩
  · rw [if_pos (by omega)]
    refine (g_spec_AdlerUpdate (hi.sub s2) 1 _ _ ds (hx2.sub s2) (by omega)).mono ?_
    rintro _ h3 ⟨rfl, rfl⟩
    refine ⟨_, rfl, ?_⟩
    obtain ⟨ea, la⟩ := adler_nat 1 ds
    have wa : IntKind.u64.wrap (adler 1 ds) = ((adler 1 ds).toNat : Int) := by rw [u64_in _ (by omega)]; exact ea
    rw [wa]
    refine (k_l6Put (hi.sub s2) (adler 1 ds).toNat (by omega) 4 (by omega) true).mono ?_
    rintro v4 h4 ⟨O4, N4, s4⟩
    obtain ⟨a4, c4, rfl, _, g4⟩ := Part.ints O4
    refine ⟨_, _, _, rfl, ?_⟩
    simp only [slA_sl, slL_sl, slC_sl]
    refine appW_part hi (s2.trans s4) (o2.sub s4) n2 g4 (by rw [put6_len]; omega) fun v5 h5 o5 n5 s5 _ _ _ => ?_
    obtain ⟨a5, c5, rfl, _, _⟩ := o5.ints
    simp only [slA_sl, slL_sl, slC_sl]
    exact zl_tail (Q := fun v h'' => tB.O h'' v (be (zhead m (decide (0 < ds.length))) 2 ++ be (adler 1 ds).toNat 4 ++ ans_EncodeFixed xs ++ be (adler 1 xs).toNat 4) ∧ tB.New h v ∧ Eng.Sub h h'') hi s5 O hw L o5 n5 (by rw [List.length_append, put6_len]; omega) fun v h' p n s => ⟨p, n, s⟩
  · rw [if_neg (by omega), List.append_nil]
    simp only [slA_sl, slL_sl, slC_sl]
    exact zl_tail (Q := fun v h'' => tB.O h'' v (be (zhead m (decide (0 < ds.length))) 2 ++ ans_EncodeFixed xs ++ be (adler 1 xs).toNat 4) ∧ tB.New h v ∧ Eng.Sub h h'') hi s2 O hw L o2 n2 (by omega) fun v h' p n s => ⟨p, n, s⟩

/-- The same, on the program's side. -/
theorem zl_tail2 {s0 : Nat → Prop} (hi : Eng.Inv (Team Try.prog s0) h) {xs pre : List Int} {a a0 : Option Addr} {c l0 c0 : Nat} {h' : Eng.Heap} (s : Eng.Sub h h') (O : tB.O h (.slice a xs.length c) xs) (hw : ∀ x ∈ xs, 0 ≤ x ∧ x ≤ 255) (L : limB xs)
    (P : Part .u8 h' (.slice a0 l0 c0) pre) (N : Eng.New h (.slice a0 l0 c0)) (hl : pre.length ≤ 1000) {Q : Value → Eng.Heap → Prop}
    (hQ : ∀ v h', Part .u8 h' v (pre ++ ans_EncodeFixed xs ++ be (adler 1 xs).toNat 4) → Eng.New h v → Eng.Sub h h' → Q v h') :
    CallsH Try.prog (Team Try.prog s0) F_impl_EncodeFixed #[.slice a xs.length c] h' fun v_1 h' => ∃ (a_6 : Option Addr) (l c_2 : Nat), v_1 = .slice a_6 l c_2 ∧ appW (Team Try.prog s0) 5 1 1 [.int .u8 0] (.slice a0 l0 c0) (.slice a_6 l c_2) h' fun v h' =>
      CallsH Try.prog (Team Try.prog s0) F_impl_AdlerUpdate #[.int .u32 1, .slice a xs.length c] h' fun v_2 h' => ∃ x, v_2 = .int .u32 x ∧ CallsH Try.prog (Team Try.prog s0) F_impl_appendBig #[.slice (slA v) (slL v) (slC v), .int .u32 x] h' fun v_3 h' =>
        ∃ (a : Option Addr) (l c : Nat), v_3 = .slice a l c ∧ Q (.slice a l c) h' := by
  obtain ⟨_, c', e, hc, hx⟩ := Part.ints O
  cases e
  have fl := fix_len hw
  refine (g_impl_EncodeFixed (hi.sub s) (O.sub s) hw L).mono ?_
  rintro v1 h1 ⟨O1, N1, s1⟩
  obtain ⟨a1, c1, rfl, _, g1⟩ := Part.ints O1
  have el0 : l0 = pre.length := by obtain ⟨a', c', e, _, _⟩ := P.ints; cases e; rfl
  subst el0
  refine ⟨_, _, _, rfl, ?_⟩
  refine appW_part hi (s.trans s1) (P.sub s1) N g1 (by omega) fun v2 h2 o2 n2 s2 _ _ => ?_
  obtain ⟨a2, c2, rfl, _, _⟩ := o2.ints
  refine (g_impl_AdlerUpdate (hi.sub s2) 1 ⟨by omega, by omega⟩ _ _ xs (fun x hx => by have := hw x hx; omega) (hx.sub s2) hc (by have : xs.length ≤ 1048576 := L; omega)).mono ?_
  rintro _ h3 ⟨rfl, s3⟩
  refine ⟨_, rfl, ?_⟩
  obtain ⟨ea, la⟩ := adler_nat 1 xs
  rw [ea]
  simp only [slA_sl, slL_sl, slC_sl]
  refine (k_appendBig hi (s2.trans s3) (o2.sub s3) n2 (adler 1 xs).toNat la (by rw [List.length_append]; omega)).mono ?_
  rintro v4 h4 ⟨O4, N4, s4⟩
  obtain ⟨a4, c4, rfl, _, g4⟩ := Part.ints O4
  exact ⟨_, _, _, rfl, hQ _ _ O4 N4 s4⟩

theorem g_impl_EncodeZlib {s0 : Nat → Prop} (hi : Eng.Inv (Team Try.prog s0) h) {v u : Value} {xs ds : List Int} (O : tB.O h v xs) (hw : ∀ x ∈ xs, 0 ≤ x ∧ x ≤ 255) (L : limB xs) (n : Int) (wn : (Lit.int .i64 n).wf = true) (O2 : tB.O h u ds) (hw2 : ∀ x ∈ ds, 0 ≤ x ∧ x ≤ 255) (L2 : limB ds) :
    CallsH Try.prog (Team Try.prog s0) F_impl_EncodeZlib #[v, .int .i64 n, u] h (fun v h' => tB.O h' v (ans_EncodeZlib xs n ds) ∧ tB.New h v ∧ Eng.Sub h h') := by
  obtain ⟨a, c, rfl, hc, hx⟩ := Part.ints O
  obtain ⟨a2, c2, rfl, hc2, hx2⟩ := Part.ints O2
  refine run_impl_EncodeZlib (vs := [.slice a xs.length c, .int .i64 n, .slice a2 ds.length c2]) ⟨rfl, rfl, rfl, trivial⟩ hi ?_
  simp only [t_impl_EncodeZlib, Tr.wp, mksW, callW, Ex.ev, coerce, toInt_int, toBool_bool, slL_sl, slC_sl, slA_sl, toAddr_ptr, ptrOf_ptr, isNil_sl, isNil_ptr, it_and, it_or, it_int, optN_int, optN_nl, cmpI, arith, Cst.val, SV.den, resShs, resV, resSV, resVals, newVars, runCells, exSh, allSh, cellsAre, List.flatMap_cons, List.flatMap_nil, List.replicate_one, List.getD_cons_zero, List.getD_cons_succ, List.getElem?_cons_zero, List.getElem?_cons_succ, decide_eq_true_eq, decide_eq_false_iff_not, List.map_cons, List.map_nil, List.cons_append, List.nil_append, List.append_nil, List.length_cons, List.length_nil, Nat.zero_add, Nat.add_zero, and_true, true_and, if_true, if_false, Bool.false_eq_true]
  have hL2 : ds.length ≤ 1048576 := L2
  refine ⟨fun hbad b hb => ?_, fun hok b hb => ?_⟩
  · have e : ans_EncodeZlib xs n ds = [] := if_pos (by simp only [Bool.or_eq_true, decide_eq_true_eq] at hbad; omega)
    rw [e]
    exact ⟨(Own.made (k := .u8) (h := h) (b := b) (T := 5) []).part, New.of hb, Sub.of_upd hb⟩
  simp only [Bool.or_eq_false_iff, decide_eq_false_iff_not, Bool.or_eq_true, decide_eq_true_eq] at hok
  obtain ⟨m, rfl⟩ := Int.eq_ofNat_of_zero_le (show 0 ≤ n by omega)
  have hm : m < 8 := by omega
  have e : ans_EncodeZlib xs (m : Int) ds = be (zhead m (decide (0 < ds.length))) 2 ++ (if 0 < ds.length then be (adler 1 ds).toNat 4 else []) ++ ans_EncodeFixed xs ++ be (adler 1 xs).toNat 4 := if_neg (by omega)
  rw [e]
  have hd := zi_head ⟨m, hm⟩ (decide (0 < ds.length))
  have hdl := zhead_lt ⟨m, hm⟩ (decide (0 < ds.length))
  simp only [zi0] at hd hdl
  rw [ifd, hd]
  generalize zhead m (decide (0 < ds.length)) = z at hdl ⊢
  have e1 : IntKind.u8.wrap (Int.fdiv (z : Int) (2 ^ (min (Int.toNat 8) IntKind.u32.bits))) = ((z / 256 % 256 : Nat) : Int) := by rw [show Int.toNat 8 = ((8 : Nat) : Int).toNat from rfl, shr_nat z 8 (by omega), IntKind.wrap_u8]; omega
  have e2 : IntKind.u8.wrap (z : Int) = ((z % 256 : Nat) : Int) := by rw [IntKind.wrap_u8]; omega
  rw [e1, e2]
  have eh : (#[Value.int .u8 ((z / 256 % 256 : Nat) : Int), Value.int .u8 ((z % 256 : Nat) : Int)] : Array Value) = ints .u8 (be z 2) := by rw [be2]; rfl
  rw [eh]
  have s0' : Eng.Sub h (upd h b (.cells (ints .u8 (be z 2)) 5)) := Sub.of_upd hb
  have P0 : Part .u8 (upd h b (.cells (ints .u8 (be z 2)) 5)) (.slice (some ⟨b, 0, none⟩) 2 2) (be z 2) := by
    have := (Own.made (k := .u8) (h := h) (b := b) (T := 5) (be z 2)).part
    rw [be_len] at this; exact this
  have N0 : Eng.New h (.slice (some ⟨b, 0, none⟩) 2 2) := New.of hb
  refine ⟨fun hgt => ?_, fun hle _ => ?_⟩
  · rw [if_pos (by omega)]
    refine (g_impl_AdlerUpdate (hi.sub s0') 1 ⟨by omega, by omega⟩ _ _ ds (fun x hx => by have := hw2 x hx; omega) (hx2.sub s0') hc2 (by omega)).mono ?_
    rintro _ h3 ⟨rfl, s3⟩
    refine ⟨_, rfl, ?_⟩
    obtain ⟨ea, la⟩ := adler_nat 1 ds
    rw [ea]
    have P1 := P0.sub s3
    rw [show (2 : Nat) = (be z 2).length from be_len.symm] at P1 N0
    have := k_appendBig hi (s0'.trans s3) (a := some ⟨b, 0, none⟩) (c := 2) (xs := be z 2) (by rw [be_len] at P1 ⊢; exact P1) (by rw [be_len] at N0 ⊢; exact N0) (adler 1 ds).toNat la (by rw [be_len]; omega)
    rw [be_len] at this
    refine this.mono ?_
    rintro v4 h4 ⟨O4, N4, s4⟩
    obtain ⟨a4, c4, rfl, _, g4⟩ := Part.ints O4
    refine ⟨_, _, _, rfl, fun _ => ?_⟩
    exact zl_tail2 (Q := fun v h'' => tB.O h'' v (be z 2 ++ be (adler 1 ds).toNat 4 ++ ans_EncodeFixed xs ++ be (adler 1 xs).toNat 4) ∧ tB.New h v ∧ Eng.Sub h h'') hi s4 O hw L O4 N4 (by rw [List.length_append, be_len, be_len]; omega) fun v h' p n s => ⟨p, n, s⟩
  · rw [if_neg (by omega), List.append_nil]
    exact zl_tail2 (Q := fun v h'' => tB.O h'' v (be z 2 ++ ans_EncodeFixed xs ++ be (adler 1 xs).toNat 4) ∧ tB.New h v ∧ Eng.Sub h h'') hi s0' O hw L P0 N0 (by rw [be_len]; omega) fun v h' p n s => ⟨p, n, s⟩

theorem u8_wf {n : Int} (H : (Lit.int .u8 n).wf = true) : 0 ≤ n ∧ n ≤ 255 := by
  have e1 : IntKind.u8.min = 0 := by rfl
  have e2 : IntKind.u8.max = 255 := by rfl
  simp [Lit.wf, e1, e2] at H; exact H

theorem sm_EncodeZlib {xs ds : List Int} {n : Int} (hw : ∀ x ∈ xs, 0 ≤ x ∧ x ≤ 255) (L : limB xs) (hw2 : ∀ x ∈ ds, 0 ≤ x ∧ x ≤ 255) (L2 : limB ds) : smB (ans_EncodeZlib xs n ds) := by
  have := fix_len hw
  unfold ans_EncodeZlib smB
  split
  · simp
  · simp only [List.length_append, be_len]
    split <;> simp [be_len] <;> omega
end Go.Proofs.Ytmnialmphlbmaaa
