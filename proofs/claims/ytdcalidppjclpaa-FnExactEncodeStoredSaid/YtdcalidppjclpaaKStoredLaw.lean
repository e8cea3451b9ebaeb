import Derived.Test.YtdcalidppjclpaaKStored
set_option linter.unusedVariables false
set_option linter.unusedSimpArgs false
namespace Go.Proofs.Ytdcalidppjclpaa
open Go Go.Eng Go.IntWalk
variable {S : Nat → Prop} {h : Eng.Heap}

theorem senc_len (per : Nat) (xs : List Int) : (senc per xs).length ≤ 5 + 6 * xs.length := by
  induction hn : xs.length using Nat.strongRecOn generalizing xs with
  | _ n ih =>
    unfold senc
    split
    · simp [shead]; omega
    · rename_i hc
      have h0 : 0 < per ∧ per < xs.length := by omega
      have := ih (xs.drop per).length (by rw [List.length_drop]; omega) (xs.drop per) rfl
      rw [List.length_drop] at this
      simp [shead]
      omega
theorem sans_len (per : Int) (xs : List Int) : (sans per xs).length ≤ 5 + 6 * xs.length := by
  unfold sans; split
  · simp
  · exact senc_len _ _

theorem k_EncodeStored (hi : Eng.Inv S h) (a : Option Addr) (c : Nat) (xs : List Int) (hx : HInts h .u8 a xs) (hl : xs.length ≤ maxLen) (hwf : ∀ x ∈ xs, (Lit.int .u8 x).wf = true) (per : Int) (hper : (Lit.int .i64 per).wf = true) :
    CallsH Try.prog S F_laws_FnExactEncodeStored #[.slice a xs.length c, .int .i64 per] h (fun v _ => v = .bool true) := by
  refine run_laws_FnExactEncodeStored (vs := [.slice a xs.length c, .int .i64 per]) ⟨rfl, rfl, trivial⟩ hi ?_
  simp only [t_laws_FnExactEncodeStored, Tr.wp, mksW, callW, Ex.ev, coerce, toInt_int, toBool_bool, slL_sl, slC_sl, slA_sl, toAddr_ptr, ptrOf_ptr, isNil_sl, isNil_ptr, it_and, it_or, it_int, optN_int, optN_nl, cmpI, arith, Cst.val, SV.den, resShs, resV, resSV, resVals, newVars, runCells, exSh, allSh, cellsAre, storeW, List.flatMap_cons, List.flatMap_nil, List.replicate_one, List.getD_cons_zero, List.getD_cons_succ, List.getElem?_cons_zero, List.getElem?_cons_succ, decide_eq_true_eq, decide_eq_false_iff_not, List.map_cons, List.map_nil, List.cons_append, List.nil_append, List.append_nil, List.length_cons, List.length_nil, Nat.zero_add, Nat.add_zero, and_true, true_and, if_true, if_false, Bool.false_eq_true]
  refine ⟨fun _ => trivial, fun hsm => ?_⟩
  have hl2 : xs.length ≤ 1048576 := by omega
  have hz := sans_len per xs
  generalize hzs : sans per xs = zs at hz
  -- the reference's answer
  refine (k_toByteS hi a c xs hx (by omega)).mono ?_
  rintro _ _ ⟨b1, T1, hb1, rfl, rfl⟩
  refine ⟨_, _, _, rfl, ?_⟩
  have s1 : Eng.Sub h (upd h b1 (.cells (ints .u8 xs) T1)) := Sub.of_upd hb1
  refine (k_spec_EncodeStored (hi.sub s1) _ _ xs per HInts.new (Nat.le_refl _)).mono ?_
  rintro v2 h2 ⟨o2, n2, s2⟩
  rw [hzs] at o2
  obtain ⟨bw, spw, Tw, rfl, hbw⟩ := o2
  refine ⟨_, _, _, rfl, ?_⟩
  have s2 := s1.trans s2
  -- the program's
  refine (k_toByteS (hi.sub s2) a c xs (hx.sub s2) (by omega)).mono ?_
  rintro _ _ ⟨b3, T3, hb3, rfl, rfl⟩
  refine ⟨_, _, _, rfl, ?_⟩
  have s3 := s2.trans (Sub.of_upd (o := .cells (ints .u8 xs) T3) hb3)
  generalize hh3 : upd h2 b3 (.cells (ints .u8 xs) T3) = h3 at s3
  have o3 : Own .u8 h3 (.slice (some ⟨b3, 0, none⟩) xs.length xs.length) xs := hh3 ▸ Own.made xs
  have hbw3 : bw ≠ b3 := fun e => by rw [e, hb3] at hbw; cases hbw
  have w3 : h3 bw = some (.cells (ints .u8 (zs ++ spw)) Tw) := by rw [← hh3, upd_ne hbw3]; exact hbw
  have x3 : HInts h3 .u8 (some ⟨b3, 0, none⟩) xs := hh3 ▸ HInts.new
  refine (k_impl_EncodeStored (hi.sub s3) _ _ xs per x3 (Nat.le_refl _)).mono ?_
  rintro v4 h4 ⟨o4, n4, s4⟩
  rw [hzs] at o4
  obtain ⟨bg, spg, Tg, rfl, hbg⟩ := o4
  refine ⟨_, _, _, rfl, ?_⟩
  have hbg3 : h3 bg = none := n4 bg rfl
  have w4 := s4 _ _ w3
  have s4' := s3.trans s4
  have ow4 : Own .u8 h4 (.slice (some ⟨bw, 0, none⟩) zs.length (zs.length + spw.length)) zs := ⟨bw, spw, Tw, rfl, w4⟩
  have og4 : Own .u8 h4 (.slice (some ⟨bg, 0, none⟩) zs.length (zs.length + spg.length)) zs := ⟨bg, spg, Tg, rfl, hbg⟩
  have hint : ∀ {hh : Eng.Heap} {b : Nat} {ys sp : List Int} {T : TypeId}, hh b = some (.cells (ints .u8 (ys ++ sp)) T) → HInts hh .u8 (some ⟨b, 0, none⟩) ys := by
    intro hh b ys sp T hb i x hx
    exact ⟨_, rfl, by rw [addr0_add]; simp only [hcell, hb]; exact ints_get hx⟩
  refine (k_eqByteS (hi.sub s4') _ _ _ _ zs zs (hint hbg) (hint w4) (by omega)).mono ?_
  rintro _ hq ⟨rfl, eq⟩
  rw [eq]
  refine ⟨_, rfl, fun hne => by simp at hne, fun _ => ?_⟩
  -- the argument reads as it did
  refine (k_toByteS (hi.sub s4') a c xs (hx.sub s4') (by omega)).mono ?_
  rintro _ h5 ⟨b5, T5, hb5, rfl, e5⟩
  refine ⟨_, _, _, rfl, ?_⟩
  have s45 : Eng.Sub h4 h5 := e5 ▸ Sub.of_upd hb5
  have s5 := s4'.trans s45
  have x5 : HInts h5 .u8 (some ⟨b5, 0, none⟩) xs := e5 ▸ HInts.new
  refine (k_eqByteS (hi.sub s5) _ _ _ _ xs xs (x3.sub (s4.trans s45)) x5 (by omega)).mono ?_
  rintro _ hq ⟨rfl, eq⟩
  rw [eq]
  refine ⟨_, rfl, fun hne => by simp at hne, fun _ => ?_⟩
  -- the argument is marked: the answers stay
  have hne : ∀ {b : Nat}, h b = none → ¬ S b := fun hb hs => hi _ hs hb
  have hb3n : h b3 = none := by
    cases hh : h b3 with
    | none => rfl
    | some o => rw [s2 _ _ hh] at hb3; cases hb3
  have hbgn : h bg = none := by
    cases hh : h bg with
    | none => rfl
    | some o => rw [s3 _ _ hh] at hbg3; cases hbg3
  refine (k_markByteS (hi.sub s5) (o3.sub (s4.trans s45)) (fun b hb => by cases hb; exact hne hb3n) 1 (by omega) (by omega) (by omega)).mono ?_
  rintro _ h6 ⟨rfl, o6, f6⟩
  have keep6 : ∀ {b : Nat}, b ≠ b3 → h6 b = h5 b := fun hb => f6 _ (fun e => hb (by cases e; rfl))
  have s6 : Eng.Sub h h6 := fun b o hb => by
    rw [keep6 (fun e => by rw [e, hb3n] at hb; cases hb)]; exact s5 b o hb
  have hgb : bg ≠ b3 := fun e => by rw [e, ← hh3, upd_same] at hbg3; cases hbg3
  have g6 : h6 bg = some (.cells (ints .u8 (zs ++ spg)) Tg) := by rw [keep6 hgb]; exact s45 _ _ hbg
  have w6 : h6 bw = some (.cells (ints .u8 (zs ++ spw)) Tw) := by rw [keep6 hbw3]; exact s45 _ _ w4
  refine ⟨_, rfl, fun _ => ?_, fun hneg => by simp at hneg; omega⟩
  refine (k_eqByteS (hi.sub s6) _ _ _ _ zs zs (hint g6) (hint w6) (by omega)).mono ?_
  rintro _ hq ⟨rfl, eq⟩
  rw [eq]
  refine ⟨_, rfl, fun _ => ⟨fun hne => by simp at hne, fun _ => ?_⟩⟩
  -- the answer owns its memory
  have og6 : Own .u8 h6 (.slice (some ⟨bg, 0, none⟩) zs.length (zs.length + spg.length)) zs := ⟨bg, spg, Tg, rfl, g6⟩
  refine (k_markByteS (hi.sub s6) og6 (fun b hb => by cases hb; exact hne hbgn) 1 (by omega) (by omega) (by omega)).mono ?_
  rintro _ h7 ⟨rfl, o7, f7⟩
  have keep7 : ∀ {b : Nat}, b ≠ bg → h7 b = h6 b := fun hb => f7 _ (fun e => hb (by cases e; rfl))
  have s7 : Eng.Sub h h7 := fun b o hb => by
    rw [keep7 (fun e => by rw [e, hbgn] at hb; cases hb)]; exact s6 b o hb
  have hwg : bw ≠ bg := fun e => by rw [e, hbg3] at w3; cases w3
  have w7 : h7 bw = some (.cells (ints .u8 (zs ++ spw)) Tw) := by rw [keep7 hwg]; exact w6
  obtain ⟨a7, c7, e7, m7⟩ := o7.ints
  rw [marks_len] at e7
  simp only [Value.slice.injEq] at e7
  obtain ⟨e7a, _, e7c⟩ := e7
  rw [← e7a] at m7
  refine ⟨_, rfl, ?_⟩
  refine (k_heldByteS (hi.sub s7) _ _ 1 zs.length m7 (by omega) (by omega) (by omega)).mono ?_
  rintro _ hq ⟨rfl, eq⟩
  rw [eq]
  refine ⟨_, rfl, fun hneg => by omega, fun _ => ⟨fun hne => by simp at hne, fun _ => ?_⟩⟩
  -- once more
  refine (k_toByteS (hi.sub s7) a c xs (hx.sub s7) (by omega)).mono ?_
  rintro _ h8 ⟨b8, T8, hb8, rfl, e8⟩
  refine ⟨_, _, _, rfl, ?_⟩
  have s78 : Eng.Sub h7 h8 := e8 ▸ Sub.of_upd hb8
  have s8 := s7.trans s78
  have x8 : HInts h8 .u8 (some ⟨b8, 0, none⟩) xs := e8 ▸ HInts.new
  refine (k_impl_EncodeStored (hi.sub s8) _ _ xs per x8 (Nat.le_refl _)).mono ?_
  rintro v9 h9 ⟨o9, n9, s89⟩
  rw [hzs] at o9
  obtain ⟨a9, c9, rfl, i9⟩ := o9.ints
  refine ⟨_, _, _, rfl, ?_⟩
  have s79 := s78.trans s89
  have s9 := s8.trans s89
  refine (k_eqByteS (hi.sub s9) _ _ _ _ zs zs i9 (hint (s79 _ _ w7)) (by omega)).mono ?_
  rintro _ hq ⟨rfl, eq⟩
  rw [eq]
  refine ⟨_, rfl, fun hne => by simp at hne, fun _ => ?_⟩
  refine (k_heldByteS (hi.sub s9) _ _ 1 zs.length (m7.sub s79) (by omega) (by omega) (by omega)).mono ?_
  rintro _ hq ⟨rfl, eq⟩
  refine ⟨_, rfl, fun hneg => by omega, fun _ => ⟨fun hne => by simp at hne, fun _ => trivial⟩⟩
end Go.Proofs.Ytdcalidppjclpaa
