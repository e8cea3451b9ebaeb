import Derived.Test.YtmnialmphlbmaaaDoorKInfA
import Derived.Test.YtmnialmphlbmaaaDoorKLensM
import Derived.Test.YtmnialmphlbmaaaDoorTrIM
set_option linter.unusedVariables false
set_option linter.unusedSimpArgs false
namespace Go.Proofs.YtmnialmphlbmaaaDoor
open Go Go.Eng Go.IntWalk
section
variable {S : Shared} {h h0 : Eng.Heap}

/-! ### The program's side of a stream. Contracts here: k_lengthOf, k_distOf, k_num2, k_tell -/
theorem len_arith : ∀ s : Fin 285, 265 ≤ s.1 → 0 ≤ IntKind.i64.wrap (IntKind.i64.wrap ((IntKind.i64.wrap ((s.1 : Int) - 265)).tdiv 4) + 1) ∧
    IntKind.i64.wrap (IntKind.i64.wrap (IntKind.i64.wrap (4 + (IntKind.i64.wrap ((s.1 : Int) - 265)).tmod 4) * 2 ^ min (IntKind.i64.wrap (IntKind.i64.wrap ((IntKind.i64.wrap ((s.1 : Int) - 265)).tdiv 4) + 1)).toNat IntKind.i64.bits) + 3) = ((lenB s.1).1 : Int) ∧
    IntKind.i64.wrap (IntKind.i64.wrap ((IntKind.i64.wrap ((s.1 : Int) - 265)).tdiv 4) + 1) = ((lenB s.1).2 : Int) := by decide +kernel
theorem dis_arith : ∀ d : Fin 30, 4 ≤ d.1 → 0 ≤ IntKind.i64.wrap (IntKind.i64.wrap ((d.1 : Int).tdiv 2) - 1) ∧
    IntKind.i64.wrap (IntKind.i64.wrap (IntKind.i64.wrap (2 + (d.1 : Int).tmod 2) * 2 ^ min (IntKind.i64.wrap (IntKind.i64.wrap ((d.1 : Int).tdiv 2) - 1)).toNat IntKind.i64.bits) + 1) = ((disB d.1).1 : Int) ∧
    IntKind.i64.wrap (IntKind.i64.wrap ((d.1 : Int).tdiv 2) - 1) = ((disB d.1).2 : Int) := by decide +kernel

theorem k_lengthOf (hi : Eng.Inv S h) (s : Nat) (h1 : 257 ≤ s) (h2 : s ≤ 285) :
    CallsH Tryd.prog S F_impl_lengthOf #[.int .i64 s] h (fun v h' => v = .tuple #[.int .i64 (lenB s).1, .int .i64 (lenB s).2] ∧ h' = h) := by
  refine run_impl_lengthOf (vs := [.int .i64 s]) ⟨rfl, trivial⟩ hi ?_
  simp only [t_impl_lengthOf, Tr.wp, mksW, callW, Ex.ev, coerce, toInt_int, toBool_bool, slL_sl, slC_sl, slA_sl, toAddr_ptr, ptrOf_ptr, isNil_sl, isNil_ptr, it_and, it_or, it_int, optN_int, optN_nl, cmpI, arith, Cst.val, SV.den, resShs, resV, resSV, resVals, newVars, runCells, exSh, allSh, cellsAre, storeW, List.flatMap_cons, List.flatMap_nil, List.replicate_one, List.getD_cons_zero, List.getD_cons_succ, List.getElem?_cons_zero, List.getElem?_cons_succ, decide_eq_true_eq, decide_eq_false_iff_not, List.map_cons, List.map_nil, List.cons_append, List.nil_append, List.append_nil, List.length_cons, List.length_nil, Nat.zero_add, Nat.add_zero, and_true, true_and, if_true, if_false, Bool.false_eq_true]
  refine ⟨fun he => ?_, fun hne => ⟨fun hlt => ?_, fun hge => ?_⟩⟩
  · obtain rfl : s = 285 := by have : (s : Int) = 285 := beq_iff_eq.1 he; omega
    rfl
  · have e : lenB s = (s - 254, 0) := by unfold lenB; rw [if_neg (by omega), if_pos (by omega)]
    rw [e, i64_in ((s : Int) - 254) (by omega)]
    first | rfl | (rw [show ((s - 254 : Nat) : Int) = (s : Int) - 254 by omega]; rfl)
  · have hne : s ≠ 285 := fun e => by subst e; simp at hne
    obtain ⟨a1, a2, a3⟩ := len_arith ⟨s, by omega⟩ (by simp only; omega)
    simp only at a1 a2 a3
    rw [a2, a3]
    exact ⟨by simp, rfl⟩

theorem k_distOf (hi : Eng.Inv S h) (d : Nat) (h1 : d ≤ 29) :
    CallsH Tryd.prog S F_impl_distOf #[.int .i64 d] h (fun v h' => v = .tuple #[.int .i64 (disB d).1, .int .i64 (disB d).2] ∧ h' = h) := by
  refine run_impl_distOf (vs := [.int .i64 d]) ⟨rfl, trivial⟩ hi ?_
  simp only [t_impl_distOf, Tr.wp, mksW, callW, Ex.ev, coerce, toInt_int, toBool_bool, slL_sl, slC_sl, slA_sl, toAddr_ptr, ptrOf_ptr, isNil_sl, isNil_ptr, it_and, it_or, it_int, optN_int, optN_nl, cmpI, arith, Cst.val, SV.den, resShs, resV, resSV, resVals, newVars, runCells, exSh, allSh, cellsAre, storeW, List.flatMap_cons, List.flatMap_nil, List.replicate_one, List.getD_cons_zero, List.getD_cons_succ, List.getElem?_cons_zero, List.getElem?_cons_succ, decide_eq_true_eq, decide_eq_false_iff_not, List.map_cons, List.map_nil, List.cons_append, List.nil_append, List.append_nil, List.length_cons, List.length_nil, Nat.zero_add, Nat.add_zero, and_true, true_and, if_true, if_false, Bool.false_eq_true]
  refine ⟨fun hlt => ?_, fun hge => ?_⟩
  · have e : disB d = (d + 1, 0) := by unfold disB; rw [if_pos (by omega)]
    rw [e, i64_in ((d : Int) + 1) (by omega)]
    first | exact rfl | (push_cast; rfl)
  · obtain ⟨a1, a2, a3⟩ := dis_arith ⟨d, by omega⟩ (by simp only; omega)
    simp only at a1 a2 a3
    rw [a2, a3]
    exact ⟨by simp, rfl⟩
end

section
variable {S : Shared} {h h0 : Eng.Heap}

/-- The program's errors, all three. -/
structure ErrL (h : Eng.Heap) : Prop where
  es : Errs h
  e6 : hcell h ⟨3, 0, none⟩ = some (.int .i64 6)
theorem ErrL.sub {h' : Eng.Heap} (H : ErrL h) (s : Eng.Sub h h') : ErrL h' := ⟨H.es.sub s, hcell_sub s H.e6⟩

/-- What stays: the text, the dictionary's part, the room, the ring's size, the blocks. -/
structure KC where
  a : Option Addr
  c : Nat
  bs : List Int
  dl : Nat
  room : Nat
  sz : Nat
  T : TypeId
  TW : TypeId
  bm : Nat
  bw : Nat
/-- The machine's fields, by what was told. -/
def mcOf (k : KC) (al : List Int) (out : Value) (last : Bool) (l d : Value) : MC := ⟨.pointer (some ⟨k.bw, 0, none⟩), out, (k.room : Int) - ((al.length - k.dl : Nat) : Int), last, l, d⟩

/-- The machine and its ring, as they stand behind al. -/
structure IM (h0 h : Eng.Heap) (k : KC) (r : Rd) (al : List Int) (last : Bool) (l d : Value) : Prop where
  mt : ∃ (p : Nat) (ao : Option Addr) (co : Nat), p ≤ 8 * k.bs.length ∧ (r.k = 0 → r.i = p) ∧ h k.bm = some (machO k.a k.c k.bs p (mcOf k al (.slice ao (al.drop k.dl).length co) last l d) k.T) ∧
    Part .u8 h (.slice ao (al.drop k.dl).length co) (al.drop k.dl) ∧ Eng.New (mkL h0 [k.bm, k.bw]) (.slice ao (al.drop k.dl).length co)
  rg : RingAt h0 h k.bw k.TW k.sz (lastN k.sz al)
  nm : h0 k.bm = none
  ne : k.bm ≠ k.bw
  sb : Eng.Sub h0 h
  le : k.dl ≤ al.length ∧ al.length ≤ k.dl + k.room

section
variable {k : KC} {r : Rd} {al : List Int} {last : Bool} {l d : Value}
theorem IM.out_ne (N : Eng.New (mkL h0 [k.bm, k.bw]) l) {z : Nat} (hz : blkOf l = some z) : z ≠ k.bm ∧ z ≠ k.bw ∧ h0 z = none := by
  obtain ⟨h1, h2⟩ := mkL_none.1 (N z hz)
  simp only [List.mem_cons, List.not_mem_nil, or_false, not_or] at h1
  exact ⟨h1.1, h1.2, h2⟩
/-- The machine's block alone is changed. -/
theorem IM.mset (H : IM h0 h k r al last l d) {r' : Rd} {last' : Bool} {l' d' : Value} {p : Nat} {ao : Option Addr} {co : Nat} (hp : p ≤ 8 * k.bs.length) (hr : r'.k = 0 → r'.i = p) (P : Part .u8 h (.slice ao (al.drop k.dl).length co) (al.drop k.dl)) (N : Eng.New (mkL h0 [k.bm, k.bw]) (.slice ao (al.drop k.dl).length co)) :
    IM h0 (upd h k.bm (machO k.a k.c k.bs p (mcOf k al (.slice ao (al.drop k.dl).length co) last' l' d') k.T)) k r' al last' l' d' := by
  obtain ⟨dd, at_, n, hb, R, s, hn⟩ := H.rg
  have sb := sub_upd_new (o := machO k.a k.c k.bs p (mcOf k al (.slice ao (al.drop k.dl).length co) last' l' d') k.T) H.sb H.nm
  exact ⟨⟨p, ao, co, hp, hr, upd_same, P.keep fun z hz => upd_ne (IM.out_ne N hz).1, N⟩, ⟨dd, at_, n, (upd_ne (Ne.symm H.ne)).trans hb, R, sb, hn⟩, H.nm, H.ne, sb, H.le⟩

/-- A number, by the machine that stands. -/
theorem k_num2 (hi : Eng.Inv S h0) (G : Errs h0) (hx : HInts h0 .u8 k.a k.bs) (L : k.bs.length ≤ 1048576) (H : IM h0 h k r al last l d) (hk : r.k = 0) (n : Nat) (hn : n ≤ 32) :
    CallsH Tryd.prog S F_impl_machine__number #[.pointer (some ⟨k.bm, 0, none⟩), .int .i64 n] h (fun v h' => v = .tuple #[.int .i64 (tk k.bs n r).2, errI (tk k.bs n r).1.k] ∧ IM h0 h' k (tk k.bs n r).1 al last l d) := by
  obtain ⟨p, ao, co, hp, hr, hb, P, N⟩ := H.mt
  obtain ⟨i, kk⟩ := r
  obtain rfl : kk = 0 := hk
  obtain rfl : i = (p : Int) := hr rfl
  refine CallsH.mono (k_number hi G hx L p hp n hn ⟨hb, H.nm, H.sb⟩) ?_
  rintro _ h1 ⟨rfl, rfl⟩
  have hp2 : ∃ p2 : Nat, p2 ≤ 8 * k.bs.length ∧ (tk k.bs n ⟨(p : Int), 0⟩).1.i = p2 := by
    unfold tk
    rw [if_pos rfl]
    split
    · exact ⟨p, hp, rfl⟩
    · rename_i h; simp only at h; exact ⟨p + n, by omega, by simp only; omega⟩
  obtain ⟨p2, hp2, e2⟩ := hp2
  rw [e2]
  exact ⟨rfl, H.mset hp2 (fun _ => e2) P N⟩

theorem ints_same {h' : Eng.Heap} {kk : IntKind} {a : Option Addr} {n c : Nat} {xs : List Int} (H : HInts h kk a xs) (hk : ∀ z, blkOf (.slice a n c) = some z → h' z = h z) : HInts h' kk a xs := fun i x hx => by
  obtain ⟨ad, rfl, g1⟩ := H i x hx
  have e := hk ad.block rfl
  have blk : ∀ n, (ad.add n).block = ad.block := fun n => by unfold Addr.add; split <;> rfl
  refine ⟨ad, rfl, ?_⟩
  rw [← g1]; unfold Eng.hcell
  rw [show h' (ad.add _).block = h (ad.add _).block by rw [blk]; exact e]
theorem mach_rm {bm : Nat} {a : Option Addr} {c : Nat} {bs : List Int} {m : MC} {T : TypeId} {p q : Int} (hb : h bm = some (machO a c bs p m T)) : hset h ⟨bm, 4, none⟩ (.int .i64 q) = upd h bm (machO a c bs p ⟨m.w, m.out, q, m.last, m.l, m.d⟩ T) := by
  rw [hset_cells' hb]; rfl
theorem mach_out {bm : Nat} {a : Option Addr} {c : Nat} {bs : List Int} {m : MC} {T : TypeId} {p : Int} {v : Value} (hb : h bm = some (machO a c bs p m T)) : hset h ⟨bm, 3, none⟩ v = upd h bm (machO a c bs p ⟨m.w, v, m.rm, m.last, m.l, m.d⟩ T) := by
  rw [hset_cells' hb]; rfl

theorem room_step (n m : Nat) (hn : m ≤ k.dl + k.room) (h1 : k.dl ≤ n) (h2 : n ≤ m) (hr : k.room ≤ 200000) : IntKind.i64.wrap (((k.room : Int) - ((n - k.dl : Nat) : Int)) - ((m - n : Nat) : Int)) = (k.room : Int) - ((m - k.dl : Nat) : Int) := by
  rw [i64_in _ (by omega)]; omega

set_option maxRecDepth 100000 in
set_option maxHeartbeats 2000000 in
/-- Bytes are told. -/
theorem k_tell (hi : Eng.Inv S h0) (G : ErrL h0) (hro : k.room ≤ 200000) (hdl : k.dl ≤ 40000) (H : IM h0 h k r al last l d) (hk : r.k = 0) {ad : Option Addr} {cd : Nat} {ys : List Int} (hy : HInts h .u8 ad ys) (hyc : ys.length ≤ cd) (hyl : ys.length ≤ 1000) (hyn : ∀ z, blkOf (.slice ad ys.length cd) = some z → z ≠ k.bm ∧ z ≠ k.bw ∧ (∀ p ao co, h k.bm = some (machO k.a k.c k.bs p (mcOf k al (.slice ao (al.drop k.dl).length co) last l d) k.T) → blkOf (.slice ao (al.drop k.dl).length co) ≠ some z)) :
    CallsH Tryd.prog S F_impl_machine__tell #[.pointer (some ⟨k.bm, 0, none⟩), .slice ad ys.length cd] h (fun v h' => v = errI (tell k.dl k.room r al ys).1.k ∧ IM h0 h' k (tell k.dl k.room r al ys).1 (tell k.dl k.room r al ys).2 last l d) := by
  obtain ⟨p, ao, co, hp, hr, hb, P, N⟩ := H.mt
  refine run_impl_machine__tell (vs := [.pointer (some ⟨k.bm, 0, none⟩), .slice ad ys.length cd]) ⟨rfl, rfl, trivial⟩ (hi.sub H.sb) ?_
  simp only [t_impl_machine__tell, Tr.wp, mksW, callW, Ex.ev, coerce, toInt_int, toBool_bool, slL_sl, slC_sl, slA_sl, toAddr_ptr, ptrOf_ptr, isNil_sl, isNil_ptr, it_and, it_or, it_int, optN_int, optN_nl, cmpI, arith, Cst.val, SV.den, resShs, resV, resSV, resVals, newVars, runCells, exSh, allSh, cellsAre, storeW, List.flatMap_cons, List.flatMap_nil, List.replicate_one, List.getD_cons_zero, List.getD_cons_succ, List.getElem?_cons_zero, List.getElem?_cons_succ, decide_eq_true_eq, decide_eq_false_iff_not, List.map_cons, List.map_nil, List.cons_append, List.nil_append, List.append_nil, List.length_cons, List.length_nil, Nat.zero_add, Nat.add_zero, and_true, true_and, if_true, if_false, Bool.false_eq_true, addr_add]
  obtain ⟨g0, g1, g2, g3, g4, _⟩ := mach_ld hb
  have hsb : ¬ S k.bm := fun hs => hi k.bm hs H.nm
  refine ⟨by simp, _, g4, fun hgt => ?_, fun hle => ?_⟩
  · have hgt : k.room < al.length - k.dl + ys.length := by simp only [mcOf] at hgt; have := H.le; omega
    have et : tell k.dl k.room r al ys = (⟨r.i, 6⟩, al) := by unfold tell; rw [if_pos hk, if_pos hgt]
    rw [et]
    refine ⟨6, (G.sub H.sb).e6, rfl, ?_⟩
    have H' := H.mset (r' := ⟨r.i, 6⟩) (last' := last) (l' := l) (d' := d) hp (fun h => by cases h) P N
    rwa [upd_self hb] at H'
  · have hle : ¬ k.room < al.length - k.dl + ys.length := by simp only [mcOf] at hle; have := H.le; omega
    have et : tell k.dl k.room r al ys = (r, al ++ ys) := by unfold tell; rw [if_pos hk, if_neg hle]
    rw [et]
    have hrm : IntKind.i64.wrap ((mcOf k al (.slice ao (al.drop k.dl).length co) last l d).rm - (ys.length : Int)) = (k.room : Int) - (((al ++ ys).length - k.dl : Nat) : Int) := by
      have := H.le
      simp only [mcOf, List.length_append]
      rw [i64_in _ (by omega)]; omega
    refine ⟨by simp, _, g4, by simp, mach_ok hb hsb g4, by simp, ?_⟩
    rw [hrm, mach_rm hb]
    obtain ⟨h1, hh1⟩ : ∃ h1, h1 = upd h k.bm (machO k.a k.c k.bs p ⟨(mcOf k al (.slice ao (al.drop k.dl).length co) last l d).w, (mcOf k al (.slice ao (al.drop k.dl).length co) last l d).out, (k.room : Int) - (((al ++ ys).length - k.dl : Nat) : Int), (mcOf k al (.slice ao (al.drop k.dl).length co) last l d).last, (mcOf k al (.slice ao (al.drop k.dl).length co) last l d).l, (mcOf k al (.slice ao (al.drop k.dl).length co) last l d).d⟩ k.T) := ⟨_, rfl⟩
    rw [← hh1]
    have hb1 : h1 k.bm = some (machO k.a k.c k.bs p ⟨.pointer (some ⟨k.bw, 0, none⟩), .slice ao (al.drop k.dl).length co, (k.room : Int) - (((al ++ ys).length - k.dl : Nat) : Int), last, l, d⟩ k.T) := by rw [hh1, upd_same]; rfl
    obtain ⟨_, _, _, q3, _⟩ := mach_ld hb1
    have hone : ∀ z, z ≠ k.bm → h1 z = h z := fun z hz => by rw [hh1]; exact upd_ne hz
    have s1 : Eng.Sub h0 h1 := by rw [hh1]; exact sub_upd_new H.sb H.nm
    have P1 : Part .u8 h1 (.slice ao (al.drop k.dl).length co) (al.drop k.dl) := P.keep fun z hz => hone z (IM.out_ne N hz).1
    have hy1 : HInts h1 .u8 ad ys := ints_same (n := ys.length) (c := cd) hy fun z hz => hone z (hyn z hz).1
    refine ⟨_, _, _, q3, ?_⟩
    have hdl2 : (al.drop k.dl).length ≤ 300000 := by rw [List.length_drop]; have := H.le; omega
    refine appW_part hi s1 P1 (fun z hz => (IM.out_ne N hz).2.2) hy1 (by omega) fun v5 h5 o5 n5 s5 k5 r5 => ?_
    obtain ⟨a5, c5, rfl, _, _⟩ := o5.ints
    simp only [slA_sl, slL_sl, slC_sl]
    have hb5 : h5 k.bm = some (machO k.a k.c k.bs p ⟨.pointer (some ⟨k.bw, 0, none⟩), .slice ao (al.drop k.dl).length co, (k.room : Int) - (((al ++ ys).length - k.dl : Nat) : Int), last, l, d⟩ k.T) := (k5 k.bm (by rw [hb1]; simp) (fun e => (IM.out_ne N e).1 rfl)).trans hb1
    obtain ⟨_, _, _, w3, _⟩ := mach_ld hb5
    refine ⟨by simp, mach_ok hb5 hsb w3, by simp, ?_⟩
    rw [mach_out hb5]
    obtain ⟨h6, hh6⟩ : ∃ h6, h6 = upd h5 k.bm (machO k.a k.c k.bs p ⟨.pointer (some ⟨k.bw, 0, none⟩), .slice a5 (al.drop k.dl ++ ys).length c5, (k.room : Int) - (((al ++ ys).length - k.dl : Nat) : Int), last, l, d⟩ k.T) := ⟨_, rfl⟩
    rw [← hh6]
    have hb6 : h6 k.bm = some (machO k.a k.c k.bs p ⟨.pointer (some ⟨k.bw, 0, none⟩), .slice a5 (al.drop k.dl ++ ys).length c5, (k.room : Int) - (((al ++ ys).length - k.dl : Nat) : Int), last, l, d⟩ k.T) := by rw [hh6, upd_same]
    obtain ⟨_, _, u2, _⟩ := mach_ld hb6
    have h65 : ∀ z, z ≠ k.bm → h6 z = h5 z := fun z hz => by rw [hh6]; exact upd_ne hz
    have s6 : Eng.Sub h0 h6 := by rw [hh6]; exact sub_upd_new s5 H.nm
    obtain ⟨dd, at_, nn, hbw, R, sR, hnw⟩ := H.rg
    have hbw1 : h1 k.bw = some (ringObj k.sz dd at_ nn k.TW) := (hone k.bw (Ne.symm H.ne)).trans hbw
    have hbw5 : h5 k.bw = some (ringObj k.sz dd at_ nn k.TW) := (k5 k.bw (by rw [hbw1]; simp) (fun e => (IM.out_ne N e).2.1 rfl)).trans hbw1
    have R6 : RingAt h0 h6 k.bw k.TW k.sz (lastN k.sz al) := ⟨dd, at_, nn, (h65 k.bw (Ne.symm H.ne)).trans hbw5, R, s6, hnw⟩
    have nv : ∀ z, blkOf (.slice a5 (al.drop k.dl ++ ys).length c5) = some z → z ≠ k.bm ∧ z ≠ k.bw := fun z hz => by
      rcases r5 with r5 | r5
      · have := IM.out_ne N (r5 ▸ hz); exact ⟨this.1, this.2.1⟩
      · have := r5 z hz
        exact ⟨fun e => (by rw [e, hb1] at this; cases this), fun e => (by rw [e, hbw1] at this; cases this)⟩
    have hy6 : HInts h6 .u8 ad ys := by
      by_cases hys : ys = []
      · rw [hys]; exact fun i x hx => by simp at hx
      refine ints_same (n := ys.length) (c := cd) hy1 fun z hz => ?_
      obtain ⟨z1, z2, z3⟩ := hyn z hz
      rw [h65 z z1]
      refine k5 z ?_ (z3 p ao co hb)
      obtain ⟨y0, hy0⟩ : ∃ y0, ys[0]? = some y0 := by
        cases ys with
        | nil => exact absurd rfl hys
        | cons y0 yr => exact ⟨y0, rfl⟩
      obtain ⟨ad', e', g'⟩ := hy1 0 y0 hy0
      rw [e'] at hz
      have ez : ad'.block = z := by simpa [blkOf] using hz
      rw [← ez]
      intro hn
      unfold Eng.hcell at g'
      have blk : (ad'.add 0).block = ad'.block := by unfold Addr.add; split <;> rfl
      rw [blk, hn] at g'; cases g'
    refine ⟨_, u2, ?_⟩
    refine CallsH.mono (k_put hi R6 ad cd ys hyc (by omega) fun h' hh => ints_same (n := ys.length) (c := cd) hy6 fun z hz => hh z (hyn z hz).2.1) ?_
    rintro _ h7 ⟨rfl, R7, hk7⟩
    rw [lastN_app] at R7
    have ed : (al ++ ys).drop k.dl = al.drop k.dl ++ ys := List.drop_append_of_le_length H.le.1
    refine ⟨rfl, by rw [hk]; rfl, ⟨p, a5, c5, hp, hr, ?_, ?_, ?_⟩, R7, H.nm, H.ne, R7.sub, ?_⟩
    · rw [hk7 k.bm H.ne, hb6, ed]; rfl
    · rw [ed]
      exact o5.keep fun z hz => (hk7 z (nv z hz).2).trans (h65 z (nv z hz).1)
    · rw [ed]
      exact fun z hz => mkL_none.2 ⟨by simp [(nv z hz).1, (nv z hz).2], n5 z hz⟩
    · have := H.le
      simp only [List.length_append]; omega
end
end

section
variable {S : Shared} {h h0 hb : Eng.Heap}

/-! ### The states of a run: which comes next, and what is still owed to the plain end -/
def fnV (k : KC) (f : Nat) : Value := .func (.func f) #[.pointer (some ⟨k.bm, 0, none⟩)] #[]
/-- Behind a block: the end, or further blocks. -/
def cont (k : KC) (F f : Nat) (last : Bool) (X : Rd × List Int) : Rd × List Int := if last = true then X else blF k.bs k.dl k.room k.sz F f X.1 X.2
theorem cont_bad {k : KC} {F f : Nat} {last : Bool} {X : Rd × List Int} (h : X.1.k ≠ 0) : cont k F f last X = X := by
  unfold cont
  split
  · rfl
  · exact blF_end h
/-- Tables of codes in a heap that stays. -/
def TabsAt (h0 hb : Eng.Heap) (l d : Value) (cl cd : List (Nat × Nat)) : Prop :=
  ∃ (b1 b2 : Nat) (T1 P1 T2 P2 : List (Nat × Nat)) (a1 a2 : Option Addr) (c1 c2 : Nat), l = .pointer (some ⟨b1, 0, none⟩) ∧ d = .pointer (some ⟨b2, 0, none⟩) ∧
    TabV h0 hb b1 T1 P1 a1 c1 (Em cl cl.length) (Ym cl cl.length) ∧ TabV h0 hb b2 T2 P2 a2 c2 (Em cd cd.length) (Ym cd cd.length) ∧ T1.length ≤ 20000 ∧ T2.length ≤ 20000 ∧ (∀ c ∈ cl, c.1 ≤ 15) ∧ (∀ c ∈ cd, c.1 ≤ 15) ∧ cl.length ≤ 1000 ∧ cd.length ≤ 1000
/-- How far a place is from the end; states add their rank. -/
def mz (k : KC) (r : Rd) : Nat := 4 * (8 * (k.bs.length : Int) + 8 - r.i).toNat
theorem mz_le {k : KC} {r rr : Rd} {m : Nat} (h : r.i + m ≤ rr.i) (h2 : rr.i ≤ 8 * (k.bs.length : Int)) : mz k rr + 4 * m ≤ mz k r := by unfold mz; omega
/-- What state v owes. -/
def Owes (h0 hb : Eng.Heap) (k : KC) (F : Nat) (Fin : Rd × List Int) (v : Value) (r : Rd) (al : List Int) (last : Bool) (l d : Value) (n : Nat) : Prop :=
  ∃ f : Nat, 8 * (k.bs.length : Int) + 1 ≤ r.i + f ∧
   ((v = fnV k F_impl_machine__block ∧ n = mz k r + 0 ∧ Fin = blF k.bs k.dl k.room k.sz F f r al) ∨
    (v = fnV k F_impl_machine__stored ∧ n = mz k r + 3 ∧ Fin = cont k F f last (stF k.bs k.dl k.room r al)) ∨
    (v = fnV k F_impl_machine__fixed ∧ n = mz k r + 3 ∧ Fin = cont k F f last (syF k.bs (codesN fixL) (codesN fixD) k.dl k.room k.sz F r al)) ∨
    (v = fnV k F_impl_machine__dynamic ∧ n = mz k r + 3 ∧ Fin = cont k F f last (if (lensF k.bs r).1.k ≠ 0 then ((lensF k.bs r).1, al) else syF k.bs (codesN (lensF k.bs r).2.1) (codesN (lensF k.bs r).2.2) k.dl k.room k.sz F (lensF k.bs r).1 al)) ∨
    (v = fnV k F_impl_machine__symbols ∧ n = mz k r + 2 ∧ ∃ (cl cd : List (Nat × Nat)) (f' : Nat), TabsAt h0 hb l d cl cd ∧ 8 * (k.bs.length : Int) + 1 ≤ r.i + f' ∧ Fin = cont k F f last (syF k.bs cl cd k.dl k.room k.sz f' r al)) ∨
    (v = fnV k F_impl_machine__behind ∧ n = mz k r + 1 ∧ Fin = cont k F f last (r, al)) ∨
    (v = .nilFunc ∧ n = mz k r + 0 ∧ Fin = (r, al)))

/-- The end of a state: an error that is the plain end's, or the next state and what it owes. -/
def PostS (h0 : Eng.Heap) (k : KC) (F : Nat) (Fin : Rd × List Int) (B : Nat) (v : Value) (h' : Eng.Heap) : Prop :=
  ∃ (nx : Value) (rr : Rd) (al' : List Int) (hb : Eng.Heap) (last : Bool) (l d : Value), v = .tuple #[nx, errI rr.k] ∧ Eng.Sub h0 hb ∧ IM hb h' k rr al' last l d ∧ okR k.bs rr ∧
    (rr.k ≠ 0 → Fin = (rr, al') ∧ (nx = .nilFunc ∨ ∃ f, nx = fnV k f)) ∧ (rr.k = 0 → ∃ n, n < B ∧ Owes h0 hb k F Fin nx rr al' last l d n)

section
variable {k : KC} {r : Rd} {al : List Int} {last : Bool} {l d : Value} {F : Nat} {Fin : Rd × List Int}
theorem k_behind (hi : Eng.Inv S h0) (sb : Eng.Sub h0 hb) (H : IM hb h k r al last l d) (hk : r.k = 0) (ok : okR k.bs r) (f : Nat) (hf : 8 * (k.bs.length : Int) + 1 ≤ r.i + f) {B : Nat} (hB : mz k r + 1 ≤ B) (hF : Fin = cont k F f last (r, al)) :
    CallsH Tryd.prog S F_impl_machine__behind #[.pointer (some ⟨k.bm, 0, none⟩)] h (PostS h0 k F Fin B) := by
  refine run_impl_machine__behind (vs := [.pointer (some ⟨k.bm, 0, none⟩)]) ⟨rfl, trivial⟩ (hi.sub (sb.trans H.sb)) ?_
  simp only [t_impl_machine__behind, Tr.wp, mksW, callW, Ex.ev, coerce, toInt_int, toBool_bool, slL_sl, slC_sl, slA_sl, toAddr_ptr, ptrOf_ptr, isNil_sl, isNil_ptr, it_and, it_or, it_int, optN_int, optN_nl, cmpI, arith, Cst.val, SV.den, resShs, resV, resSV, resVals, newVars, runCells, exSh, allSh, cellsAre, storeW, List.flatMap_cons, List.flatMap_nil, List.replicate_one, List.getD_cons_zero, List.getD_cons_succ, List.getElem?_cons_zero, List.getElem?_cons_succ, decide_eq_true_eq, decide_eq_false_iff_not, List.map_cons, List.map_nil, List.cons_append, List.nil_append, List.append_nil, List.length_cons, List.length_nil, Nat.zero_add, Nat.add_zero, and_true, true_and, if_true, if_false, Bool.false_eq_true, addr_add]
  obtain ⟨p, ao, co, hp, hr, hbm, P, N⟩ := H.mt
  obtain ⟨_, _, _, _, _, g5, _⟩ := mach_ld hbm
  have ez : errI r.k = .nilIface := by rw [hk]; rfl
  refine ⟨by simp, last, g5, fun hl => ?_, fun hl => ?_⟩
  · refine ⟨.nilFunc, r, al, hb, last, l, d, by rw [ez], sb, H, ok, fun h => absurd hk h, fun _ => ⟨_, (by omega : mz k r + 0 < B), f, hf, .inr (.inr (.inr (.inr (.inr (.inr ⟨rfl, rfl, ?_⟩)))))⟩⟩
    rw [hF, cont, if_pos hl]
  · refine ⟨fnV k F_impl_machine__block, r, al, hb, last, l, d, by rw [ez]; rfl, sb, H, ok, fun h => absurd hk h, fun _ => ⟨_, (by omega : mz k r + 0 < B), f, hf, .inl ⟨rfl, rfl, ?_⟩⟩⟩
    rw [hF, cont, if_neg (by rw [hl]; decide)]

theorem tk_bad {bs : List Int} {n : Nat} {r : Rd} (h : r.k ≠ 0) : tk bs n r = (r, 0) := by unfold tk; rw [if_neg h]
theorem tk_zero {bs : List Int} {n : Nat} {r : Rd} (h : (tk bs n r).1.k ≠ 0) : (tk bs n r).2 = 0 := by
  unfold tk at h ⊢
  split
  · rename_i h0
    rw [if_pos h0] at h
    split
    · rfl
    · rename_i hgt; rw [if_neg hgt] at h; exact absurd rfl h
  · rfl
theorem bd_bad {w : Bool} {r : Rd} (h : r.k ≠ 0) : bd w r = r := by unfold bd; rw [if_neg (fun e => h e.1)]
theorem mach_last {bm : Nat} {a : Option Addr} {c : Nat} {bs : List Int} {m : MC} {T : TypeId} {p : Int} {w : Bool} (hb : h bm = some (machO a c bs p m T)) : hset h ⟨bm, 5, none⟩ (.bool w) = upd h bm (machO a c bs p ⟨m.w, m.out, m.rm, w, m.l, m.d⟩ T) := by
  rw [hset_cells' hb]; rfl
theorem IM.toErr (H : IM hb h k r al last l d) {r' : Rd} (hr : r'.k ≠ 0) : IM hb h k r' al last l d := by
  obtain ⟨p, ao, co, hp, _, hbm, P, N⟩ := H.mt
  exact ⟨⟨p, ao, co, hp, fun h => absurd h hr, hbm, P, N⟩, H.rg, H.nm, H.ne, H.sb, H.le⟩
/-- The flag of the last block is put. -/
theorem IM.setLast (H : IM hb h k r al last l d) (w : Bool) (hsb : ¬ S k.bm) : okCell S h ⟨k.bm, 5, none⟩ ∧ IM hb (hset h ⟨k.bm, 5, none⟩ (.bool w)) k r al w l d := by
  obtain ⟨p, ao, co, hp, hr, hbm, P, N⟩ := H.mt
  obtain ⟨_, _, _, _, _, g5, _⟩ := mach_ld hbm
  refine ⟨mach_ok hbm hsb g5, ?_⟩
  rw [mach_last hbm]
  exact H.mset hp hr P N

set_option maxRecDepth 100000 in
set_option maxHeartbeats 2000000 in
theorem k_block (hi : Eng.Inv S h0) (G : Errs h0) (hx : HInts h0 .u8 k.a k.bs) (L : k.bs.length ≤ 1048576) (sb : Eng.Sub h0 hb) (H : IM hb h k r al last l d) (hk : r.k = 0) (ok : okR k.bs r) (f : Nat) (hf : 8 * (k.bs.length : Int) + 1 ≤ r.i + f) {B : Nat} (hB : mz k r + 0 ≤ B) (hF : Fin = blF k.bs k.dl k.room k.sz F f r al) :
    CallsH Tryd.prog S F_impl_machine__block #[.pointer (some ⟨k.bm, 0, none⟩)] h (PostS h0 k F Fin B) := by
  refine run_impl_machine__block (vs := [.pointer (some ⟨k.bm, 0, none⟩)]) ⟨rfl, trivial⟩ (hi.sub (sb.trans H.sb)) ?_
  simp only [t_impl_machine__block, Tr.wp, mksW, callW, Ex.ev, coerce, toInt_int, toBool_bool, slL_sl, slC_sl, slA_sl, toAddr_ptr, ptrOf_ptr, isNil_sl, isNil_ptr, it_and, it_or, it_int, optN_int, optN_nl, cmpI, arith, Cst.val, SV.den, resShs, resV, resSV, resVals, newVars, runCells, exSh, allSh, cellsAre, storeW, List.flatMap_cons, List.flatMap_nil, List.replicate_one, List.getD_cons_zero, List.getD_cons_succ, List.getElem?_cons_zero, List.getElem?_cons_succ, decide_eq_true_eq, decide_eq_false_iff_not, List.map_cons, List.map_nil, List.cons_append, List.nil_append, List.append_nil, List.length_cons, List.length_nil, Nat.zero_add, Nat.add_zero, and_true, true_and, if_true, if_false, Bool.false_eq_true, addr_add]
  have hib := hi.sub sb
  have hsb : ¬ S k.bm := fun hs => hib k.bm hs H.nm
  have hpos := ok hk
  obtain ⟨f', rfl⟩ : ∃ f', f = f' + 1 := ⟨f - 1, by omega⟩
  have eF : Fin = cont k F f' ((bk1 k.bs r).2 == 1) (blk k.bs k.dl k.room k.sz F r al) := by
    rw [hF, blF, if_pos hk]
    have n1 := tk_num (bs := k.bs) (n := 1) (r := r)
    have q1 : (2 : Int) ^ 1 = 2 := by decide
    have e1 : (tk k.bs 1 r).2 = (bk1 k.bs r).2 := rfl
    rw [e1, q1] at n1
    unfold cont
    by_cases h1 : (bk1 k.bs r).2 = 1
    · rw [if_pos (show (bk1 k.bs r).2 ≠ 0 by omega), if_pos (by rw [h1]; rfl)]
    · rw [if_neg (show ¬ (bk1 k.bs r).2 ≠ 0 by omega), if_neg (by simpa using h1)]
  have ok1 : okR k.bs (bk1 k.bs r).1 := tk_ok ok
  refine CallsH.mono (k_num2 hib (G.sub sb) (hx.sub sb) L H hk 1 (by omega)) ?_
  rintro _ h1 ⟨rfl, H1⟩
  refine ⟨_, errI (tk k.bs 1 r).1.k, errI_if, by rw [errI_if], fun hz => ?_, fun hz => ?_⟩
  · rw [errI_if, errI_nil] at hz
    have hk1 : (bk1 k.bs r).1.k ≠ 0 := by simpa [bk1] using hz
    refine ⟨.nilFunc, (bk1 k.bs r).1, al, hb, last, l, d, by rw [errI_if]; rfl, sb, H1, ok1, fun _ => ⟨?_, .inl rfl⟩, fun h => absurd h hk1⟩
    have e2 : bk2 k.bs r = ((bk1 k.bs r).1, 0) := tk_bad hk1
    have e3 : bk3 k.bs r = (bk1 k.bs r).1 := by unfold bk3; rw [e2]; exact bd_bad hk1
    have eb : blk k.bs k.dl k.room k.sz F r al = ((bk1 k.bs r).1, al) := by unfold blk; rw [e3, if_pos hk1]
    rw [eF, eb, cont_bad hk1]
  · rw [errI_if, errI_nil] at hz
    have hk1 : (bk1 k.bs r).1.k = 0 := by simpa [bk1] using hz
    obtain ⟨oc, H2⟩ := H1.setLast (S := S) ((tk k.bs 1 r).2 == 1) hsb
    refine ⟨by simp, oc, ?_⟩
    refine CallsH.mono (k_num2 hib (G.sub sb) (hx.sub sb) L H2 hk1 2 (by omega)) ?_
    rintro _ h3 ⟨rfl, H3⟩
    have ok2 : okR k.bs (bk2 k.bs r).1 := tk_ok ok1
    have n2 := tk_num (bs := k.bs) (n := 2) (r := (bk1 k.bs r).1)
    have q2 : (2 : Int) ^ 2 = 4 := by decide
    have e2 : tk k.bs 2 (tk k.bs 1 r).1 = bk2 k.bs r := rfl
    have e2' : tk k.bs 2 (bk1 k.bs r).1 = bk2 k.bs r := rfl
    have e1 : (tk k.bs 1 r).2 = (bk1 k.bs r).2 := rfl
    rw [e2', q2] at n2
    rw [e2, e1] at H3
    rw [e2]
    refine ⟨_, errI (bk2 k.bs r).1.k, errI_if, by rw [errI_if], fun hz => ?_, fun hz => ?_⟩
    · rw [errI_if, errI_nil] at hz
      have hk2 : (bk2 k.bs r).1.k ≠ 0 := by simpa using hz
      refine ⟨.nilFunc, (bk2 k.bs r).1, al, hb, _, l, d, by rw [errI_if], sb, H3, ok2, fun _ => ⟨?_, .inl rfl⟩, fun h => absurd h hk2⟩
      have e3 : bk3 k.bs r = (bk2 k.bs r).1 := bd_bad hk2
      have eb : blk k.bs k.dl k.room k.sz F r al = ((bk2 k.bs r).1, al) := by unfold blk; rw [e3, if_pos hk2]
      rw [eF, eb, cont_bad hk2]
    · rw [errI_if, errI_nil] at hz
      have hk2 : (bk2 k.bs r).1.k = 0 := by simpa using hz
      have ez : errI (bk2 k.bs r).1.k = .nilIface := by rw [hk2]; rfl
      have good : (bk2 k.bs r).2 ≠ 3 → bk3 k.bs r = (bk2 k.bs r).1 ∧ 8 * (k.bs.length : Int) + 1 ≤ (bk2 k.bs r).1.i + f' ∧ mz k (bk2 k.bs r).1 + 3 < B := fun h => by
        have e3 : bk3 k.bs r = (bk2 k.bs r).1 := by unfold bk3 bd; rw [if_neg (fun e => h (by simpa using e.2))]
        have := bk3_lt (bs := k.bs) (r := r) (by rw [e3]; exact hk2)
        rw [e3] at this
        have hm := mz_le (k := k) (r := r) (rr := (bk2 k.bs r).1) (m := 3) (by omega) (ok2 hk2).2
        exact ⟨e3, by push_cast at hf; omega, by omega⟩
      refine ⟨fun h0 => ?_, fun h0 => ⟨fun h1' => ?_, fun h1' => ⟨fun h2' => ?_, fun h2' => ?_⟩⟩⟩
      · have h0 : (bk2 k.bs r).2 = 0 := beq_iff_eq.1 h0
        obtain ⟨e3, hf2, hm2⟩ := good (by omega)
        refine ⟨fnV k F_impl_machine__stored, (bk2 k.bs r).1, al, hb, _, l, d, by rw [ez]; rfl, sb, H3, ok2, fun h => absurd hk2 h, fun _ => ⟨_, hm2, f', hf2, .inr (.inl ⟨rfl, rfl, ?_⟩)⟩⟩
        rw [eF]; congr 1; unfold blk; rw [e3, if_neg (show ¬ (bk2 k.bs r).1.k ≠ 0 from fun h => h hk2), if_pos h0]
      · have h0 : (bk2 k.bs r).2 ≠ 0 := by simpa using h0
        have h1' : (bk2 k.bs r).2 = 1 := beq_iff_eq.1 h1'
        obtain ⟨e3, hf2, hm2⟩ := good (by omega)
        refine ⟨fnV k F_impl_machine__fixed, (bk2 k.bs r).1, al, hb, _, l, d, by rw [ez]; rfl, sb, H3, ok2, fun h => absurd hk2 h, fun _ => ⟨_, hm2, f', hf2, .inr (.inr (.inl ⟨rfl, rfl, ?_⟩))⟩⟩
        rw [eF]; congr 1; unfold blk; rw [e3, if_neg (show ¬ (bk2 k.bs r).1.k ≠ 0 from fun h => h hk2), if_neg h0, if_pos h1']
      · have h0 : (bk2 k.bs r).2 ≠ 0 := by simpa using h0
        have h1' : (bk2 k.bs r).2 ≠ 1 := by simpa using h1'
        have h2' : (bk2 k.bs r).2 = 2 := beq_iff_eq.1 h2'
        obtain ⟨e3, hf2, hm2⟩ := good (by omega)
        refine ⟨fnV k F_impl_machine__dynamic, (bk2 k.bs r).1, al, hb, _, l, d, by rw [ez]; rfl, sb, H3, ok2, fun h => absurd hk2 h, fun _ => ⟨_, hm2, f', hf2, .inr (.inr (.inr (.inl ⟨rfl, rfl, ?_⟩)))⟩⟩
        rw [eF]; congr 1; unfold blk; rw [e3, if_neg (show ¬ (bk2 k.bs r).1.k ≠ 0 from fun h => h hk2), if_neg h0, if_neg h1']
      · have h0 : (bk2 k.bs r).2 ≠ 0 := by simpa using h0
        have h1' : (bk2 k.bs r).2 ≠ 1 := by simpa using h1'
        have h2' : (bk2 k.bs r).2 ≠ 2 := by simpa using h2'
        have e3 : bk3 k.bs r = ⟨(bk2 k.bs r).1.i, 3⟩ := by unfold bk3 bd; rw [if_pos ⟨hk2, by rw [show (bk2 k.bs r).2 = 3 by omega]; rfl⟩]
        refine ⟨3, ((G.sub sb).sub H3.sb).e3, .nilFunc, ⟨(bk2 k.bs r).1.i, 3⟩, al, hb, _, l, d, rfl, sb, H3.toErr (show (3 : Int) ≠ 0 by decide), fun h => (by cases h), fun _ => ⟨?_, .inl rfl⟩, fun h => (by cases h)⟩
        have eb : blk k.bs k.dl k.room k.sz F r al = (⟨(bk2 k.bs r).1.i, 3⟩, al) := by unfold blk; rw [e3, if_pos (show (3 : Int) ≠ 0 by decide)]
        rw [eF, eb, cont_bad (show (3 : Int) ≠ 0 by decide)]
end
end

section
variable {S : Shared} {h h0 hb : Eng.Heap}
section
variable {k : KC} {r : Rd} {al : List Int} {last : Bool} {l d : Value} {F : Nat} {Fin : Rd × List Int}

theorem k_align (hi : Eng.Inv S hb) (L : k.bs.length ≤ 1048576) (H : IM hb h k r al last l d) (hk : r.k = 0) :
    CallsH Tryd.prog S F_impl_machine__align #[.pointer (some ⟨k.bm, 0, none⟩)] h (fun v h' => v = .tuple #[] ∧ IM hb h' k (alg r) al last l d) := by
  refine run_impl_machine__align (vs := [.pointer (some ⟨k.bm, 0, none⟩)]) ⟨rfl, trivial⟩ (hi.sub H.sb) ?_
  simp only [t_impl_machine__align, Tr.wp, mksW, callW, Ex.ev, coerce, toInt_int, toBool_bool, slL_sl, slC_sl, slA_sl, toAddr_ptr, ptrOf_ptr, isNil_sl, isNil_ptr, it_and, it_or, it_int, optN_int, optN_nl, cmpI, arith, Cst.val, SV.den, resShs, resV, resSV, resVals, newVars, runCells, exSh, allSh, cellsAre, storeW, List.flatMap_cons, List.flatMap_nil, List.replicate_one, List.getD_cons_zero, List.getD_cons_succ, List.getElem?_cons_zero, List.getElem?_cons_succ, decide_eq_true_eq, decide_eq_false_iff_not, List.map_cons, List.map_nil, List.cons_append, List.nil_append, List.append_nil, List.length_cons, List.length_nil, Nat.zero_add, Nat.add_zero, and_true, true_and, if_true, if_false, Bool.false_eq_true, addr_add]
  obtain ⟨p, ao, co, hp, hr, hbm, P, N⟩ := H.mt
  obtain ⟨_, g1, _⟩ := mach_ld hbm
  have hsb : ¬ S k.bm := fun hs => hi k.bm hs H.nm
  have w : IntKind.i64.wrap (IntKind.i64.wrap ((IntKind.i64.wrap ((p : Int) + 7)).tdiv 8) * 8) = (((p + 7) / 8 * 8 : Nat) : Int) := by
    rw [i64_in ((p : Int) + 7) (by omega), Int.tdiv_eq_ediv_of_nonneg (by omega), i64_in (((p : Int) + 7) / 8) (by omega), i64_in _ (by omega)]; omega
  refine ⟨by simp, p, g1, by simp, mach_ok hbm hsb g1, ?_⟩
  rw [w, mach_set1 hbm]
  have ea : alg r = ⟨(r.i + 7) / 8 * 8, 0⟩ := if_pos hk
  exact H.mset (r' := alg r) (p := (p + 7) / 8 * 8) (by omega) (fun _ => by rw [ea]; have := hr hk; simp only; omega) P N

theorem IM.sub {h' : Eng.Heap} (H : IM hb h k r al last l d) (s : Eng.Sub h h') : IM hb h' k r al last l d := by
  obtain ⟨p, ao, co, hp, hr, hbm, P, N⟩ := H.mt
  exact ⟨⟨p, ao, co, hp, hr, s _ _ hbm, P.sub s, N⟩, H.rg.mono s, H.nm, H.ne, H.sb.trans s, H.le⟩
/-- A block of a new heap's own lies apart from what the machine holds. -/
theorem IM.fresh (H : IM hb h k r al last l d) {b : Nat} (hbn : h b = none) {o : Obj} {n c : Nat} : ∀ z, blkOf (.slice (some ⟨b, 0, none⟩) n c) = some z → z ≠ k.bm ∧ z ≠ k.bw ∧ (∀ p ao co, upd h b o k.bm = some (machO k.a k.c k.bs p (mcOf k al (.slice ao (al.drop k.dl).length co) last l d) k.T) → blkOf (.slice ao (al.drop k.dl).length co) ≠ some z) := fun z hz => by
  obtain rfl : b = z := by simpa [blkOf] using hz
  obtain ⟨p, ao, co, hp, hr, hbm, P, N⟩ := H.mt
  obtain ⟨dd, at_, nn, hbw, _, _, _⟩ := H.rg
  have n1 : b ≠ k.bm := fun e => by rw [e, hbm] at hbn; cases hbn
  have n2 : b ≠ k.bw := fun e => by rw [e, hbw] at hbn; cases hbn
  refine ⟨n1, n2, fun p' ao' co' e hz => ?_⟩
  rw [upd_ne (Ne.symm n1), hbm] at e
  simp [machO, mcOf] at e
  obtain ⟨_, e1, e2⟩ := e
  subst e1
  subst e2
  exact tB.Oheld P (show tB.B _ b from hz) hbn

theorem stL_end {bs : List Int} {dl room n : Nat} {r : Rd} {al : List Int} (h : r.k ≠ 0) : stL bs dl room n r al = (r, al) := by
  cases n with
  | zero => rfl
  | succ n => rw [stL, if_neg h]
theorem tell_bad {dl room : Nat} {r : Rd} {al ys : List Int} (h : r.k ≠ 0) : tell dl room r al ys = (r, al) := by unfold tell; rw [if_neg h]

set_option maxRecDepth 100000 in
set_option maxHeartbeats 2000000 in
theorem k_stored (hi : Eng.Inv S h0) (G : ErrL h0) (hro : k.room ≤ 200000) (hdl : k.dl ≤ 40000) (hx : HInts h0 .u8 k.a k.bs) (L : k.bs.length ≤ 1048576) (sb : Eng.Sub h0 hb) (H : IM hb h k r al last l d) (hk : r.k = 0) (ok : okR k.bs r) (f : Nat) (hf : 8 * (k.bs.length : Int) + 1 ≤ r.i + f) {B : Nat} (hB : mz k r + 3 ≤ B) (hF : Fin = cont k F f last (stF k.bs k.dl k.room r al)) :
    CallsH Tryd.prog S F_impl_machine__stored #[.pointer (some ⟨k.bm, 0, none⟩)] h (PostS h0 k F Fin B) := by
  refine run_impl_machine__stored (vs := [.pointer (some ⟨k.bm, 0, none⟩)]) ⟨rfl, trivial⟩ (hi.sub (sb.trans H.sb)) ?_
  simp only [t_impl_machine__stored, Tr.wp, mksW, callW, Ex.ev, coerce, toInt_int, toBool_bool, slL_sl, slC_sl, slA_sl, toAddr_ptr, ptrOf_ptr, isNil_sl, isNil_ptr, it_and, it_or, it_int, optN_int, optN_nl, cmpI, arith, Cst.val, SV.den, resShs, resV, resSV, resVals, newVars, runCells, exSh, allSh, cellsAre, storeW, List.flatMap_cons, List.flatMap_nil, List.replicate_one, List.getD_cons_zero, List.getD_cons_succ, List.getElem?_cons_zero, List.getElem?_cons_succ, decide_eq_true_eq, decide_eq_false_iff_not, List.map_cons, List.map_nil, List.cons_append, List.nil_append, List.append_nil, List.length_cons, List.length_nil, Nat.zero_add, Nat.add_zero, and_true, true_and, if_true, if_false, Bool.false_eq_true, addr_add]
  have hib := hi.sub sb
  have Gb := G.sub sb
  have hxb := hx.sub sb
  have ok0 := alg_ok ok
  have hk0 : (alg r).k = 0 := by unfold alg; rw [if_pos hk]
  have n16 := tk_num (bs := k.bs) (n := 16) (r := alg r)
  have q16 : (2 : Int) ^ 16 = 65536 := by decide
  refine CallsH.mono (k_align hib L H hk) ?_
  rintro _ h1 ⟨rfl, H1⟩
  refine ⟨rfl, ?_⟩
  refine CallsH.mono (k_num2 hib Gb.es hxb L H1 hk0 16 (by omega)) ?_
  rintro _ h2 ⟨rfl, H2⟩
  have ok1 : okR k.bs (tk k.bs 16 (alg r)).1 := tk_ok ok0
  refine ⟨_, errI (tk k.bs 16 (alg r)).1.k, errI_if, by rw [errI_if], fun hz => ?_, fun hz => ?_⟩
  · rw [errI_if, errI_nil] at hz
    have hk1 : (tk k.bs 16 (alg r)).1.k ≠ 0 := by simpa using hz
    refine ⟨.nilFunc, _, al, hb, last, l, d, by rw [errI_if], sb, H2, ok1, fun _ => ⟨?_, .inl rfl⟩, fun h => absurd h hk1⟩
    have e2 : stR k.bs r = (tk k.bs 16 (alg r)).1 := by unfold stR; rw [tk_bad hk1]; exact bd_bad hk1
    have es : stF k.bs k.dl k.room r al = ((tk k.bs 16 (alg r)).1, al) := by unfold stF; rw [e2, stL_end hk1]
    rw [hF, es, cont_bad hk1]
  rw [errI_if, errI_nil] at hz
  have hk1 : (tk k.bs 16 (alg r)).1.k = 0 := by simpa using hz
  refine CallsH.mono (k_num2 hib Gb.es hxb L H2 hk1 16 (by omega)) ?_
  rintro _ h3 ⟨rfl, H3⟩
  have ok2 : okR k.bs (tk k.bs 16 (tk k.bs 16 (alg r)).1).1 := tk_ok ok1
  refine ⟨_, errI (tk k.bs 16 (tk k.bs 16 (alg r)).1).1.k, errI_if, by rw [errI_if], fun hz => ?_, fun hz => ?_⟩
  · rw [errI_if, errI_nil] at hz
    have hk2 : (tk k.bs 16 (tk k.bs 16 (alg r)).1).1.k ≠ 0 := by simpa using hz
    refine ⟨.nilFunc, _, al, hb, last, l, d, by rw [errI_if], sb, H3, ok2, fun _ => ⟨?_, .inl rfl⟩, fun h => absurd h hk2⟩
    have e2 : stR k.bs r = (tk k.bs 16 (tk k.bs 16 (alg r)).1).1 := bd_bad hk2
    have es : stF k.bs k.dl k.room r al = ((tk k.bs 16 (tk k.bs 16 (alg r)).1).1, al) := by unfold stF; rw [e2, stL_end hk2]
    rw [hF, es, cont_bad hk2]
  rw [errI_if, errI_nil] at hz
  have hk2 : (tk k.bs 16 (tk k.bs 16 (alg r)).1).1.k = 0 := by simpa using hz
  have w1 : IntKind.i64.wrap (65535 - (tk k.bs 16 (alg r)).2) = 65535 - (tk k.bs 16 (alg r)).2 := i64_in _ (by omega)
  rw [w1]
  have eR : stR k.bs r = bd ((tk k.bs 16 (tk k.bs 16 (alg r)).1).2 != 65535 - (tk k.bs 16 (alg r)).2) (tk k.bs 16 (tk k.bs 16 (alg r)).1).1 := rfl
  refine ⟨fun hne => ?_, fun heq => ?_⟩
  · have e3 : stR k.bs r = ⟨(tk k.bs 16 (tk k.bs 16 (alg r)).1).1.i, 3⟩ := by rw [eR]; unfold bd; rw [if_pos ⟨hk2, hne⟩]
    have es : stF k.bs k.dl k.room r al = (⟨(tk k.bs 16 (tk k.bs 16 (alg r)).1).1.i, 3⟩, al) := by unfold stF; rw [e3, stL_end (show (3 : Int) ≠ 0 by decide)]
    refine ⟨3, (Gb.sub H3.sb).es.e3, .nilFunc, ⟨(tk k.bs 16 (tk k.bs 16 (alg r)).1).1.i, 3⟩, al, hb, last, l, d, rfl, sb, H3.toErr (show (3 : Int) ≠ 0 by decide), fun h => (by cases h), fun _ => ⟨?_, .inl rfl⟩, fun h => (by cases h)⟩
    rw [hF, es, cont_bad (show (3 : Int) ≠ 0 by decide)]
  have e3 : stR k.bs r = (tk k.bs 16 (tk k.bs 16 (alg r)).1).1 := by rw [eR]; unfold bd; rw [if_neg (fun h => by rw [heq] at h; cases h.2)]
  have hR : le2 r (stR k.bs r) := ((alg_le.trans tk_le).trans tk_le).trans bd_le
  obtain ⟨n, hn⟩ : ∃ n : Nat, n = (stN k.bs r).toNat := ⟨_, rfl⟩
  have en : (tk k.bs 16 (alg r)).2 = (n : Int) := by rw [hn]; unfold stN; omega
  have hnl : n < 65536 := by omega
  rw [← e3] at H3 ok2 hk2
  rw [en]
  have eSt : stF k.bs k.dl k.room r al = stL k.bs k.dl k.room n (stR k.bs r) al := by unfold stF; rw [hn]
  refine ⟨fun us h' => ∃ (j : Nat) (r' : Rd) (al' : List Int), us = [.int .i64 j] ∧ j ≤ n ∧ r'.k = 0 ∧ okR k.bs r' ∧ IM hb h' k r' al' last l d ∧ le2 r r' ∧ stF k.bs k.dl k.room r al = stL k.bs k.dl k.room (n - j) r' al', fun us _ => n - (toInt (us.getD 0 undef)).toNat, ⟨0, stR k.bs r, al, rfl, by omega, hk2, ok2, H3, hR, eSt⟩, ?_⟩
  rintro y h' ⟨j, r', al', hx1, hj, hk', ok', H', hle', e'⟩
  simp only [List.cons.injEq, Value.int.injEq, true_and, and_true] at hx1
  subst hx1
  refine ⟨fun hlt => ?_, fun hge => ?_⟩
  · have hlt : j < n := by omega
    have n8 := tk_num (bs := k.bs) (n := 8) (r := r')
    have q8 : (2 : Int) ^ 8 = 256 := by decide
    have el : stF k.bs k.dl k.room r al = stL k.bs k.dl k.room (n - (j + 1)) (tell k.dl k.room (tk k.bs 8 r').1 al' [(tk k.bs 8 r').2]).1 (tell k.dl k.room (tk k.bs 8 r').1 al' [(tk k.bs 8 r').2]).2 := by
      rw [e', show n - j = (n - (j + 1)) + 1 by omega, stL, if_pos hk']
    refine CallsH.mono (k_num2 hib Gb.es hxb L H' hk' 8 (by omega)) ?_
    rintro _ h4 ⟨rfl, H4⟩
    have ok4 : okR k.bs (tk k.bs 8 r').1 := tk_ok ok'
    refine ⟨_, errI (tk k.bs 8 r').1.k, errI_if, by rw [errI_if], fun hz => ?_, fun hz b hbn => ?_⟩
    · rw [errI_if, errI_nil] at hz
      have hk4 : (tk k.bs 8 r').1.k ≠ 0 := by simpa using hz
      refine ⟨.nilFunc, _, al', hb, last, l, d, by rw [errI_if], sb, H4, ok4, fun _ => ⟨?_, .inl rfl⟩, fun h => absurd h hk4⟩
      rw [hF, el, tell_bad hk4, stL_end hk4, cont_bad hk4]
    · rw [errI_if, errI_nil] at hz
      have hk4 : (tk k.bs 8 r').1.k = 0 := by simpa using hz
      have wb : IntKind.u8.wrap (tk k.bs 8 r').2 = (tk k.bs 8 r').2 := by rw [IntKind.wrap_u8]; omega
      rw [wb]
      have H5 := H4.sub (Sub.of_upd (o := .cells (ints .u8 [(tk k.bs 8 r').2]) 5) hbn)
      refine CallsH.mono (k_tell hib Gb hro hdl H5 hk4 (ad := some ⟨b, 0, none⟩) (cd := 1) (ys := [(tk k.bs 8 r').2]) HInts.new (by simp) (by simp) (H4.fresh hbn)) ?_
      rintro _ h6 ⟨rfl, H6⟩
      refine ⟨errI (tell k.dl k.room (tk k.bs 8 r').1 al' [(tk k.bs 8 r').2]).1.k, errI_if, by rw [errI_if], fun hz => ?_, fun hz => ?_⟩
      · rw [errI_if, errI_nil] at hz
        have hk6 : (tell k.dl k.room (tk k.bs 8 r').1 al' [(tk k.bs 8 r').2]).1.k ≠ 0 := by simpa using hz
        refine ⟨.nilFunc, _, _, hb, last, l, d, by rw [errI_if], sb, H6, tell_ok ok4, fun _ => ⟨?_, .inl rfl⟩, fun h => absurd h hk6⟩
        rw [hF, el, stL_end hk6, cont_bad hk6]
      · rw [errI_if, errI_nil] at hz
        have hk6 : (tell k.dl k.room (tk k.bs 8 r').1 al' [(tk k.bs 8 r').2]).1.k = 0 := by simpa using hz
        have wj : IntKind.i64.wrap ((j : Int) + 1) = ((j + 1 : Nat) : Int) := by rw [i64_in _ (by omega)]; omega
        rw [wj]
        exact ⟨⟨j + 1, _, _, rfl, by omega, hk6, tell_ok ok4, H6, (hle'.trans tk_le).trans tell_le, el⟩, by simp only [List.getD_cons_zero, toInt_int, Int.toNat_natCast]; omega⟩
  · obtain rfl : j = n := by omega
    have ez : errI r'.k = .nilIface := by rw [hk']; rfl
    refine ⟨fnV k F_impl_machine__behind, r', al', hb, last, l, d, by rw [ez]; rfl, sb, H', ok', fun h => absurd hk' h, fun _ => ⟨_, (by have hm := mz_le (k := k) (r := r) (rr := r') (m := 0) (by have := (hle' hk').2; omega) (ok' hk').2; omega : mz k r' + 1 < B), f, by have := (hle' hk').2; omega, .inr (.inr (.inr (.inr (.inr (.inl ⟨rfl, rfl, ?_⟩)))))⟩⟩
    rw [hF, e', Nat.sub_self]; rfl
end
end

section
variable {S : Shared} {h h0 hb : Eng.Heap}

/-- A heap without some blocks. -/
def wo (h : Eng.Heap) (ls : List Nat) : Eng.Heap := fun b => if b ∈ ls then none else h b
theorem wo_le {ls : List Nat} : Eng.Sub (wo h ls) h := fun b o e => by
  unfold wo at e
  split at e
  · cases e
  · exact e
theorem wo_of {g : Eng.Heap} {ls : List Nat} (s : Eng.Sub g h) (hn : ∀ b ∈ ls, g b = none) : Eng.Sub g (wo h ls) := fun b o e => by
  unfold wo
  rw [if_neg (fun hb => by rw [hn b hb] at e; cases e)]
  exact s b o e
theorem wo_in {ls : List Nat} {b : Nat} (hb : b ∈ ls) : wo h ls b = none := if_pos hb
theorem wo_out {ls : List Nat} {b : Nat} (hb : b ∉ ls) : wo h ls b = h b := if_neg hb

theorem TabV.up {g1 g2 g3 : Eng.Heap} {b : Nat} {T P : List (Nat × Nat)} {a : Option Addr} {c : Nat} {E : Nat → Nat → Prop} {Y : Nat → Nat → Nat} (H : TabV g1 g2 b T P a c E Y) {g0 : Eng.Heap} (hn : ∀ z, g1 z = none → g0 z = none) (hs : ∀ z, z = b ∨ blkOf (.slice a T.length c) = some z → g3 z = g2 z) (s : Eng.Sub g0 g3) : TabV g0 g3 b T P a c E Y :=
  ⟨by obtain ⟨TY, hb⟩ := H.hb; exact ⟨TY, (hs b (.inl rfl)).trans hb⟩, H.ow.keep fun z hz => hs z (.inr hz), fun z hz => hn z (H.nw z hz), hn b H.nb, H.ne, H.ti, s⟩
theorem TabV.keepS {g1 g2 g3 : Eng.Heap} {b : Nat} {T P : List (Nat × Nat)} {a : Option Addr} {c : Nat} {E : Nat → Nat → Prop} {Y : Nat → Nat → Nat} (H : TabV g1 g2 b T P a c E Y) (s : Eng.Sub g2 g3) : TabV g1 g3 b T P a c E Y := by
  refine H.up (fun _ h => h) (fun z hz => ?_) (H.sb.trans s)
  rcases hz with rfl | hz
  · obtain ⟨TY, hb⟩ := H.hb
    rw [hb]; exact s _ _ hb
  · have := H.ow.held z hz
    cases e : g2 z with
    | none => exact absurd e this
    | some o => exact s _ _ e

theorem mach_ld2 {bm : Nat} {a : Option Addr} {c : Nat} {bs : List Int} {m : MC} {T : TypeId} {p : Int} {v w : Value} (hb : h bm = some (machO a c bs p m T)) : hset (hset h ⟨bm, 6, none⟩ v) ⟨bm, 7, none⟩ w = upd h bm (machO a c bs p ⟨m.w, m.out, m.rm, m.last, v, w⟩ T) := by
  rw [hset_cells' hb]
  have hb2 : upd h bm (.cells (#[.slice a bs.length c, .int .i64 p, m.w, m.out, .int .i64 m.rm, .bool m.last, m.l, m.d].setIfInBounds 6 v) T) bm = some (machO a c bs p ⟨m.w, m.out, m.rm, m.last, v, m.d⟩ T) := by rw [upd_same]; rfl
  rw [hset_cells' hb2, upd_upd]; rfl

section
variable {k : KC} {r : Rd} {al : List Int} {last : Bool} {l d : Value} {F : Nat} {Fin : Rd × List Int}
/-- New tables are put: the base goes on to the heap that holds them. -/
theorem IM.retab {h2 : Eng.Heap} (H : IM hb h k r al last l d) (sb : Eng.Sub h0 hb) (s12 : Eng.Sub h h2) {cl cd : List (Nat × Nat)} {b1 b2 : Nat} {T1 P1 T2 P2 : List (Nat × Nat)} {a1 a2 : Option Addr} {c1 c2 : Nat}
    (V1 : TabV h h2 b1 T1 P1 a1 c1 (Em cl cl.length) (Ym cl cl.length)) (V2 : TabV h h2 b2 T2 P2 a2 c2 (Em cd cd.length) (Ym cd cd.length)) (t1 : T1.length ≤ 20000) (t2 : T2.length ≤ 20000) (m1 : ∀ c ∈ cl, c.1 ≤ 15) (m2 : ∀ c ∈ cd, c.1 ≤ 15) (l1 : cl.length ≤ 1000) (l2 : cd.length ≤ 1000) :
    ∃ hb2, Eng.Sub h0 hb2 ∧ IM hb2 (hset (hset h2 ⟨k.bm, 6, none⟩ (.pointer (some ⟨b1, 0, none⟩))) ⟨k.bm, 7, none⟩ (.pointer (some ⟨b2, 0, none⟩))) k r al last (.pointer (some ⟨b1, 0, none⟩)) (.pointer (some ⟨b2, 0, none⟩)) ∧ TabsAt h0 hb2 (.pointer (some ⟨b1, 0, none⟩)) (.pointer (some ⟨b2, 0, none⟩)) cl cd := by
  obtain ⟨p, ao, co, hp, hr, hbm, P, N⟩ := H.mt
  obtain ⟨dd, at_, nn, hbw, R, sR, hnw⟩ := H.rg
  have hbm2 := s12 _ _ hbm
  rw [mach_ld2 hbm2]
  obtain ⟨h3, hh3⟩ : ∃ h3, h3 = upd h2 k.bm (machO k.a k.c k.bs p ⟨(mcOf k al (.slice ao (al.drop k.dl).length co) last l d).w, (mcOf k al (.slice ao (al.drop k.dl).length co) last l d).out, (mcOf k al (.slice ao (al.drop k.dl).length co) last l d).rm, (mcOf k al (.slice ao (al.drop k.dl).length co) last l d).last, .pointer (some ⟨b1, 0, none⟩), .pointer (some ⟨b2, 0, none⟩)⟩ k.T) := ⟨_, rfl⟩
  rw [← hh3]
  obtain ⟨ls, hls⟩ : ∃ ls, ls = [k.bm, k.bw] ++ (blkOf (.slice ao (al.drop k.dl).length co)).toList := ⟨_, rfl⟩
  have mem : ∀ z, z ∈ ls ↔ z = k.bm ∨ z = k.bw ∨ blkOf (.slice ao (al.drop k.dl).length co) = some z := fun z => by
    rw [hls]
    cases blkOf (.slice ao (al.drop k.dl).length co) with
    | none => simp
    | some y => simp [eq_comm]
  have hbn : ∀ z ∈ ls, hb z = none := fun z hz => by
    rcases (mem z).1 hz with rfl | rfl | e
    · exact H.nm
    · exact hnw
    · exact (IM.out_ne N e).2.2
  have some1 : ∀ z ∈ ls, h z ≠ none := fun z hz => by
    rcases (mem z).1 hz with rfl | rfl | e
    · rw [hbm]; simp
    · rw [hbw]; simp
    · exact tB.Oheld P (show tB.B _ z from e)
  have h32 : ∀ z, z ≠ k.bm → h3 z = h2 z := fun z hz => by rw [hh3]; exact upd_ne hz
  have s3 : Eng.Sub hb h3 := by rw [hh3]; exact sub_upd_new (H.sb.trans s12) H.nm
  have sb2 : Eng.Sub hb (wo h3 ls) := wo_of s3 hbn
  have P2' : Part .u8 h3 (.slice ao (al.drop k.dl).length co) (al.drop k.dl) := (P.sub s12).keep fun z hz => h32 z (IM.out_ne N hz).1
  have tab : ∀ {b : Nat} {TT PP : List (Nat × Nat)} {aa : Option Addr} {cc : Nat} {E : Nat → Nat → Prop} {Y : Nat → Nat → Nat}, TabV h h2 b TT PP aa cc E Y → TabV h0 (wo h3 ls) b TT PP aa cc E Y := fun V => by
    refine V.up (fun z hz => sub_none (sb.trans H.sb) hz) (fun z hz => ?_) (sb.trans sb2)
    have hzn : h z = none := by
      rcases hz with rfl | hz
      · exact V.nb
      · exact V.nw z hz
    have hzl : z ∉ ls := fun hm => some1 z hm hzn
    rw [wo_out hzl]
    exact h32 z (fun e => hzl ((mem z).2 (.inl e)))
  refine ⟨wo h3 ls, sb.trans sb2, ⟨⟨p, ao, co, hp, hr, by rw [hh3, upd_same]; rfl, P2', fun z hz => mkL_none.2 ⟨?_, wo_in ((mem z).2 (.inr (.inr hz)))⟩⟩, ⟨dd, at_, nn, (h32 k.bw (Ne.symm H.ne)).trans (s12 _ _ hbw), R, wo_le, wo_in ((mem _).2 (.inr (.inl rfl)))⟩, wo_in ((mem _).2 (.inl rfl)), H.ne, wo_le, H.le⟩, b1, b2, T1, P1, T2, P2, a1, a2, c1, c2, rfl, rfl, tab V1, tab V2, t1, t2, m1, m2, l1, l2⟩
  have := IM.out_ne N hz
  simp [this.1, this.2.1]
end
end

section
variable {S : Shared} {h h0 hb : Eng.Heap}
theorem mach_ok7 {bm : Nat} {a : Option Addr} {c : Nat} {bs : List Int} {m : MC} {T : TypeId} {p : Int} {v : Value} (hb : h bm = some (machO a c bs p m T)) (hs : ¬ S bm) : okCell S (hset h ⟨bm, 6, none⟩ v) ⟨bm, 7, none⟩ := by
  rw [hset_cells' hb]
  have e : upd h bm (.cells (#[.slice a bs.length c, .int .i64 p, m.w, m.out, .int .i64 m.rm, .bool m.last, m.l, m.d].setIfInBounds 6 v) T) bm = some (machO a c bs p ⟨m.w, m.out, m.rm, m.last, v, m.d⟩ T) := by rw [upd_same]; rfl
  obtain ⟨_, _, _, _, _, _, _, g⟩ := mach_ld e
  exact mach_ok e hs g
theorem codesN_15' {xs : List Int} (hg : ¬ (hkind xs = 0 ∨ hkind xs = 2)) : ∀ c ∈ codesN xs, c.1 ≤ 15 := codesN_15 (hkind_ok hg).2

section
variable {k : KC} {r : Rd} {al : List Int} {last : Bool} {l d : Value} {F : Nat} {Fin : Rd × List Int}
set_option maxRecDepth 100000 in
set_option maxHeartbeats 2000000 in
theorem k_fixed (hi : Eng.Inv S h0) (L : k.bs.length ≤ 1048576) (sb : Eng.Sub h0 hb) (H : IM hb h k r al last l d) (hk : r.k = 0) (ok : okR k.bs r) (hFl : 8 * k.bs.length + 1 ≤ F) (f : Nat) (hf : 8 * (k.bs.length : Int) + 1 ≤ r.i + f) {B : Nat} (hB : mz k r + 3 ≤ B) (hF : Fin = cont k F f last (syF k.bs (codesN fixL) (codesN fixD) k.dl k.room k.sz F r al)) :
    CallsH Tryd.prog S F_impl_machine__fixed #[.pointer (some ⟨k.bm, 0, none⟩)] h (PostS h0 k F Fin B) := by
  refine run_impl_machine__fixed (vs := [.pointer (some ⟨k.bm, 0, none⟩)]) ⟨rfl, trivial⟩ (hi.sub (sb.trans H.sb)) ?_
  simp only [t_impl_machine__fixed, Tr.wp, mksW, callW, Ex.ev, coerce, toInt_int, toBool_bool, slL_sl, slC_sl, slA_sl, toAddr_ptr, ptrOf_ptr, isNil_sl, isNil_ptr, it_and, it_or, it_int, optN_int, optN_nl, cmpI, arith, Cst.val, SV.den, resShs, resV, resSV, resVals, newVars, runCells, exSh, allSh, cellsAre, storeW, List.flatMap_cons, List.flatMap_nil, List.replicate_one, List.getD_cons_zero, List.getD_cons_succ, List.getElem?_cons_zero, List.getElem?_cons_succ, decide_eq_true_eq, decide_eq_false_iff_not, List.map_cons, List.map_nil, List.cons_append, List.nil_append, List.append_nil, List.length_cons, List.length_nil, Nat.zero_add, Nat.add_zero, and_true, true_and, if_true, if_false, Bool.false_eq_true, addr_add]
  have his := hi.sub (sb.trans H.sb)
  have hsb : ¬ S k.bm := fun hs => hi.sub sb k.bm hs H.nm
  have hpos := ok hk
  refine CallsH.mono (k_fixedLens his) ?_
  rintro _ h1 ⟨a1, c1, a2, c2, rfl, P1, P2, N1, N2, s1⟩
  refine ⟨_, _, _, _, _, _, rfl, ?_⟩
  have e288 : (288 : Nat) = fixL.length := fixL_len.symm
  have K1 := k_tableOf (S := S) (his.sub s1) a1 c1 fixL (by rw [fixL_len]; exact P1) fixL_lim fixL_good
  rw [fixL_len] at K1
  refine CallsH.mono K1 ?_
  rintro _ h2 ⟨b1, T1, Q1, d1, e1, rfl, V1, t1⟩
  refine ⟨_, rfl, ?_⟩
  have s2 := V1.sb
  have K2 := k_tableOf (S := S) (his.sub (s1.trans s2)) a2 c2 fixD (by rw [show fixD.length = 32 by simp [fixD]]; exact P2.sub s2) (by show fixD.length ≤ 1048576; simp [fixD]) (by rw [fixD_kind]; decide)
  rw [show fixD.length = 32 by simp [fixD]] at K2
  refine CallsH.mono K2 ?_
  rintro _ h3 ⟨b2, T2, Q2, d2, e2, rfl, V2, t2⟩
  refine ⟨_, rfl, ?_⟩
  have s3 := V2.sb
  have s13 := s1.trans (s2.trans s3)
  obtain ⟨p, ao, co, hp, hr, hbm, P, N⟩ := H.mt
  have hbm3 := s13 _ _ hbm
  obtain ⟨_, _, _, _, _, _, g6, _⟩ := mach_ld hbm3
  have le1 : (codesN fixL).length = 288 := by rw [codesN_len, fixL_len]
  have le2' : (codesN fixD).length = 32 := by rw [codesN_len]; simp [fixD]
  rw [← le1] at V1
  rw [← le2'] at V2
  have W1 : TabV h h3 b1 T1 Q1 d1 e1 (Em (codesN fixL) (codesN fixL).length) (Ym (codesN fixL) (codesN fixL).length) := (V1.keepS s3).up (fun z hz => sub_none s1 hz) (fun _ _ => rfl) s13
  have W2 : TabV h h3 b2 T2 Q2 d2 e2 (Em (codesN fixD) (codesN fixD).length) (Ym (codesN fixD) (codesN fixD).length) := V2.up (fun z hz => sub_none (s1.trans s2) hz) (fun _ _ => rfl) s13
  obtain ⟨hb2, sb2, H4, TA⟩ := H.retab sb s13 W1 W2 t1 t2 (codesN_15' fixL_good) (codesN_15' (by rw [fixD_kind]; decide)) (by omega) (by omega)
  have ez : errI r.k = .nilIface := by rw [hk]; rfl
  refine ⟨by simp, mach_ok hbm3 hsb g6, by simp, mach_ok7 hbm3 hsb, ?_⟩
  refine ⟨fnV k F_impl_machine__symbols, r, al, hb2, last, _, _, by rw [ez]; rfl, sb2, H4, ok, fun h => absurd hk h, fun _ => ⟨_, (by omega : mz k r + 2 < B), f, hf, .inr (.inr (.inr (.inr (.inl ⟨rfl, rfl, _, _, F, TA, by omega, hF⟩))))⟩⟩

set_option maxRecDepth 100000 in
set_option maxHeartbeats 2000000 in
theorem k_dynamic (hi : Eng.Inv S h0) (G : Errs h0) (hx : HInts h0 .u8 k.a k.bs) (L : k.bs.length ≤ 1048576) (sb : Eng.Sub h0 hb) (H : IM hb h k r al last l d) (hk : r.k = 0) (ok : okR k.bs r) (hFl : 8 * k.bs.length + 1 ≤ F) (f : Nat) (hf : 8 * (k.bs.length : Int) + 1 ≤ r.i + f) {B : Nat} (hB : mz k r + 3 ≤ B)
    (hF : Fin = cont k F f last (if (lensF k.bs r).1.k ≠ 0 then ((lensF k.bs r).1, al) else syF k.bs (codesN (lensF k.bs r).2.1) (codesN (lensF k.bs r).2.2) k.dl k.room k.sz F (lensF k.bs r).1 al)) :
    CallsH Tryd.prog S F_impl_machine__dynamic #[.pointer (some ⟨k.bm, 0, none⟩)] h (PostS h0 k F Fin B) := by
  refine run_impl_machine__dynamic (vs := [.pointer (some ⟨k.bm, 0, none⟩)]) ⟨rfl, trivial⟩ (hi.sub (sb.trans H.sb)) ?_
  simp only [t_impl_machine__dynamic, Tr.wp, mksW, callW, Ex.ev, coerce, toInt_int, toBool_bool, slL_sl, slC_sl, slA_sl, toAddr_ptr, ptrOf_ptr, isNil_sl, isNil_ptr, it_and, it_or, it_int, optN_int, optN_nl, cmpI, arith, Cst.val, SV.den, resShs, resV, resSV, resVals, newVars, runCells, exSh, allSh, cellsAre, storeW, List.flatMap_cons, List.flatMap_nil, List.replicate_one, List.getD_cons_zero, List.getD_cons_succ, List.getElem?_cons_zero, List.getElem?_cons_succ, decide_eq_true_eq, decide_eq_false_iff_not, List.map_cons, List.map_nil, List.cons_append, List.nil_append, List.append_nil, List.length_cons, List.length_nil, Nat.zero_add, Nat.add_zero, and_true, true_and, if_true, if_false, Bool.false_eq_true, addr_add]
  have hib := hi.sub sb
  have hsb : ¬ S k.bm := fun hs => hib k.bm hs H.nm
  have hpos := ok hk
  obtain ⟨p, ao, co, hp, hr, hbm, P, N⟩ := H.mt
  obtain ⟨dd, at_, nn, hbw, R, sR, hnw⟩ := H.rg
  obtain ⟨g, hg⟩ : ∃ g, g = wo h [k.bm] := ⟨_, rfl⟩
  have sbg : Eng.Sub hb g := hg ▸ wo_of H.sb (fun b hb' => by rw [List.mem_singleton.1 hb']; exact H.nm)
  have sgh : Eng.Sub g h := hg ▸ wo_le
  have gb : g k.bm = none := hg ▸ wo_in (List.mem_singleton.2 rfl)
  have gne : ∀ z, z ≠ k.bm → g z = h z := fun z hz => by rw [hg]; exact wo_out (fun hm => hz (List.mem_singleton.1 hm))
  have er : r = ⟨(p : Int), 0⟩ := by
    obtain ⟨i, kk⟩ := r
    obtain rfl : kk = 0 := hk
    rw [show i = (p : Int) from hr rfl]
  refine CallsH.mono (k_mlens (hib.sub sbg) ((G.sub sb).sub sbg) ((hx.sub sb).sub sbg) L p hp ⟨hbm, gb, sgh⟩) ?_
  rw [← er]
  have okF := lensF_okR ok
  have leF : le2 r (lensF k.bs r).1 := lensF_le
  have good := lensF_good (bs := k.bs) (r := r)
  obtain ⟨lenA, lenB⟩ := lensF_lens (bs := k.bs) (r := r)
  generalize lensF k.bs r = X at hF okF leF good lenA lenB ⊢
  rintro _ h1 ⟨u, w, rfl, ⟨p', hp', M1, hpi⟩, hP, ⟨a1, l1, c1, a2, l2, c2, rfl, rfl⟩⟩
  have sg1 := M1.sb
  have hkeep : ∀ z, z ≠ k.bm → h z ≠ none → h1 z = h z := fun z hz hn => by
    cases e : h z with
    | none => exact absurd e hn
    | some o => exact sg1 z o ((gne z hz).trans e)
  have H1 : IM hb h1 k X.1 al last l d := ⟨⟨p', ao, co, hp', hpi, M1.hb, P.keep fun z hz => hkeep z (IM.out_ne N hz).1 (tB.Oheld P (show tB.B _ z from hz)), N⟩, ⟨dd, at_, nn, (hkeep k.bw (Ne.symm H.ne) (by rw [hbw]; simp)).trans hbw, R, sbg.trans sg1, hnw⟩, H.nm, H.ne, sbg.trans sg1, H.le⟩
  refine ⟨_, _, _, _, _, _, errI X.1.k, errI_if, by rw [errI_if], fun hz => ?_, fun hz => ?_⟩
  · rw [errI_if, errI_nil] at hz
    have hk1 : X.1.k ≠ 0 := by simpa using hz
    refine ⟨.nilFunc, X.1, al, hb, last, l, d, by rw [errI_if], sb, H1, okF, fun _ => ⟨?_, .inl rfl⟩, fun h => absurd h hk1⟩
    rw [hF, if_pos hk1, cont_bad hk1]
  rw [errI_if, errI_nil] at hz
  have hk1 : X.1.k = 0 := by simpa using hz
  rw [if_neg (fun h => h hk1)] at hF
  obtain ⟨P1, P2, N1, N2⟩ := hP hk1
  obtain ⟨g1, g2⟩ := good hk1
  obtain ⟨_, _, ei, _, _⟩ := P1.ints
  cases ei
  obtain ⟨_, _, ei, _, _⟩ := P2.ints
  cases ei
  have his1 := hib.sub H1.sb
  refine CallsH.mono (k_tableOf (S := S) his1 a1 c1 X.2.1 P1 (Nat.le_trans lenA (by decide)) g1) ?_
  rintro _ h2 ⟨b1, T1, Q1, d1, e1, rfl, V1, t1⟩
  refine ⟨_, rfl, ?_⟩
  have s2 := V1.sb
  refine CallsH.mono (k_tableOf (S := S) (his1.sub s2) a2 c2 X.2.2 (P2.sub s2) (Nat.le_trans lenB (by decide)) g2) ?_
  rintro _ h3 ⟨b2, T2, Q2, d2, e2, rfl, V2, t2⟩
  refine ⟨_, rfl, ?_⟩
  have s3 := V2.sb
  have s13 := s2.trans s3
  have hbm3 := s13 _ _ M1.hb
  obtain ⟨_, _, _, _, _, _, g6, _⟩ := mach_ld hbm3
  rw [← codesN_len (xs := X.2.1)] at V1
  rw [← codesN_len (xs := X.2.2)] at V2
  have W1 := V1.keepS s3
  have W2 : TabV h1 h3 b2 T2 Q2 d2 e2 (Em (codesN X.2.2) (codesN X.2.2).length) (Ym (codesN X.2.2) (codesN X.2.2).length) := V2.up (fun z hz => sub_none s2 hz) (fun _ _ => rfl) s13
  obtain ⟨hb2, sb2, H4, TA⟩ := H1.retab sb s13 W1 W2 t1 t2 (codesN_15' g1) (codesN_15' g2) (by rw [codesN_len]; omega) (by rw [codesN_len]; omega)
  have ez : errI X.1.k = .nilIface := by rw [hk1]; rfl
  have hpos2 := okF hk1
  have hle := (leF hk1).2
  refine ⟨by simp, mach_ok hbm3 hsb g6, by simp, mach_ok7 hbm3 hsb, ?_⟩
  refine ⟨fnV k F_impl_machine__symbols, X.1, al, hb2, last, _, _, by rw [ez]; rfl, sb2, H4, okF, fun h => absurd hk1 h, fun _ => ⟨_, (by have hm := mz_le (k := k) (r := r) (rr := X.1) (m := 0) (by omega) hpos2.2; omega : mz k X.1 + 2 < B), f, by omega, .inr (.inr (.inr (.inr (.inl ⟨rfl, rfl, _, _, F, TA, by omega, hF⟩))))⟩⟩
end
end

section
variable {S : Shared} {h h0 hb : Eng.Heap}

theorem rep_all {D : Nat} {L : List Int} (h1 : 1 ≤ D) (h2 : D ≤ L.length) : ∀ n, repX D L n = L ++ cpD L D n
  | 0 => by simp [repX, cpD]
  | n + 1 => by
    have ih := rep_all h1 h2 n
    have hX : (L ++ cpD L D n).length = L.length + n := by rw [List.length_append, cpD_len]
    rw [repX, ih, hX, cpD_succ, ← List.append_assoc]
    congr 2
    by_cases hn : n < D
    · simp only [List.getD]
      rw [Nat.mod_eq_of_lt hn, List.getElem?_append_left (by omega), show L.length + n - D = L.length - D + n by omega]
    · simp only [List.getD]
      rw [List.getElem?_append_right (by omega), show L.length + n - D - L.length = n - D by omega]
      have hm : (n - D) % D = n % D := by rw [← Nat.add_mod_right (n - D) D, Nat.sub_add_cancel (by omega)]
      rw [← hm]
      simp [cpD, List.getD, show n - D < n by omega]
theorem cpD_last {D sz n : Nat} {al : List Int} (h1 : 1 ≤ D) (h2 : D ≤ (lastN sz al).length) : cpD (lastN sz al) D n = cpD al D n := by
  unfold cpD
  apply List.map_congr_left
  intro j _
  have hm : j % D < D := Nat.mod_lt _ (by omega)
  have hl := lastN_len (n := sz) (L := al)
  rw [hl]
  rw [hl] at h2
  unfold lastN
  simp only [List.getD, List.getElem?_drop]
  rw [show al.length - sz + (min al.length sz - D + j % D) = al.length - D + j % D by omega]

theorem len258 : ∀ s : Fin 286, 257 ≤ s.1 → (lenB s.1).1 + 2 ^ (lenB s.1).2 ≤ 259 := by decide +kernel

section
variable {k : KC} {r : Rd} {al : List Int} {last : Bool} {l d : Value} {F : Nat} {Fin : Rd × List Int}
/-- A symbol, by the machine that stands. -/
theorem k_sym2 (hi : Eng.Inv S h0) (G : Errs h0) (hx : HInts h0 .u8 k.a k.bs) (L : k.bs.length ≤ 1048576) (sb : Eng.Sub h0 hb) (H : IM hb h k r al last l d) (hk : r.k = 0) {bt : Nat} {TT PP : List (Nat × Nat)} {a2 : Option Addr} {c2 : Nat} {cs : List (Nat × Nat)} (TV : TabV h0 hb bt TT PP a2 c2 (Em cs cs.length) (Ym cs cs.length)) (hTl : TT.length ≤ 20000) (hM : ∀ c ∈ cs, c.1 ≤ 15) (hcl : cs.length ≤ 1000) :
    CallsH Tryd.prog S F_impl_machine__symbol #[.pointer (some ⟨k.bm, 0, none⟩), .pointer (some ⟨bt, 0, none⟩)] h (fun v h' => v = .tuple #[.int .i64 (sy k.bs cs r).2, errI (sy k.bs cs r).1.k] ∧ IM hb h' k (sy k.bs cs r).1 al last l d) := by
  obtain ⟨p, ao, co, hp, hr, hbm, P, N⟩ := H.mt
  obtain ⟨i, kk⟩ := r
  obtain rfl : kk = 0 := hk
  obtain rfl : i = (p : Int) := hr rfl
  refine CallsH.mono (k_msymbol hi G hx L p hp ⟨hbm, sub_none sb H.nm, sb.trans H.sb⟩ (TV.keepS H.sb) hTl hM (fun e => ?_) (fun e => ?_) (ymRoot _) hcl) ?_
  · obtain ⟨TY, hbb⟩ := TV.hb
    rw [e, H.nm] at hbb; cases hbb
  · exact TV.ow.held _ e H.nm
  rintro _ h1 ⟨rfl, p', hp', rfl, hpe⟩
  exact ⟨rfl, H.mset hp' (fun h => (hpe h).symm) P N⟩
theorem sy_bad {bs : List Int} {cs : List (Nat × Nat)} {r : Rd} (h : r.k ≠ 0) : sy bs cs r = (r, 0) := by unfold sy; rw [if_neg h]

set_option maxRecDepth 100000 in
set_option maxHeartbeats 4000000 in
theorem k_symbols (hi : Eng.Inv S h0) (G : ErrL h0) (hro : k.room ≤ 200000) (hdl : k.dl ≤ 40000) (hsz : 1 ≤ k.sz ∧ k.sz ≤ 32768) (hx : HInts h0 .u8 k.a k.bs) (L : k.bs.length ≤ 1048576) (sb : Eng.Sub h0 hb) (H : IM hb h k r al last l d) (hk : r.k = 0) (ok : okR k.bs r) (f : Nat) (hf : 8 * (k.bs.length : Int) + 1 ≤ r.i + f) {cl cd : List (Nat × Nat)} (f' : Nat) (hf' : 8 * (k.bs.length : Int) + 1 ≤ r.i + f') (TA : TabsAt h0 hb l d cl cd) {B : Nat} (hB : mz k r + 2 ≤ B)
    (hF : Fin = cont k F f last (syF k.bs cl cd k.dl k.room k.sz f' r al)) :
    CallsH Tryd.prog S F_impl_machine__symbols #[.pointer (some ⟨k.bm, 0, none⟩)] h (PostS h0 k F Fin B) := by
  refine run_impl_machine__symbols (vs := [.pointer (some ⟨k.bm, 0, none⟩)]) ⟨rfl, trivial⟩ (hi.sub (sb.trans H.sb)) ?_
  simp (maxSteps := 4000000) only [t_impl_machine__symbols, Tr.wp, mksW, callW, Ex.ev, coerce, toInt_int, toBool_bool, slL_sl, slC_sl, slA_sl, toAddr_ptr, ptrOf_ptr, isNil_sl, isNil_ptr, it_and, it_or, it_int, optN_int, optN_nl, cmpI, arith, Cst.val, SV.den, resShs, resV, resSV, resVals, newVars, runCells, exSh, allSh, cellsAre, List.flatMap_cons, List.flatMap_nil, List.replicate_one, List.getD_cons_zero, List.getD_cons_succ, List.getElem?_cons_zero, List.getElem?_cons_succ, decide_eq_true_eq, decide_eq_false_iff_not, List.map_cons, List.map_nil, List.cons_append, List.nil_append, List.append_nil, List.length_cons, List.length_nil, Nat.zero_add, Nat.add_zero, and_true, true_and, if_true, if_false, Bool.false_eq_true, addr_add]
  have hib := hi.sub sb
  have Gb := G.sub sb
  have hxb := hx.sub sb
  have hsb : ¬ S k.bm := fun hs => hib k.bm hs H.nm
  have hpos := ok hk
  obtain ⟨f2, rfl⟩ : ∃ f2, f' = f2 + 1 := ⟨f' - 1, by omega⟩
  obtain ⟨b1, b2, T1, P1, T2, P2, a1, a2, c1, c2, rfl, rfl, V1, V2, t1, t2, m1, m2, l1, l2⟩ := id TA
  have est : syF k.bs cl cd k.dl k.room k.sz (f2 + 1) r al = (if (sy k.bs cl r).1.k ≠ 0 ∨ (sy k.bs cl r).2 = 256 then ((sy k.bs cl r).1, al)
       else syF k.bs cl cd k.dl k.room k.sz f2 (sy1 k.bs cd k.dl k.room k.sz (sy k.bs cl r).1 al (sy k.bs cl r).2).1 (sy1 k.bs cd k.dl k.room k.sz (sy k.bs cl r).1 al (sy k.bs cl r).2).2) := by rw [syF, if_pos hk]
  obtain ⟨_, _, _, _, _, hbm0, _, _⟩ := H.mt
  obtain ⟨_, _, _, _, _, _, g6, g7⟩ := mach_ld hbm0
  refine ⟨by simp, _, g6, ?_⟩
  refine CallsH.mono (k_sym2 hi G.es hx L sb H hk V1 t1 m1 l1) ?_
  rintro _ h1 ⟨rfl, H1⟩
  have ok1 : okR k.bs (sy k.bs cl r).1 := sy_ok ok
  have lt1 : (sy k.bs cl r).1.k = 0 → r.k = 0 ∧ r.i + 1 ≤ (sy k.bs cl r).1.i := sy_lt
  have nn1 := sy_num (bs := k.bs) (cs := cl) (r := r)
  generalize sy k.bs cl r = q at est H1 ok1 lt1 nn1 ⊢
  obtain ⟨r1, x⟩ := q
  simp only at est H1 ok1 lt1 nn1 ⊢
  refine ⟨_, errI r1.k, errI_if, by rw [errI_if], fun hz => ?_, fun hz => ?_⟩
  · rw [errI_if, errI_nil] at hz
    have hk1 : r1.k ≠ 0 := by simpa using hz
    refine ⟨.nilFunc, r1, al, hb, last, _, _, by rw [errI_if], sb, H1, ok1, fun _ => ⟨?_, .inl rfl⟩, fun h => absurd h hk1⟩
    rw [hF, est, if_pos (.inl hk1), cont_bad hk1]
  rw [errI_if, errI_nil] at hz
  have hk1 : r1.k = 0 := by simpa using hz
  have hlt1 := (lt1 hk1).2
  refine ⟨fun hlt b hbn => ?_, fun hge => ⟨fun h256 => ?_, fun h256 => ⟨fun hgt => ?_, fun hle => ?_⟩⟩⟩
  · have wb : IntKind.u8.wrap x = x := by rw [IntKind.wrap_u8]; omega
    rw [wb]
    have e1 : sy1 k.bs cd k.dl k.room k.sz r1 al x = tell k.dl k.room r1 al [x] := if_pos hlt
    rw [if_neg (by omega), e1] at est
    have H5 := H1.sub (Sub.of_upd (o := .cells (ints .u8 [x]) 5) hbn)
    refine CallsH.mono (k_tell hib Gb hro hdl H5 hk1 (ad := some ⟨b, 0, none⟩) (cd := 1) (ys := [x]) HInts.new (by simp) (by simp) (H1.fresh hbn)) ?_
    rintro _ h6 ⟨rfl, H6⟩
    refine ⟨errI (tell k.dl k.room r1 al [x]).1.k, errI_if, by rw [errI_if], ?_⟩
    rw [errI_if]
    refine ⟨fnV k F_impl_machine__symbols, _, _, hb, last, _, _, rfl, sb, H6, tell_ok ok1, fun h6k => ⟨?_, .inr ⟨_, rfl⟩⟩, fun h6k => ?_⟩
    · rw [hF, est, syF_end h6k, cont_bad h6k]
    · have hle6 := (tell_le (dl := k.dl) (room := k.room) (al := al) (d := [x]) h6k).2
      exact ⟨_, (by have hm := mz_le (k := k) (r := r) (rr := (tell k.dl k.room r1 al [x]).1) (m := 1) (by omega) (tell_ok ok1 h6k).2; omega : mz k (tell k.dl k.room r1 al [x]).1 + 2 < B), f, by omega, .inr (.inr (.inr (.inr (.inl ⟨rfl, rfl, _, _, f2, TA, by push_cast at hf'; omega, by rw [hF, est]⟩))))⟩
  · have h256 : x = 256 := beq_iff_eq.1 h256
    have ez : errI r1.k = .nilIface := by rw [hk1]; rfl
    refine ⟨fnV k F_impl_machine__behind, r1, al, hb, last, _, _, by rw [ez]; rfl, sb, H1, ok1, fun h => absurd hk1 h, fun _ => ⟨_, (by have hm := mz_le (k := k) (r := r) (rr := r1) (m := 1) (by omega) (ok1 hk1).2; omega : mz k r1 + 1 < B), f, by omega, .inr (.inr (.inr (.inr (.inr (.inl ⟨rfl, rfl, ?_⟩)))))⟩⟩
    rw [hF, est, if_pos (.inr h256)]
  · have h256 : x ≠ 256 := by simpa using h256
    have e1 : sy1 k.bs cd k.dl k.room k.sz r1 al x = (⟨r1.i, 3⟩, al) := by unfold sy1; rw [if_neg (by omega), if_pos (by omega)]; unfold bd; rw [if_pos ⟨hk1, rfl⟩]
    rw [if_neg (by omega), e1] at est
    refine ⟨3, (Gb.sub H1.sb).es.e3, .nilFunc, ⟨r1.i, 3⟩, al, hb, last, _, _, rfl, sb, H1.toErr (show (3 : Int) ≠ 0 by decide), fun h => (by cases h), fun _ => ⟨?_, .inl rfl⟩, fun h => (by cases h)⟩
    rw [hF, est, syF_end (show (3 : Int) ≠ 0 by decide), cont_bad (show (3 : Int) ≠ 0 by decide)]
  · have h256 : x ≠ 256 := by simpa using h256
    obtain ⟨s, rfl⟩ := Int.eq_ofNat_of_zero_le (show 0 ≤ x by omega)
    have e1 : sy1 k.bs cd k.dl k.room k.sz r1 al (s : Int) = cpF k.bs cd k.dl k.room k.sz r1 al s := by unfold sy1; rw [if_neg (by omega), if_neg (by omega)]; rfl
    rw [if_neg (by omega), e1] at est
    have bad : ∀ (h' : Eng.Heap) (rr : Rd), cpF k.bs cd k.dl k.room k.sz r1 al s = (rr, al) → rr.k ≠ 0 → okR k.bs rr → IM hb h' k rr al last (.pointer (some ⟨b1, 0, none⟩)) (.pointer (some ⟨b2, 0, none⟩)) → PostS h0 k F Fin B (.tuple #[.nilFunc, errI rr.k]) h' := fun h' rr e hkr okr HR =>
      ⟨.nilFunc, rr, al, hb, last, _, _, rfl, sb, HR, okr, fun _ => ⟨by rw [hF, est, e, syF_end hkr, cont_bad hkr], .inl rfl⟩, fun h => absurd h hkr⟩
    have hlen := lenB_le ⟨s, by omega⟩ (by simp only; omega)
    simp only at hlen
    refine CallsH.mono (k_lengthOf (hib.sub H1.sb) s (by omega) (by omega)) ?_
    rintro _ h2 ⟨rfl, rfl⟩
    refine ⟨_, _, rfl, ?_⟩
    refine CallsH.mono (k_num2 hib Gb.es hxb L H1 hk1 (lenB s).2 (by omega)) ?_
    rintro _ h2 ⟨rfl, H2⟩
    have okc1 : okR k.bs (cp1 k.bs r1 s).1 := tk_ok ok1
    have e1' : tk k.bs (lenB s).2 r1 = cp1 k.bs r1 s := rfl
    rw [e1'] at H2 ⊢
    refine ⟨_, errI (cp1 k.bs r1 s).1.k, errI_if, by rw [errI_if], fun hz => ?_, fun hz => ?_⟩
    · rw [errI_if, errI_nil] at hz
      have hk2 : (cp1 k.bs r1 s).1.k ≠ 0 := by simpa using hz
      rw [errI_if]
      refine bad h2 _ ?_ hk2 okc1 H2
      have e2 : cp2 k.bs cd r1 s = ((cp1 k.bs r1 s).1, 0) := sy_bad hk2
      have e3 : cp3 k.bs cd r1 s = (cp1 k.bs r1 s).1 := by unfold cp3; rw [e2]; exact bd_bad hk2
      unfold cpF; rw [e3, if_pos hk2]
    rw [errI_if, errI_nil] at hz
    have hk2 : (cp1 k.bs r1 s).1.k = 0 := by simpa using hz
    obtain ⟨_, _, _, _, _, hbm2, _, _⟩ := H2.mt
    obtain ⟨_, _, _, _, _, _, _, g7'⟩ := mach_ld hbm2
    refine ⟨by simp, _, g7', ?_⟩
    refine CallsH.mono (k_sym2 hi G.es hx L sb H2 hk2 V2 t2 m2 l2) ?_
    rintro _ h3 ⟨rfl, H3⟩
    have okc2 : okR k.bs (cp2 k.bs cd r1 s).1 := sy_ok okc1
    have e2' : sy k.bs cd (cp1 k.bs r1 s).1 = cp2 k.bs cd r1 s := rfl
    have nn2 := sy_num (bs := k.bs) (cs := cd) (r := (cp1 k.bs r1 s).1)
    rw [e2'] at H3 nn2 ⊢
    refine ⟨_, errI (cp2 k.bs cd r1 s).1.k, errI_if, by rw [errI_if], fun hz => ?_, fun hz => ?_⟩
    · rw [errI_if, errI_nil] at hz
      have hk3 : (cp2 k.bs cd r1 s).1.k ≠ 0 := by simpa using hz
      rw [errI_if]
      refine bad h3 _ ?_ hk3 okc2 H3
      have e3 : cp3 k.bs cd r1 s = (cp2 k.bs cd r1 s).1 := bd_bad hk3
      unfold cpF; rw [e3, if_pos hk3]
    rw [errI_if, errI_nil] at hz
    have hk3 : (cp2 k.bs cd r1 s).1.k = 0 := by simpa using hz
    refine ⟨fun hgt => ?_, fun hle29 => ?_⟩
    · have e3 : cp3 k.bs cd r1 s = ⟨(cp2 k.bs cd r1 s).1.i, 3⟩ := by unfold cp3 bd; rw [if_pos ⟨hk3, decide_eq_true (by omega)⟩]
      refine ⟨3, (Gb.sub H3.sb).es.e3, bad h3 ⟨(cp2 k.bs cd r1 s).1.i, 3⟩ ?_ (show (3 : Int) ≠ 0 by decide) (fun h => (by cases h)) (H3.toErr (show (3 : Int) ≠ 0 by decide))⟩
      unfold cpF; rw [e3, if_pos (show (3 : Int) ≠ 0 by decide)]
    have e3 : cp3 k.bs cd r1 s = (cp2 k.bs cd r1 s).1 := by unfold cp3 bd; rw [if_neg (fun h => by have := of_decide_eq_true h.2; omega)]
    obtain ⟨dd, hdd⟩ := Int.eq_ofNat_of_zero_le nn2.1
    have hd29 : dd ≤ 29 := by omega
    have hdis := disB_le ⟨dd, by omega⟩
    simp only at hdis
    rw [hdd]
    refine CallsH.mono (k_distOf (hib.sub H3.sb) dd hd29) ?_
    rintro _ h4 ⟨rfl, rfl⟩
    refine ⟨_, _, rfl, ?_⟩
    rw [← e3] at H3 hk3
    have ok3 : okR k.bs (cp3 k.bs cd r1 s) := by rw [e3]; exact okc2
    refine CallsH.mono (k_num2 hib Gb.es hxb L H3 hk3 (disB dd).2 (by omega)) ?_
    rintro _ h4 ⟨rfl, H4⟩
    have e4 : tk k.bs (disB dd).2 (cp3 k.bs cd r1 s) = cp4 k.bs cd r1 s := by unfold cp4; rw [hdd, Int.toNat_natCast]
    have n4 := tk_num (bs := k.bs) (n := (disB dd).2) (r := cp3 k.bs cd r1 s)
    have okc4 : okR k.bs (cp4 k.bs cd r1 s).1 := tk_ok ok3
    rw [e4] at H4 n4 ⊢
    refine ⟨_, errI (cp4 k.bs cd r1 s).1.k, errI_if, by rw [errI_if], fun hz => ?_, fun hz => ?_⟩
    · rw [errI_if, errI_nil] at hz
      have hk4 : (cp4 k.bs cd r1 s).1.k ≠ 0 := by simpa using hz
      rw [errI_if]
      refine bad h4 _ ?_ hk4 okc4 H4
      have e5 : cp5 k.bs cd k.sz r1 al s = (cp4 k.bs cd r1 s).1 := bd_bad hk4
      unfold cpF; rw [if_neg (fun h => h hk3), e5, if_pos hk4]
    rw [errI_if, errI_nil] at hz
    have hk4 : (cp4 k.bs cd r1 s).1.k = 0 := by simpa using hz
    have hp13 : (2 : Int) ^ (disB dd).2 ≤ 8192 := by
      rw [pow_cast]; exact_mod_cast Nat.le_trans (Nat.pow_le_pow_right (by decide) hdis.2.2) (by decide)
    have nn1' := tk_num (bs := k.bs) (n := (lenB s).2) (r := r1)
    have hp5 : (2 : Int) ^ (lenB s).2 ≤ 32 := by
      rw [pow_cast]; exact_mod_cast Nat.le_trans (Nat.pow_le_pow_right (by decide) hlen.2.2) (by decide)
    rw [e1'] at nn1'
    obtain ⟨x4, hx4⟩ := Int.eq_ofNat_of_zero_le n4.1
    obtain ⟨x1, hx1⟩ := Int.eq_ofNat_of_zero_le nn1'.1
    have hdist : cpDist k.bs cd r1 s = (disB dd).1 + x4 := by unfold cpDist; rw [hdd, Int.toNat_natCast, hx4, Int.toNat_natCast]
    have hcl : cpLen k.bs r1 s = (lenB s).1 + x1 := by unfold cpLen; rw [hx1, Int.toNat_natCast]
    rw [hx4, hx1]
    have wd : IntKind.i64.wrap (((disB dd).1 : Int) + (x4 : Int)) = ((cpDist k.bs cd r1 s : Nat) : Int) := by rw [hdist, i64_in _ (by omega)]; omega
    have wl : IntKind.i64.wrap (((lenB s).1 : Int) + (x1 : Int)) = ((cpLen k.bs r1 s : Nat) : Int) := by rw [hcl, i64_in _ (by omega)]; omega
    rw [wd, wl]
    have hdp : 1 ≤ cpDist k.bs cd r1 s ∧ cpDist k.bs cd r1 s ≤ 40000 := by omega
    have hlp : cpLen k.bs r1 s ≤ 400 ∧ 1 ≤ cpLen k.bs r1 s := by omega
    have h258 : cpLen k.bs r1 s ≤ 258 := by
      have e := len258 ⟨s, by omega⟩ (by simp only; omega)
      simp only at e
      have hx := nn1'.2
      rw [hx1, pow_cast] at hx
      have : x1 < 2 ^ (lenB s).2 := by exact_mod_cast hx
      omega
    obtain ⟨p, ao, co, hp, hr, hbm4, P4, N4⟩ := H4.mt
    obtain ⟨rd, at_, nn, hbw, R, sR, hnw⟩ := H4.rg
    obtain ⟨_, _, u2, u3, u4, _⟩ := mach_ld hbm4
    have hknn : nn = min al.length k.sz := by rw [← R.kn, lastN_len]
    have hal := H4.le
    refine ⟨by simp, _, u2, by simp, (nn : Int), by simp only [toAddr_ptr, Option.getD_some, addr_add, Nat.zero_add, Nat.add_zero]; exact ring_n hbw R.dl, fun hgt => ?_, fun hle => ⟨by simp, _, u4, fun hgt2 => ?_, fun hle2 => ⟨by simp, _, u4, by simp, ?_⟩⟩⟩
    · have e5 : cp5 k.bs cd k.sz r1 al s = ⟨(cp4 k.bs cd r1 s).1.i, 3⟩ := by
        unfold cp5 bd
        rw [if_pos ⟨hk4, by simp only [Bool.or_eq_true, decide_eq_true_eq]; omega⟩]
      refine ⟨3, (Gb.sub H4.sb).es.e3, bad h4 ⟨(cp4 k.bs cd r1 s).1.i, 3⟩ ?_ (show (3 : Int) ≠ 0 by decide) (fun h => (by cases h)) (H4.toErr (show (3 : Int) ≠ 0 by decide))⟩
      unfold cpF; rw [if_neg (fun h => h hk3), e5, if_pos (show (3 : Int) ≠ 0 by decide)]
    all_goals
      have e5 : cp5 k.bs cd k.sz r1 al s = (cp4 k.bs cd r1 s).1 := by
        unfold cp5 bd
        rw [if_neg (fun h => by have := h.2; simp only [Bool.or_eq_true, decide_eq_true_eq] at this; omega)]
      have ecp : cpF k.bs cd k.dl k.room k.sz r1 al s = tell k.dl k.room (cp4 k.bs cd r1 s).1 al (cpD al (cpDist k.bs cd r1 s) (cpLen k.bs r1 s)) := by
        unfold cpF; rw [if_neg (fun h => h hk3), e5, if_neg (fun h => h hk4)]
    · refine ⟨6, (Gb.sub H4.sb).e6, bad h4 ⟨(cp4 k.bs cd r1 s).1.i, 6⟩ ?_ (show (6 : Int) ≠ 0 by decide) (fun h => (by cases h)) (H4.toErr (show (6 : Int) ≠ 0 by decide))⟩
      rw [ecp]; unfold tell; rw [if_pos hk4, if_pos (by rw [cpD_len]; simp only [mcOf] at hgt2; omega)]
    · have ecp2 : cpF k.bs cd k.dl k.room k.sz r1 al s = ((cp4 k.bs cd r1 s).1, al ++ cpD al (cpDist k.bs cd r1 s) (cpLen k.bs r1 s)) := by
        rw [ecp]; unfold tell; rw [if_pos hk4, if_neg (by rw [cpD_len]; simp only [mcOf] at hle2; omega)]
      have hrl : al.length - k.dl + cpLen k.bs r1 s ≤ k.room := by simp only [mcOf] at hle2; omega
      have lecp : le2 r1 (cp4 k.bs cd r1 s).1 := fun h => by
        have a3 := tk_le (bs := k.bs) (n := (disB (cp2 k.bs cd r1 s).2.toNat).2) (r := cp3 k.bs cd r1 s) h
        have a2 := bd_le (w := decide (29 < (cp2 k.bs cd r1 s).2)) (r := (cp2 k.bs cd r1 s).1) a3.1
        have a1 := sy_le (bs := k.bs) (cs := cd) (r := (cp1 k.bs r1 s).1) a2.1
        have a0 := tk_le (bs := k.bs) (n := (lenB s).2) (r := r1) a1.1
        exact ⟨a0.1, Int.le_trans a0.2 (Int.le_trans a1.2 (Int.le_trans a2.2 a3.2))⟩
      clear ecp e5
      generalize hcp4 : (cp4 k.bs cd r1 s).1 = r4 at H4 hr hk4 okc4 ecp2 lecp
      generalize hD : cpDist k.bs cd r1 s = D at hle hdp ecp2 hdist ⊢
      generalize hM : cpLen k.bs r1 s = M at hle2 hlp h258 ecp2 hrl hcl ⊢
      have hM2 := cpD_len (al := al) (dist := D) (n := M)
      have hDl : D ≤ (lastN k.sz al).length := by rw [lastN_len]; omega
      simp only [storeW, addr_add, Nat.add_zero]
      have hrm : IntKind.i64.wrap ((mcOf k al (.slice ao (al.drop k.dl).length co) last (.pointer (some ⟨b1, 0, none⟩)) (.pointer (some ⟨b2, 0, none⟩))).rm - (M : Int)) = (k.room : Int) - (((al ++ cpD al D M).length - k.dl : Nat) : Int) := by
        simp only [mcOf, List.length_append, hM2]
        rw [i64_in _ (by omega)]; omega
      refine ⟨mach_ok hbm4 hsb u4, by simp, ?_⟩
      rw [hrm, mach_rm hbm4]
      obtain ⟨h5, hh5⟩ : ∃ h5, h5 = upd h4 k.bm (machO k.a k.c k.bs p ⟨.pointer (some ⟨k.bw, 0, none⟩), .slice ao (al.drop k.dl).length co, (k.room : Int) - (((al ++ cpD al D M).length - k.dl : Nat) : Int), last, .pointer (some ⟨b1, 0, none⟩), .pointer (some ⟨b2, 0, none⟩)⟩ k.T) := ⟨_, rfl⟩
      have eh5 : upd h4 k.bm (machO k.a k.c k.bs p ⟨(mcOf k al (.slice ao (al.drop k.dl).length co) last (.pointer (some ⟨b1, 0, none⟩)) (.pointer (some ⟨b2, 0, none⟩))).w, (mcOf k al (.slice ao (al.drop k.dl).length co) last (.pointer (some ⟨b1, 0, none⟩)) (.pointer (some ⟨b2, 0, none⟩))).out, (k.room : Int) - (((al ++ cpD al D M).length - k.dl : Nat) : Int), (mcOf k al (.slice ao (al.drop k.dl).length co) last (.pointer (some ⟨b1, 0, none⟩)) (.pointer (some ⟨b2, 0, none⟩))).last, (mcOf k al (.slice ao (al.drop k.dl).length co) last (.pointer (some ⟨b1, 0, none⟩)) (.pointer (some ⟨b2, 0, none⟩))).l, (mcOf k al (.slice ao (al.drop k.dl).length co) last (.pointer (some ⟨b1, 0, none⟩)) (.pointer (some ⟨b2, 0, none⟩))).d⟩ k.T) = h5 := by rw [hh5]; rfl
      rw [eh5]
      have hb5 : h5 k.bm = some (machO k.a k.c k.bs p ⟨.pointer (some ⟨k.bw, 0, none⟩), .slice ao (al.drop k.dl).length co, (k.room : Int) - (((al ++ cpD al D M).length - k.dl : Nat) : Int), last, .pointer (some ⟨b1, 0, none⟩), .pointer (some ⟨b2, 0, none⟩)⟩ k.T) := by rw [hh5, upd_same]
      have h54 : ∀ z, z ≠ k.bm → h5 z = h4 z := fun z hz => by rw [hh5]; exact upd_ne hz
      obtain ⟨_, _, w2, w3, _⟩ := mach_ld hb5
      have s5 : Eng.Sub hb h5 := by rw [hh5]; exact sub_upd_new H4.sb H4.nm
      have hbw5 : h5 k.bw = some (ringObj k.sz rd at_ nn k.TW) := (h54 k.bw (Ne.symm H4.ne)).trans hbw
      have P5 : Part .u8 h5 (.slice ao (al.drop k.dl).length co) (al.drop k.dl) := P4.keep fun z hz => h54 z (IM.out_ne N4 hz).1
      obtain ⟨g, hg⟩ : ∃ g, g = wo h5 [k.bw] := ⟨_, rfl⟩
      have sbg : Eng.Sub hb g := hg ▸ wo_of s5 (fun b hb' => by rw [List.mem_singleton.1 hb']; exact hnw)
      have sg5 : Eng.Sub g h5 := hg ▸ wo_le
      have gne : ∀ z, z ≠ k.bw → g z = h5 z := fun z hz => by rw [hg]; exact wo_out (fun hm => hz (List.mem_singleton.1 hm))
      have Rg : RingAt g h5 k.bw k.TW k.sz (lastN k.sz (lastN k.sz al)) := by
        rw [lastN_idem]
        exact ⟨rd, at_, nn, hbw5, R, sg5, hg ▸ wo_in (List.mem_singleton.2 rfl)⟩
      refine ⟨_, _, _, w3, by simp, _, w2, ?_⟩
      refine CallsH.mono (k_repeat (hib.sub sbg) Rg (D : Int) (M : Int) (by omega) (by omega) (by rw [lastN_len] at hDl; omega) (by omega) (by rw [lastN_len]; omega)) ?_
      rintro v6 h6 ⟨O6, N6, R6⟩
      rw [Int.toNat_natCast, Int.toNat_natCast, rep_all hdp.1 hDl, cpD_last hdp.1 hDl] at R6
      rw [Int.toNat_natCast, Int.toNat_natCast, rep_all hdp.1 hDl, cpD_last hdp.1 hDl, List.drop_left] at O6
      rw [lastN_app] at R6
      obtain ⟨rd6, at6, nn6, hbw6, RS6, sg6, _⟩ := R6
      have hkeep : ∀ z, z ≠ k.bw → h5 z ≠ none → h6 z = h5 z := fun z hz hn => by
        cases e : h5 z with
        | none => exact absurd e hn
        | some o => exact sg6 z o ((gne z hz).trans e)
      have hb6 := (hkeep k.bm H4.ne (by rw [hb5]; simp)).trans hb5
      obtain ⟨_, _, x2, x3, _⟩ := mach_ld hb6
      have P6 : Part .u8 h6 (.slice ao (al.drop k.dl).length co) (al.drop k.dl) := P5.keep fun z hz => hkeep z (IM.out_ne N4 hz).2.1 (tB.Oheld P5 (show tB.B _ z from hz))
      obtain ⟨a6, c6, rfl, _, g6'⟩ := Part.ints O6
      refine ⟨_, _, _, rfl, fun pp hpp => ?_, ?_⟩
      · obtain rfl := List.mem_singleton.1 hpp
        simp only [Tr.wp, mksW, callW, Ex.ev, coerce, toInt_int, toBool_bool, slL_sl, slC_sl, slA_sl, toAddr_ptr, ptrOf_ptr, isNil_sl, isNil_ptr, it_and, it_or, it_int, optN_int, optN_nl, cmpI, arith, Cst.val, SV.den, resShs, resV, resSV, resVals, newVars, runCells, exSh, allSh, cellsAre, List.flatMap_cons, List.flatMap_nil, List.replicate_one, List.getD_cons_zero, List.getD_cons_succ, List.getElem?_cons_zero, List.getElem?_cons_succ, decide_eq_true_eq, decide_eq_false_iff_not, List.map_cons, List.map_nil, List.cons_append, List.nil_append, List.append_nil, List.length_cons, List.length_nil, Nat.zero_add, Nat.add_zero, and_true, true_and, if_true, if_false, Bool.false_eq_true, addr_add, toAddr_ptr, Option.getD_some]
        first | exact x3 | (simp [addr_add]; exact x3)
      have hdl2 : (al.drop k.dl).length ≤ 300000 := by rw [List.length_drop]; omega
      refine appW_part hib (sbg.trans sg6) P6 (fun z hz => (IM.out_ne N4 hz).2.2) g6' (by omega) fun v7 h7 o7 n7 s7 k7 r7 => ?_
      obtain ⟨a7, c7, rfl, _, _⟩ := o7.ints
      have hb7 := (k7 k.bm (by rw [hb6]; simp) (fun e => (IM.out_ne N4 e).1 rfl)).trans hb6
      have hbw7 := (k7 k.bw (by rw [hbw6]; simp) (fun e => (IM.out_ne N4 e).2.1 rfl)).trans hbw6
      obtain ⟨_, _, _, y3, _⟩ := mach_ld hb7
      simp only [slA_sl, slL_sl, slC_sl]
      refine ⟨by simp, mach_ok hb7 hsb y3, ?_⟩
      rw [mach_out hb7]
      have ed : (al ++ cpD al D M).drop k.dl = al.drop k.dl ++ cpD al D M := List.drop_append_of_le_length hal.1
      have nv : ∀ z, blkOf (.slice a7 (al.drop k.dl ++ cpD al D M).length c7) = some z → z ≠ k.bm ∧ z ≠ k.bw := fun z hz => by
        rcases r7 with r7 | r7
        · have := IM.out_ne N4 (r7 ▸ hz); exact ⟨this.1, this.2.1⟩
        · have := r7 z hz
          exact ⟨fun e => (by rw [e, hb6] at this; cases this), fun e => (by rw [e, hbw6] at this; cases this)⟩
      obtain ⟨h8, hh8⟩ : ∃ h8, h8 = upd h7 k.bm (machO k.a k.c k.bs p ⟨.pointer (some ⟨k.bw, 0, none⟩), .slice a7 (al.drop k.dl ++ cpD al D M).length c7, (k.room : Int) - (((al ++ cpD al D M).length - k.dl : Nat) : Int), last, .pointer (some ⟨b1, 0, none⟩), .pointer (some ⟨b2, 0, none⟩)⟩ k.T) := ⟨_, rfl⟩
      rw [← hh8]
      have s8 : Eng.Sub hb h8 := by rw [hh8]; exact sub_upd_new s7 H4.nm
      have h87 : ∀ z, z ≠ k.bm → h8 z = h7 z := fun z hz => by rw [hh8]; exact upd_ne hz
      have H8 : IM hb h8 k r4 (al ++ cpD al D M) last (.pointer (some ⟨b1, 0, none⟩)) (.pointer (some ⟨b2, 0, none⟩)) := by
        refine ⟨⟨p, a7, c7, hp, hr, ?_, ?_, ?_⟩, ⟨rd6, at6, nn6, (h87 k.bw (Ne.symm H4.ne)).trans hbw7, RS6, s8, hnw⟩, H4.nm, H4.ne, s8, ?_⟩
        · rw [hh8, upd_same, ed]; rfl
        · rw [ed]; exact o7.keep fun z hz => h87 z (nv z hz).1
        · rw [ed]; exact fun z hz => mkL_none.2 ⟨by simp [(nv z hz).1, (nv z hz).2], n7 z hz⟩
        · rw [List.length_append, hM2]; omega
      have ez : errI r4.k = .nilIface := by rw [hk4]; rfl
      have hle4 := (lecp hk4).2
      refine ⟨fnV k F_impl_machine__symbols, r4, _, hb, last, _, _, by rw [ez]; rfl, sb, H8, okc4, fun h => absurd hk4 h, fun _ => ⟨_, (by have hm := mz_le (k := k) (r := r) (rr := r4) (m := 1) (by omega) (okc4 hk4).2; omega : mz k r4 + 2 < B), f, by omega, .inr (.inr (.inr (.inr (.inl ⟨rfl, rfl, _, _, f2, TA, by push_cast at hf'; omega, by rw [hF, est, ecp2]⟩))))⟩⟩
end
end

section
variable {S : Shared} {h h0 hb : Eng.Heap}
section
variable {k : KC} {F : Nat} {Fin : Rd × List Int}
/-- What a run stands at: a state, and a number that falls. -/
def RunAt (h0 : Eng.Heap) (k : KC) (F : Nat) (Fin : Rd × List Int) (v : Value) (h : Eng.Heap) (n : Nat) : Prop :=
  ∃ (r : Rd) (al : List Int) (hb : Eng.Heap) (last : Bool) (l d : Value), Eng.Sub h0 hb ∧ IM hb h k r al last l d ∧ r.k = 0 ∧ okR k.bs r ∧ Owes h0 hb k F Fin v r al last l d n
/-- The run's end. -/
def RunEnd (h0 : Eng.Heap) (k : KC) (Fin : Rd × List Int) (v : Value) (h' : Eng.Heap) : Prop :=
  ∃ (hb : Eng.Heap) (last : Bool) (l d : Value), v = errI Fin.1.k ∧ Eng.Sub h0 hb ∧ IM hb h' k Fin.1 Fin.2 last l d ∧ okR k.bs Fin.1
theorem least {P : Nat → Prop} : ∀ n, P n → ∃ m, P m ∧ ∀ j, P j → m ≤ j
  | n, h => by
    by_cases hs : ∃ j, j < n ∧ P j
    · obtain ⟨j, hj, hp⟩ := hs
      exact least j hp
    · exact ⟨n, h, fun j hp => Nat.le_of_not_lt fun hl => hs ⟨j, hl, hp⟩⟩
open Classical in
noncomputable def runM (h0 : Eng.Heap) (k : KC) (F : Nat) (Fin : Rd × List Int) (v : Value) (h : Eng.Heap) : Nat := if H : ∃ n, RunAt h0 k F Fin v h n ∧ ∀ j, RunAt h0 k F Fin v h j → n ≤ j then Classical.choose H else 0
theorem runM_spec {v : Value} {n : Nat} (H : RunAt h0 k F Fin v h n) : RunAt h0 k F Fin v h (runM h0 k F Fin v h) ∧ runM h0 k F Fin v h ≤ n := by
  have e := least n H
  unfold runM
  rw [dif_pos e]
  exact ⟨(Classical.choose_spec e).1, (Classical.choose_spec e).2 n H⟩

set_option maxRecDepth 100000 in
theorem k_run (hi : Eng.Inv S h0) (G : ErrL h0) (hro : k.room ≤ 200000) (hdl : k.dl ≤ 40000) (hsz : 1 ≤ k.sz ∧ k.sz ≤ 32768) (hx : HInts h0 .u8 k.a k.bs) (L : k.bs.length ≤ 1048576) (hFl : 8 * k.bs.length + 1 ≤ F) {n0 : Nat} (H0 : RunAt h0 k F Fin (fnV k F_impl_machine__block) h n0) :
    CallsH Tryd.prog S F_impl_machine__run #[.pointer (some ⟨k.bm, 0, none⟩), .func (.func F_impl_machine__block) #[.pointer (some ⟨k.bm, 0, none⟩)] #[]] h (RunEnd h0 k Fin) := by
  refine run_impl_machine__run (vs := [.pointer (some ⟨k.bm, 0, none⟩), .func (.func F_impl_machine__block) #[.pointer (some ⟨k.bm, 0, none⟩)] #[]]) ⟨rfl, rfl, trivial⟩ (hi.sub (by obtain ⟨_, _, hb, _, _, _, s, H, _⟩ := H0; exact s.trans H.sb)) ?_
  simp only [t_impl_machine__run, Tr.wp, mksW, callW, Ex.ev, coerce, toInt_int, toBool_bool, slL_sl, slC_sl, slA_sl, toAddr_ptr, ptrOf_ptr, isNil_sl, isNil_ptr, it_and, it_or, it_int, optN_int, optN_nl, cmpI, arith, Cst.val, SV.den, resShs, resV, resSV, resVals, newVars, runCells, exSh, allSh, cellsAre, storeW, List.flatMap_cons, List.flatMap_nil, List.replicate_one, List.getD_cons_zero, List.getD_cons_succ, List.getElem?_cons_zero, List.getElem?_cons_succ, decide_eq_true_eq, decide_eq_false_iff_not, List.map_cons, List.map_nil, List.cons_append, List.nil_append, List.append_nil, List.length_cons, List.length_nil, Nat.zero_add, Nat.add_zero, and_true, true_and, if_true, if_false, Bool.false_eq_true, addr_add]
  refine ⟨fun us h' => ∃ v n, us = [v] ∧ RunAt h0 k F Fin v h' n, fun us h' => runM h0 k F Fin (us.getD 0 undef) h', ⟨_, n0, rfl, H0⟩, ?_⟩
  rintro v hfv h' ⟨v', n, hx1, HR⟩
  obtain rfl : v = v' := by simpa using hx1
  obtain ⟨⟨r, al, hb, last, l, d, sb, H, hk, ok, HO⟩, _⟩ := runM_spec HR
  obtain ⟨m, hm⟩ : ∃ m, m = runM h0 k F Fin v h' := ⟨_, rfl⟩
  rw [← hm] at HO
  have fin : ∀ v1 h1, PostS h0 k F Fin m v1 h1 → ∃ v_2, fnOf v_2 = v_2 ∧ ∃ v_3, ifOf v_3 = v_3 ∧ v1 = .tuple #[fnOf v_2, ifOf v_3] ∧ ((!isNilV (ifOf v_3)) = true → RunEnd h0 k Fin (ifOf v_3) h1) ∧
      ((!isNilV (ifOf v_3)) = false → (∃ v n, [fnOf v_2] = [v] ∧ RunAt h0 k F Fin v h1 n) ∧ runM h0 k F Fin (([fnOf v_2] : List Value).getD 0 undef) h1 < runM h0 k F Fin (([v] : List Value).getD 0 undef) h') := by
    rintro v1 h1 ⟨nx, rr, al', hb', last', l', d', rfl, sb', H', ok', hbad, hgood⟩
    have hnx : fnOf nx = nx := by
      by_cases hkr : rr.k = 0
      · obtain ⟨n', _, f, _, hO⟩ := hgood hkr
        rcases hO with ⟨e, _⟩ | ⟨e, _⟩ | ⟨e, _⟩ | ⟨e, _⟩ | ⟨e, _⟩ | ⟨e, _⟩ | ⟨e, _⟩ <;> (rw [e]; rfl)
      · rcases (hbad hkr).2 with e | ⟨f, e⟩ <;> (rw [e]; rfl)
    refine ⟨nx, hnx, errI rr.k, errI_if, by rw [hnx, errI_if], fun hz => ?_, fun hz => ?_⟩
    · rw [errI_if, errI_nil] at hz
      have hkr : rr.k ≠ 0 := by simpa using hz
      obtain ⟨e, _⟩ := hbad hkr
      rw [e, errI_if]
      exact ⟨hb', last', l', d', rfl, sb', H', ok'⟩
    · rw [errI_if, errI_nil] at hz
      have hkr : rr.k = 0 := by simpa using hz
      obtain ⟨n', hn', hO⟩ := hgood hkr
      have RA : RunAt h0 k F Fin nx h1 n' := ⟨rr, al', hb', last', l', d', sb', H', hkr, ok', hO⟩
      have := (runM_spec RA).2
      rw [hnx]
      refine ⟨⟨nx, n', rfl, RA⟩, ?_⟩
      show runM h0 k F Fin nx h1 < runM h0 k F Fin v h'
      omega
  obtain ⟨f, hf, hO⟩ := HO
  rcases hO with ⟨rfl, em, e⟩ | ⟨rfl, em, e⟩ | ⟨rfl, em, e⟩ | ⟨rfl, em, e⟩ | ⟨rfl, em, cl, cd, f', TA, hf', e⟩ | ⟨rfl, em, e⟩ | ⟨rfl, em, e⟩
  · refine ⟨fun _ => ⟨_, _, _, rfl, CallsH.mono (k_block hi G.es hx L sb H hk ok f hf (B := m) (by omega) e) fin⟩, fun h => (by cases h)⟩
  · refine ⟨fun _ => ⟨_, _, _, rfl, CallsH.mono (k_stored hi G hro hdl hx L sb H hk ok f hf (B := m) (by omega) e) fin⟩, fun h => (by cases h)⟩
  · refine ⟨fun _ => ⟨_, _, _, rfl, CallsH.mono (k_fixed hi L sb H hk ok hFl f hf (B := m) (by omega) e) fin⟩, fun h => (by cases h)⟩
  · refine ⟨fun _ => ⟨_, _, _, rfl, CallsH.mono (k_dynamic hi G.es hx L sb H hk ok hFl f hf (B := m) (by omega) e) fin⟩, fun h => (by cases h)⟩
  · refine ⟨fun _ => ⟨_, _, _, rfl, CallsH.mono (k_symbols hi G hro hdl hsz hx L sb H hk ok f hf f' hf' TA (B := m) (by omega) e) fin⟩, fun h => (by cases h)⟩
  · refine ⟨fun _ => ⟨_, _, _, rfl, CallsH.mono (k_behind hi sb H hk ok f hf (B := m) (by omega) e) fin⟩, fun h => (by cases h)⟩
  · refine ⟨fun h => (by cases h), fun _ => ⟨hb, last, l, d, ?_, sb, ?_, ?_⟩⟩
    · rw [e, hk]; rfl
    · rw [e]; exact H
    · rw [e]; exact ok
end
end

section
variable {S : Shared} {h h0 : Eng.Heap}
set_option maxRecDepth 100000 in
set_option maxHeartbeats 2000000 in
theorem g_impl_Inflate (hi : Eng.Inv S h) (G : ErrL h) (E : ErrT h) {v u : Value} {bs ds : List Int} (O : tB.O h v bs) (L : limB bs) (n : Int) (wn : (Lit.int .i64 n).wf = true) (O2 : tB.O h u ds) (L2 : limB ds) :
    CallsH Tryd.prog S F_impl_Inflate #[v, .int .i64 n, u] h (fun v h' => tInfRes.O h' v (ans_Inflate bs n ds) ∧ tInfRes.New h v ∧ Eng.Sub h h') := by
  obtain ⟨a, c, rfl, hc, hx⟩ := Part.ints O
  obtain ⟨a2, c2, rfl, hc2, hx2⟩ := Part.ints O2
  have hL : bs.length ≤ 1048576 := L
  have hL2 : ds.length ≤ 1048576 := L2
  refine run_impl_Inflate (vs := [.slice a bs.length c, .int .i64 n, .slice a2 ds.length c2]) ⟨rfl, rfl, rfl, trivial⟩ hi ?_
  simp only [t_impl_Inflate, Tr.wp, mksW, callW, Ex.ev, coerce, toInt_int, toBool_bool, slL_sl, slC_sl, slA_sl, toAddr_ptr, ptrOf_ptr, isNil_sl, isNil_ptr, it_and, it_or, it_int, optN_int, optN_nl, cmpI, arith, Cst.val, SV.den, resShs, resV, resSV, resVals, newVars, runCells, exSh, allSh, cellsAre, storeW, List.flatMap_cons, List.flatMap_nil, List.replicate_one, List.getD_cons_zero, List.getD_cons_succ, List.getElem?_cons_zero, List.getElem?_cons_succ, decide_eq_true_eq, decide_eq_false_iff_not, List.map_cons, List.map_nil, List.cons_append, List.nil_append, List.append_nil, List.length_cons, List.length_nil, Nat.zero_add, Nat.add_zero, and_true, true_and, if_true, if_false, Bool.false_eq_true, addr_add]
  refine ⟨fun hgt => ?_, fun hle => ⟨fun hbad => ?_, fun hok => ?_⟩⟩
  · have e : ans_Inflate bs n ds = (7, [], 0, ()) := if_pos (by omega)
    rw [e]; exact inf_none (fun _ _ e => e)
  · have e : ans_Inflate bs n ds = (3, [], 0, ()) := by
      unfold ans_Inflate; rw [if_neg (by omega), if_pos (by simp at hbad; omega)]
    rw [e]; exact inf_none (fun _ _ e => e)
  have hok : 1 ≤ n ∧ n ≤ 32768 := by simp at hok; omega
  have e : ans_Inflate bs n ds = if (infF bs n.toNat ds).1.k ≠ 0 then ((infF bs n.toNat ds).1.k, (infF bs n.toNat ds).2.drop (lastN n.toNat ds).length, 0, ()) else (1, (infF bs n.toNat ds).2.drop (lastN n.toNat ds).length, (infF bs n.toNat ds).1.i, ()) := by
    unfold ans_Inflate; rw [if_neg (by omega), if_neg (by omega)]
  rw [e]
  obtain ⟨m, rfl⟩ := Int.eq_ofNat_of_zero_le (show 0 ≤ n by omega)
  rw [Int.toNat_natCast]
  obtain ⟨f1, f2, f3⟩ := inf_facts (bs := bs) (ds := ds) (n := m) (by omega)
  have okr : okR bs ⟨0, 0⟩ := fun _ => ⟨Int.le_refl _, by simp only; omega⟩
  refine CallsH.mono (k_ringOf (sz := m) hi a2 c2 ds hc2 (by omega) hx2 (by omega) (by omega)) ?_
  rintro _ h1 ⟨bw, TW, rfl, RW⟩
  refine ⟨_, rfl, ?_⟩
  intro bm hbm
  obtain ⟨k, hk⟩ : ∃ k : KC, k = ⟨a, c, bs, (lastN m ds).length, 100000, m, 59, TW, bm, bw⟩ := ⟨_, rfl⟩
  obtain ⟨dd, at_, nn, hbw, R, s1, hnw⟩ := RW
  have ne : bm ≠ bw := fun e => by rw [e, hbw] at hbm; cases hbm
  obtain ⟨h2, hh2⟩ : ∃ h2, h2 = upd h1 bm (machO a c bs ((0 : Nat) : Int) ⟨.pointer (some ⟨bw, 0, none⟩), .slice none 0 0, 100000, false, .pointer none, .pointer none⟩ 59) := ⟨_, rfl⟩
  have sh2 : Eng.Sub h h2 := by rw [hh2]; exact s1.trans (Sub.of_upd hbm)
  have H0 : IM h h2 k ⟨0, 0⟩ (lastN m ds) false (.pointer none) (.pointer none) := by
    subst hk
    have ed : (lastN m ds).drop (lastN m ds).length = [] := List.drop_length
    refine ⟨⟨0, none, 0, by omega, fun _ => rfl, ?_, ?_, ?_⟩, ⟨dd, at_, nn, ?_, by rw [lastN_idem]; exact R, sh2, hnw⟩, sub_none s1 hbm, ne, sh2, ⟨Nat.le_refl _, Nat.le_add_right _ _⟩⟩
    · rw [hh2, upd_same]; simp only [mcOf, ed, Nat.sub_self]; rfl
    · simp only [ed]; exact Part.nil
    · intro z hz; simp only [ed] at hz; cases hz
    · rw [hh2, upd_ne (Ne.symm ne)]; exact hbw
  have RA : RunAt h k (8 * bs.length + 1) (infF bs m ds) (fnV k F_impl_machine__block) h2 (mz k ⟨0, 0⟩ + 0) := by
    refine ⟨⟨0, 0⟩, lastN m ds, h, false, _, _, fun _ _ e => e, H0, rfl, by subst hk; exact okr, 8 * bs.length + 1, by subst hk; simp only; omega, .inl ⟨rfl, rfl, ?_⟩⟩
    subst hk; rfl
  have K := k_run (S := S) hi G (by subst hk; simp) (by subst hk; simp only; omega) (by subst hk; simp only; omega) (by subst hk; exact hx) (by subst hk; exact hL) (by subst hk; exact Nat.le_refl _) RA
  have ebm : k.bm = bm := by rw [hk]
  rw [ebm, hh2] at K
  refine CallsH.mono K ?_
  rintro _ h3 ⟨hb, last, l, d, rfl, sb, H3, ok3⟩
  obtain ⟨p, ao, co, hp, hr, hb3, P3, N3⟩ := H3.mt
  obtain ⟨_, g1, _, g3, _⟩ := mach_ld hb3
  rw [ebm] at g1 g3
  have edl : k.dl = (lastN m ds).length := by rw [hk]
  rw [edl] at P3 N3 g3
  have s3 := sb.trans H3.sb
  have N3' : Eng.New h (.slice ao ((infF bs m ds).2.drop (lastN m ds).length).length co) := fun z hz => sub_none sb (IM.out_ne N3 hz).2.2
  refine ⟨errI (infF bs m ds).1.k, errI_if, by rw [errI_if], fun hz => ?_, fun hz => ?_⟩
  · rw [errI_if, errI_nil] at hz
    have hk1 : (infF bs m ds).1.k ≠ 0 := by simpa using hz
    rw [if_pos hk1, errI_if, errI_ne hk1]
    refine ⟨_, _, _, g3, ?_⟩
    refine CallsH.mono (g_classOf (hi.sub s3) (E.sub s3)) ?_
    rintro _ h4 ⟨rfl, s4⟩
    refine ⟨_, rfl, fun pp hpp => ?_, inf_mk (P3.sub s4) N3' (s3.trans s4)⟩
    obtain rfl := List.mem_singleton.1 hpp
    simp only [Tr.wp, mksW, callW, Ex.ev, coerce, toInt_int, toBool_bool, slL_sl, slC_sl, slA_sl, toAddr_ptr, ptrOf_ptr, isNil_sl, isNil_ptr, it_and, it_or, it_int, optN_int, optN_nl, cmpI, arith, Cst.val, SV.den, resShs, resV, resSV, resVals, newVars, runCells, exSh, allSh, cellsAre, storeW, List.flatMap_cons, List.flatMap_nil, List.replicate_one, List.getD_cons_zero, List.getD_cons_succ, List.getElem?_cons_zero, List.getElem?_cons_succ, decide_eq_true_eq, decide_eq_false_iff_not, List.map_cons, List.map_nil, List.cons_append, List.nil_append, List.append_nil, List.length_cons, List.length_nil, Nat.zero_add, Nat.add_zero, and_true, true_and, if_true, if_false, Bool.false_eq_true, addr_add, toAddr_ptr, Option.getD_some]
    exact hcell_sub s4 g3
  · rw [errI_if, errI_nil] at hz
    have hk1 : (infF bs m ds).1.k = 0 := by simpa using hz
    rw [if_neg (fun h => h hk1)]
    refine ⟨_, _, _, g3, _, g1, ?_⟩
    rw [← hr hk1]
    exact inf_mk P3 N3' s3
end
end Go.Proofs.YtmnialmphlbmaaaDoor
