-- PRINTED BY print.sh 35421559b90ae4d0a3588c463048766b98c2df88dd9212a6774a882060cdf62d: not written by this session
import Derived.Test.YtplemlkdjgcoiaaPFnExactAdlerJoinx0
namespace Go.Proofs.Ytplemlkdjgcoiaa.PFnExactAdlerJoin
open Go.RowKit Go.Proofs.YtplemlkdjgcoiaaW.PrintWords Go.Proofs.YtplemlkdjgcoiaaW.PrintLast Go.Proofs.YtplemlkdjgcoiaaW.PrintMore
attribute [local go_sem] max2_int min2_int max_two min_two max_three min_three max_four min_four   -- for this text's walks alone
set_option linter.unusedVariables false
set_option linter.unusedSimpArgs false

/-! ### spec_AdlerJoin: function 8 -/
def spec_AdlerJoin.f (a0 : Int) (a1 : Int) (a2 : Int) : Option (Int) := if a2 < 0 then (some 0) else (if a2 > 1000000 then (some 0) else (some ((wrap64 ((wrap64 ((Int.tmod (wrap64 (((((Int.tdiv a0 65536) % 4294967296) % 65521) + (((Int.tdiv a1 65536) % 4294967296) % 65521)) + (wrap64 ((Int.tmod a2 65521) * (Int.tmod (wrap64 ((wrap64 ((Int.tmod (wrap64 (Int.tmod a0 65536)) 65521) + 65521)) - 1)) 65521))))) 65521) * 65536)) + (Int.tmod (wrap64 ((wrap64 ((wrap64 ((Int.tmod (wrap64 (Int.tmod a0 65536)) 65521) + (Int.tmod (wrap64 (Int.tmod a1 65536)) 65521))) + 65521)) - 1)) 65521))) % 4294967296)))
set_option maxHeartbeats 8000000 in
set_option maxRecDepth 100000 in
theorem spec_AdlerJoin.calls (a0 : Int) (a1 : Int) (a2 : Int) (r : Int) (w : World) (h : spec_AdlerJoin.f a0 a1 a2 = some r) :
    Calls Try.prog 8 #[.int .u32 a0, .int .u32 a1, .int .i64 a2] w fun e w' => e = .returned (.int .u32 r) ∧ Drawn0 w w' := by
  have H : (if a2 < 0 then (some 0) else (if a2 > 1000000 then (some 0) else (some ((wrap64 ((wrap64 ((Int.tmod (wrap64 (((((Int.tdiv a0 65536) % 4294967296) % 65521) + (((Int.tdiv a1 65536) % 4294967296) % 65521)) + (wrap64 ((Int.tmod a2 65521) * (Int.tmod (wrap64 ((wrap64 ((Int.tmod (wrap64 (Int.tmod a0 65536)) 65521) + 65521)) - 1)) 65521))))) 65521) * 65536)) + (Int.tmod (wrap64 ((wrap64 ((wrap64 ((Int.tmod (wrap64 (Int.tmod a0 65536)) 65521) + (Int.tmod (wrap64 (Int.tmod a1 65536)) 65521))) + 65521)) - 1)) 65521))) % 4294967296)))) = some r := h
  clear h
  by_cases c4 : a2 < 0
  · rw [if_pos c4] at H
    have c4b0 : decide (a2 < 0) = true := decide_eq_true c4
    clear c4
    obtain rfl := Option.some.inj H
    go_enter Try.func8, Try.ntmps8
    go_wp2
    repeat (go_quiet (fail); try go_wp2)
    go_ret
    exact ⟨by first | rfl | (simp; done) | (simp [*]; done), by repeat (first | exact Drawn0.refl _ | apply Drawn0.step)⟩
  · rw [if_neg c4] at H
    have c4b0 : decide (a2 < 0) = false := decide_eq_false c4
    clear c4
    by_cases c5 : a2 > 1000000
    · rw [if_pos c5] at H
      have c5b0 : decide (1000000 < a2) = true := decide_eq_true c5
      clear c5
      obtain rfl := Option.some.inj H
      go_enter Try.func8, Try.ntmps8
      go_wp2
      repeat (go_quiet (fail); try go_wp2)
      go_ret
      exact ⟨by first | rfl | (simp; done) | (simp [*]; done), by repeat (first | exact Drawn0.refl _ | apply Drawn0.step)⟩
    · rw [if_neg c5] at H
      have c5b0 : decide (1000000 < a2) = false := decide_eq_false c5
      clear c5
      obtain rfl := Option.some.inj H
      go_enter Try.func8, Try.ntmps8
      go_wp2
      repeat (go_quiet (fail); try go_wp2)
      go_ret
      exact ⟨by first | rfl | (simp; done) | (simp [*]; done), by repeat (first | exact Drawn0.refl _ | apply Drawn0.step)⟩

/-! ### impl_AdlerJoin: function 9 -/
def impl_AdlerJoin.f (a0 : Int) (a1 : Int) (a2 : Int) : Option (Int) := if a2 < 0 then (some 0) else (if a2 > 1000000 then (some 0) else (some ((wrap64 ((wrap64 ((Int.tmod (wrap64 ((Int.tmod (wrap64 (((((Int.tdiv a0 65536) % 4294967296) % 65521) + (((Int.tdiv a1 65536) % 4294967296) % 65521)) + (wrap64 (a2 * (wrap64 ((wrap64 (Int.tmod (Int.tmod a0 65536) 65521)) - 1)))))) 65521) + 65521)) 65521) * 65536)) + (Int.tmod (wrap64 ((wrap64 ((wrap64 ((wrap64 (Int.tmod (Int.tmod a0 65536) 65521)) + (wrap64 (Int.tmod (Int.tmod a1 65536) 65521)))) - 1)) + 65521)) 65521))) % 4294967296)))
set_option maxHeartbeats 8000000 in
set_option maxRecDepth 100000 in
theorem impl_AdlerJoin.calls (a0 : Int) (a1 : Int) (a2 : Int) (r : Int) (w : World) (h : impl_AdlerJoin.f a0 a1 a2 = some r) :
    Calls Try.prog 9 #[.int .u32 a0, .int .u32 a1, .int .i64 a2] w fun e w' => e = .returned (.int .u32 r) ∧ Drawn0 w w' := by
  have H : (if a2 < 0 then (some 0) else (if a2 > 1000000 then (some 0) else (some ((wrap64 ((wrap64 ((Int.tmod (wrap64 ((Int.tmod (wrap64 (((((Int.tdiv a0 65536) % 4294967296) % 65521) + (((Int.tdiv a1 65536) % 4294967296) % 65521)) + (wrap64 (a2 * (wrap64 ((wrap64 (Int.tmod (Int.tmod a0 65536) 65521)) - 1)))))) 65521) + 65521)) 65521) * 65536)) + (Int.tmod (wrap64 ((wrap64 ((wrap64 ((wrap64 (Int.tmod (Int.tmod a0 65536) 65521)) + (wrap64 (Int.tmod (Int.tmod a1 65536) 65521)))) - 1)) + 65521)) 65521))) % 4294967296)))) = some r := h
  clear h
  by_cases c4 : a2 < 0
  · rw [if_pos c4] at H
    have c4b0 : decide (a2 < 0) = true := decide_eq_true c4
    clear c4
    obtain rfl := Option.some.inj H
    go_enter Try.func9, Try.ntmps9
    go_wp2
    go_ret
    exact ⟨by first | rfl | (simp; done) | (simp [*]; done), by repeat (first | exact Drawn0.refl _ | apply Drawn0.step)⟩
  · rw [if_neg c4] at H
    have c4b0 : decide (a2 < 0) = false := decide_eq_false c4
    clear c4
    by_cases c5 : a2 > 1000000
    · rw [if_pos c5] at H
      have c5b0 : decide (1000000 < a2) = true := decide_eq_true c5
      clear c5
      obtain rfl := Option.some.inj H
      go_enter Try.func9, Try.ntmps9
      go_wp2
      go_ret
      exact ⟨by first | rfl | (simp; done) | (simp [*]; done), by repeat (first | exact Drawn0.refl _ | apply Drawn0.step)⟩
    · rw [if_neg c5] at H
      have c5b0 : decide (1000000 < a2) = false := decide_eq_false c5
      clear c5
      obtain rfl := Option.some.inj H
      go_enter Try.func9, Try.ntmps9
      go_wp2
      go_ret
      exact ⟨by first | rfl | (simp; done) | (simp [*]; done), by repeat (first | exact Drawn0.refl _ | apply Drawn0.step)⟩

/-! ### laws_FnExactAdlerJoin: function 4 -/
def laws_FnExactAdlerJoin.f (a0 : Int) (a1 : Int) (a2 : Int) : Option (Bool) := (spec_AdlerJoin.f a0 a1 a2).bind fun t101 => ((impl_AdlerJoin.f a0 a1 a2).bind fun t102 => (if t102 = t101 then (some true) else (some false)))
set_option maxHeartbeats 8000000 in
set_option maxRecDepth 100000 in
theorem laws_FnExactAdlerJoin.calls (a0 : Int) (a1 : Int) (a2 : Int) (r : Bool) (w : World) (h : laws_FnExactAdlerJoin.f a0 a1 a2 = some r) :
    Calls Try.prog 4 #[.int .u32 a0, .int .u32 a1, .int .i64 a2] w fun e w' => e = .returned (.bool r) ∧ Drawn0 w w' := by
  have H : ((spec_AdlerJoin.f a0 a1 a2).bind fun t101 => ((impl_AdlerJoin.f a0 a1 a2).bind fun t102 => (if t102 = t101 then (some true) else (some false)))) = some r := h
  clear h
  replace H := Option.bind_eq_some_iff.mp H
  obtain ⟨t101, A40, H⟩ := H
  replace H : ((impl_AdlerJoin.f a0 a1 a2).bind fun t102 => (if t102 = t101 then (some true) else (some false))) = some r := H
  have A4 := Aside0.mk A40
  clear A40
  replace H := Option.bind_eq_some_iff.mp H
  obtain ⟨t102, A50, H⟩ := H
  replace H : (if t102 = t101 then (some true) else (some false)) = some r := H
  have A5 := Aside0.mk A50
  clear A50
  by_cases c6 : t102 = t101
  · rw [if_pos c6] at H
    have c6b0 : (t102 == t101) = true := beq_iff_eq.mpr c6
    have c6b1 : (t102 != t101) = false := bne_eq_false_iff_eq.mpr c6
    clear c6
    obtain rfl := Option.some.inj H
    go_enter Try.func4, Try.ntmps4
    go_wp2_with (first | ((with_reducible refine gate_callee (f := 8) rfl ?_); refine goesL_ (some 12) rfl rfl Try.func8 (by kernel_rfl) rfl #[.int .u32 a0, .int .u32 a1, .int .i64 a2] rfl (by (try simp only [List.map_toArray, List.map_cons, List.map_nil]); first | done | rfl | (simp only [List.length_drop, List.length_take]; rfl)) ?_; (with_reducible refine (spec_AdlerJoin.calls a0 a1 a2 t101 _ A4.out).mono ?_); rintro e w' ⟨rfl, ⟨nd, rfl⟩⟩; refine ⟨_, rfl, ?_⟩) | ((with_reducible refine gate_callee (f := 9) rfl ?_); refine goesL_ (some 16) rfl rfl Try.func9 (by kernel_rfl) rfl #[.int .u32 a0, .int .u32 a1, .int .i64 a2] rfl (by (try simp only [List.map_toArray, List.map_cons, List.map_nil]); first | done | rfl | (simp only [List.length_drop, List.length_take]; rfl)) ?_; (with_reducible refine (impl_AdlerJoin.calls a0 a1 a2 t102 _ A5.out).mono ?_); rintro e w' ⟨rfl, ⟨nd, rfl⟩⟩; refine ⟨_, rfl, ?_⟩))
    go_ret
    exact ⟨by first | rfl | (simp; done) | (simp [*]; done), by repeat (first | exact Drawn0.refl _ | apply Drawn0.step)⟩
  · rw [if_neg c6] at H
    have c6b0 : (t102 == t101) = false := beq_eq_false_iff_ne.mpr c6
    have c6b1 : (t102 != t101) = true := bne_iff_ne.mpr c6
    obtain rfl := Option.some.inj H
    go_enter Try.func4, Try.ntmps4
    go_wp2_with (first | ((with_reducible refine gate_callee (f := 8) rfl ?_); refine goesL_ (some 12) rfl rfl Try.func8 (by kernel_rfl) rfl #[.int .u32 a0, .int .u32 a1, .int .i64 a2] rfl (by (try simp only [List.map_toArray, List.map_cons, List.map_nil]); first | done | rfl | (simp only [List.length_drop, List.length_take]; rfl)) ?_; (with_reducible refine (spec_AdlerJoin.calls a0 a1 a2 t101 _ A4.out).mono ?_); rintro e w' ⟨rfl, ⟨nd, rfl⟩⟩; refine ⟨_, rfl, ?_⟩) | ((with_reducible refine gate_callee (f := 9) rfl ?_); refine goesL_ (some 16) rfl rfl Try.func9 (by kernel_rfl) rfl #[.int .u32 a0, .int .u32 a1, .int .i64 a2] rfl (by (try simp only [List.map_toArray, List.map_cons, List.map_nil]); first | done | rfl | (simp only [List.length_drop, List.length_take]; rfl)) ?_; (with_reducible refine (impl_AdlerJoin.calls a0 a1 a2 t102 _ A5.out).mono ?_); rintro e w' ⟨rfl, ⟨nd, rfl⟩⟩; refine ⟨_, rfl, ?_⟩))
    go_ret
    exact ⟨by first | rfl | (simp; done) | (simp [*]; done), by repeat (first | exact Drawn0.refl _ | apply Drawn0.step)⟩

/-- THE ONE PURE STATEMENT of laws_FnExactAdlerJoin: yours. -/
def laws_FnExactAdlerJoin.Pure : Prop := ∀ (a0 : Int) (a1 : Int) (a2 : Int), (Lit.int .u32 a0).wf = true → (Lit.int .u32 a1).wf = true → (Lit.int .i64 a2).wf = true → laws_FnExactAdlerJoin.f a0 a1 a2 = some true
theorem laws_FnExactAdlerJoin.walk (P : laws_FnExactAdlerJoin.Pure) (a0 : Int) (a1 : Int) (a2 : Int) (w : World) (w0 : (Lit.int .u32 a0).wf = true) (w1 : (Lit.int .u32 a1).wf = true) (w2 : (Lit.int .i64 a2).wf = true) :
    Calls Try.prog 4 #[.int .u32 a0, .int .u32 a1, .int .i64 a2] w fun e w' => e = .returned (.bool true) ∧ Below w.heap.size w w' := by
  have h := P a0 a1 a2 w0 w1 w2
  refine (laws_FnExactAdlerJoin.calls a0 a1 a2 true w h).mono ?_
  rintro e w' ⟨rfl, hd⟩
  exact ⟨rfl, hd.below⟩

end Go.Proofs.Ytplemlkdjgcoiaa.PFnExactAdlerJoin
