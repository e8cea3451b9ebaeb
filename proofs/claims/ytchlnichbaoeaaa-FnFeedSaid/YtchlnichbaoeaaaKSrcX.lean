import Derived.Test.YtchlnichbaoeaaaKSkip
import Derived.Test.YtchlnichbaoeaaaTyBits
import Derived.Test.YtchlnichbaoeaaaTrBM
set_option linter.unusedVariables false
set_option linter.unusedSimpArgs false
namespace Go.Proofs.Ytchlnichbaoeaaa
open Go Go.Eng Go.IntWalk
variable {S : Nat → Prop} {h : Eng.Heap}

def nilBits : XBits := ([], 0, 0, ())
def hasX (x : XBits) (n : Int) : Prop := n ≤ 8 * (x.1.length : Int) - x.2.1 ∧ x.2.2.1 + n ≤ 34359738368
instance (x : XBits) (n : Int) : Decidable (hasX x n) := by unfold hasX; infer_instance
def skipX (x : XBits) (n : Int) : XBits := (x.1.drop ((x.2.1 + n) / 8).toNat, (x.2.1 + n) % 8, x.2.2.1 + n, ())
theorem skipX_zero {x : XBits} (h0 : x.2.1 = 0) : skipX x 0 = x := by
  obtain ⟨xs, p, q, ⟨⟩⟩ := x
  simp only at h0; subst h0
  simp [skipX]

theorem tBits_nil : tBits.O h (.agg #[.slice none 0 0, .int .i64 0, .int .i64 0]) nilBits := tBits_mkO (x := nilBits) Part.nil
theorem tBits_nilNew : tBits.New h (.agg #[.slice none 0 0, .int .i64 0, .int .i64 0]) := fun b hb => by
  have := (tBits_B (x := nilBits)).1 hb
  cases this

/-- The source's block, made by the code itself: what it holds. -/
def SrcV (h0 h : Eng.Heap) (b : Nat) (T : TypeId) (x : XBits) (a : Option Addr) (c : Nat) : Prop :=
  h b = some (srcObj (.slice a x.1.length c) x.2.1 x.2.2.1 T) ∧ Part .u8 h (.slice a x.1.length c) x.1 ∧ Eng.New h0 (.slice a x.1.length c) ∧ Eng.Sub h0 h ∧ blkOf (.slice a x.1.length c) ≠ some b ∧ h0 b = none
def SrcAt (h0 h : Eng.Heap) (b : Nat) (T : TypeId) (x : XBits) : Prop := ∃ a c, SrcV h0 h b T x a c

variable {h0 h1 : Eng.Heap} {x : XBits} {b : Nat} {T : TypeId}

theorem SrcV.mono {a : Option Addr} {c : Nat} (H : SrcV h0 h b T x a c) (s : Eng.Sub h h1) : SrcV h0 h1 b T x a c := by
  obtain ⟨hb, P, N, s0, hne, hn⟩ := H
  exact ⟨s b _ hb, P.sub s, N, s0.trans s, hne, hn⟩
theorem SrcAt.sub (H : SrcAt h0 h b T x) : Eng.Sub h0 h := by obtain ⟨_, _, _, _, _, s, _⟩ := H; exact s

theorem src_zero (T : TypeId) : Obj.cells (Value.slice none 0 0 :: List.replicate 2 (Value.int IntKind.i64 0)).toArray T = srcObj (.slice none 0 0) 0 0 T := rfl

theorem SrcAt.made (hi : Eng.Inv S h0) (s1 : Eng.Sub h0 h1) {a : Option Addr} {l c : Nat} {xs : List Int} {p q : Int} (o1 : Part .u8 h1 (.slice a l c) xs) (n1 : Eng.New h0 (.slice a l c)) (hb : h1 b = none) (T : TypeId) :
    okCell S (upd h1 b (srcObj (.slice none 0 0) 0 0 T)) ((⟨b, 0, none⟩ : Addr).add 0) ∧
    okCell S (hset (upd h1 b (srcObj (.slice none 0 0) 0 0 T)) ((⟨b, 0, none⟩ : Addr).add 0) (.slice a l c)) ((⟨b, 0, none⟩ : Addr).add 1) ∧
    okCell S (hset (hset (upd h1 b (srcObj (.slice none 0 0) 0 0 T)) ((⟨b, 0, none⟩ : Addr).add 0) (.slice a l c)) ((⟨b, 0, none⟩ : Addr).add 1) (.int .i64 p)) ((⟨b, 0, none⟩ : Addr).add (1 + 1)) ∧
    hset (hset (hset (upd h1 b (srcObj (.slice none 0 0) 0 0 T)) ((⟨b, 0, none⟩ : Addr).add 0) (.slice a l c)) ((⟨b, 0, none⟩ : Addr).add 1) (.int .i64 p)) ((⟨b, 0, none⟩ : Addr).add (1 + 1)) (.int .i64 q) = upd h1 b (srcObj (.slice a l c) p q T) ∧
    SrcAt h0 (upd h1 b (srcObj (.slice a l c) p q T)) b T (xs, p, q, ()) := by
  have hbn : h0 b = none := sub_none s1 hb
  have hsb : ¬ S b := fun hs => hi b hs hbn
  obtain ⟨f1, f2, f3, f4⟩ := src_fill (S := S) (h1 := h1) (b := b) (v0 := .slice none 0 0) (v := .slice a l c) (p0 := 0) (q0 := 0) (p := p) (q := q) (T := T) hsb
  obtain ⟨a', c', e, _, _⟩ := o1.ints
  cases e
  have hne : blkOf (.slice a xs.length c) ≠ some b := fun e => o1.held b e hb
  exact ⟨f1, f2, f3, f4, a, c, upd_same, o1.keep fun y hy => upd_ne fun e => hne (by rw [hy, e]), n1, Sub.upd_new s1 hbn, hne, hbn⟩

theorem k_leftX (hi : Eng.Inv S h0) (H : SrcAt h0 h b T x) (hl : x.1.length ≤ 1048576) (hp : 0 ≤ x.2.1 ∧ x.2.1 ≤ 7) (hq : 0 ≤ x.2.2.1 ∧ x.2.2.1 ≤ 34359738368) :
    CallsH Try.prog S F_impl_source__left #[.pointer (some ⟨b, 0, none⟩)] h (fun v h' => v = .int .i64 (min (8 * (x.1.length : Int) - x.2.1) (34359738368 - x.2.2.1)) ∧ h' = h) := by
  obtain ⟨a, c, hb, P, N, s, hne, hn⟩ := H
  exact k_left (hi.sub s) hb hl hp hq

theorem k_skipV {a : Option Addr} {c : Nat} (hi : Eng.Inv S h0) (H : SrcV h0 h b T x a c) (n : Int) (hl : x.1.length ≤ 1048576) (hp : 0 ≤ x.2.1 ∧ x.2.1 ≤ 7) (hq : 0 ≤ x.2.2.1 ∧ x.2.2.1 ≤ 34359738368) (hn : 0 ≤ n ∧ n ≤ 8 * (x.1.length : Int) - x.2.1) :
    CallsH Try.prog S F_impl_source__skip #[.pointer (some ⟨b, 0, none⟩), .int .i64 n] h (fun v h' => v = .tuple #[] ∧ ∃ a' c', SrcV h0 h' b T (skipX x n) a' c' ∧ blkOf (.slice a' (skipX x n).1.length c') = blkOf (.slice a x.1.length c) ∧ ∀ y, y ≠ b → h' y = h y) := by
  obtain ⟨hb, P, N, s, hne, hbn⟩ := H
  refine (k_skip (hi.sub s) hb (fun hs => hi b hs hbn) P hne n hl hp hq hn).mono ?_
  rintro _ h2 ⟨rfl, a', l', c', rfl, P', e⟩
  obtain ⟨a3, c3, e3, _, _⟩ := P'.ints
  cases e3
  exact ⟨rfl, a', c', ⟨upd_same, P', fun y hy => N y (by rw [← e]; exact hy), Sub.upd_new s hbn, fun hy => hne (e ▸ hy), hbn⟩, e, fun y hy => upd_ne hy⟩

theorem k_skipX (hi : Eng.Inv S h0) (H : SrcAt h0 h b T x) (n : Int) (hl : x.1.length ≤ 1048576) (hp : 0 ≤ x.2.1 ∧ x.2.1 ≤ 7) (hq : 0 ≤ x.2.2.1 ∧ x.2.2.1 ≤ 34359738368) (hn : 0 ≤ n ∧ n ≤ 8 * (x.1.length : Int) - x.2.1) :
    CallsH Try.prog S F_impl_source__skip #[.pointer (some ⟨b, 0, none⟩), .int .i64 n] h (fun v h' => v = .tuple #[] ∧ SrcAt h0 h' b T (skipX x n)) := by
  obtain ⟨a, c, H⟩ := H
  refine (k_skipV hi H n hl hp hq hn).mono ?_
  rintro _ h2 ⟨rfl, a', c', SB, _, _⟩
  exact ⟨rfl, a', c', SB⟩

/-- The end of each of these functions: the source's three cells are read, bits() hands them out. -/
theorem k_bitsV {a : Option Addr} {c : Nat} (hi : Eng.Inv S h0) (H : SrcV h0 h b T x a c) {Q : Value → Eng.Heap → Prop}
    (hQ : tBits.O h (.agg #[.slice a x.1.length c, .int .i64 x.2.1, .int .i64 x.2.2.1]) x → tBits.New h0 (.agg #[.slice a x.1.length c, .int .i64 x.2.1, .int .i64 x.2.2.1]) → Q (.agg #[.slice a x.1.length c, .int .i64 x.2.1, .int .i64 x.2.2.1]) h) :
    ∃ a l c p q, (hcell h ((⟨b, 0, none⟩ : Addr).add 0) = some (.slice a l c) ∧ hcell h ((⟨b, 0, none⟩ : Addr).add 1) = some (.int .i64 p) ∧ hcell h ((⟨b, 0, none⟩ : Addr).add (1 + 1)) = some (.int .i64 q)) ∧
      CallsH Try.prog S F_impl_source__bits #[.agg #[.slice a l c, .int .i64 p, .int .i64 q]] h Q := by
  obtain ⟨hb, P, N, s, hne, hbn⟩ := H
  refine ⟨_, _, _, _, _, src_ld hb, ?_⟩
  refine (k_bits (hi.sub s) _ _ _ _ _).mono ?_
  rintro _ hq ⟨rfl, eq⟩
  rw [eq]
  exact hQ (tBits_mkO P) fun y hy => N y (tBits_B.1 hy)

theorem k_bitsX (hi : Eng.Inv S h0) (H : SrcAt h0 h b T x) {Q : Value → Eng.Heap → Prop}
    (hQ : ∀ a c, tBits.O h (.agg #[.slice a x.1.length c, .int .i64 x.2.1, .int .i64 x.2.2.1]) x → tBits.New h0 (.agg #[.slice a x.1.length c, .int .i64 x.2.1, .int .i64 x.2.2.1]) → Q (.agg #[.slice a x.1.length c, .int .i64 x.2.1, .int .i64 x.2.2.1]) h) :
    ∃ a l c p q, (hcell h ((⟨b, 0, none⟩ : Addr).add 0) = some (.slice a l c) ∧ hcell h ((⟨b, 0, none⟩ : Addr).add 1) = some (.int .i64 p) ∧ hcell h ((⟨b, 0, none⟩ : Addr).add (1 + 1)) = some (.int .i64 q)) ∧
      CallsH Try.prog S F_impl_source__bits #[.agg #[.slice a l c, .int .i64 p, .int .i64 q]] h Q := by
  obtain ⟨a, c, H⟩ := H
  exact k_bitsV hi H (hQ a c)
end Go.Proofs.Ytchlnichbaoeaaa
