/-
  The decoder that is fed: what a byte does to it.
-/
import Derived.Test.YtkbihipgnlglbaaGreatDoorMc3
import Derived.Test.YtkbihipgnlglbaaGreatDoorMc4
import Derived.Test.YtkbihipgnlglbaaGreatDoorMc5
import Derived.Test.YtkbihipgnlglbaaGreatDoorMc6
import Derived.Test.YtkbihipgnlglbaaGreatDoorPu1
namespace Go.Proofs.YtkbihipgnlglbaaGreatDoor
open Go.RowKit

/-- a decoder that is fed, in a world -/
structure MS (B0 : Nat) (W0 : World) (g : Nat) (c : Ck) (w : World) : Prop where
  blk : ∃ K v, Blk w g 66 (mC c.st c.size c.digits c.left K (bs c.line) c.lines c.status v) ∧ BytesAt w v c.body ∧ (∀ k, v.ownBlock = some k → B0 ≤ k)
  base : B0 ≤ g
  below : Below B0 W0 w
/-- what takes a byte in a state -/
def mF : Nat → Nat
  | 0 => 56
  | 1 => 57
  | 2 => 58
  | 3 => 59
  | 4 => 60
  | 5 => 61
  | _ => 62
/-- the maps of a world stand in another -/
def MapsKept (w w' : World) : Prop := ∀ (b : Nat) (es : Array MapEntry) (q : Nat), w.heap[b]? = some (.map es q) → w'.heap[b]? = some (.map es q)
theorem MapsKept.grown {w w' : World} {row : Option Nat} (hg : w.grownBy w' row) (hr : ∀ k, row = some k → ∃ cs T fz, w.heap[k]? = some (.cells cs T fz)) : MapsKept w w' := by
  intro b es q h
  rw [hg.block b (Array.getElem?_eq_some_iff.1 h).1 (fun e => by
    obtain ⟨cs, T, fz, hk⟩ := hr b e.symm
    rw [hk] at h; cases h)]
  exact h
theorem MapsKept.trans {w w1 w2 : World} (h : MapsKept w w1) (k : MapsKept w1 w2) : MapsKept w w2 := fun b es q hb => k b es q (h b es q hb)
theorem BytesAt.kind {w : World} {v : Value} {xs : List UInt8} (h : BytesAt w v xs) : ∀ k, v.ownBlock = some k → ∃ cs T fz, w.heap[k]? = some (.cells cs T fz) := by
  obtain ⟨g, cap, cur, fz, rfl, hg, _⟩ := h
  intro k hk
  simp [Value.ownBlock] at hk
  subst hk
  exact ⟨_, _, _, hg⟩
theorem ms_post {B0 : Nat} {W0 w w' : World} {g : Nat} {c' : Ck} {e : Ending} {K : ByteArray} {v : Value} {cs cs0 : Array Value} (hB : Blk w g 66 cs0) (hBy : BytesAt w v c'.body) (hk : ∀ k, v.ownBlock = some k → B0 ≤ k) (hb : B0 ≤ g) (hbel : Below B0 W0 w)
    (hP : McPost g cs w e w') (hcs : cs = mC c'.st c'.size c'.digits c'.left K (bs c'.line) c'.lines c'.status v) : e = .returned (.tuple #[]) ∧ MS B0 W0 g c' w' ∧ MapsKept w w' := by
  obtain ⟨he, h1, h2⟩ := hP
  have hne := hBy.ne hB (by decide)
  subst hcs
  exact ⟨he, ⟨⟨K, v, h1, hBy.kept h2 hne, hk⟩, hb, hbel.grown h2 (by have := hB.lt; omega) (fun k hk => by injection hk with hk; omega)⟩, .grown h2 (fun k hk => by injection hk with hk; subst hk; exact ⟨_, _, _, hB⟩)⟩
theorem bs_nil : bs [] = ⟨#[]⟩ := rfl
theorem bs_snoc (l : List UInt8) (b : UInt8) : bs l ++ ⟨#[b]⟩ = bs (l ++ [b]) := by
  apply ba_ext
  show (bs l ++ ⟨#[b]⟩ : ByteArray).data.toList = l ++ [b]
  rw [ByteArray.data_append, Array.toList_append]; rfl
theorem u8_is (b : UInt8) (n : Nat) (hn : n < 256) : ((b.toNat : Int) = (n : Int)) ↔ b = UInt8.ofNat n := by
  constructor
  · intro h
    apply UInt8.toNat_inj.1
    rw [UInt8.toNat_ofNat']
    have : b.toNat = n := by omega
    rw [this, Nat.mod_eq_of_lt (by simpa using hn)]
  · intro h
    rw [h, UInt8.toNat_ofNat', Nat.mod_eq_of_lt (by simpa using hn)]
theorem size_ok {c : Ck} (h : OkC c) : c.size < 4294967296 := by
  have h1 := h.size
  have h2 : 16 ^ c.digits ≤ 16 ^ 8 := Nat.pow_le_pow_right (by omega) h.digits
  omega
set_option maxHeartbeats 4000000 in
theorem mStep {B0 : Nat} {W0 w : World} {g : Nat} {c : Ck} (hc : OkC c) (ho : overC c = false) (h : MS B0 W0 g c w) (te : TypeId) (pe : Value) (hv : W0.cell? ⟨4, 0, none⟩ = some (.iface te pe)) (h0 : 4 < B0) (b : UInt8) :
    Calls Tryz.prog (mF c.st) #[.pointer (some ⟨g, 0, none⟩), .int .u8 (b.toNat : Int)] w fun e w' => e = .returned (.tuple #[]) ∧ MS B0 W0 g (stepC c b) w' ∧ MapsKept w w' := by
  obtain ⟨⟨K, v, hB, hBy, hk⟩, hb, hbel⟩ := h
  have h13 : ((b.toNat : Int) = 13) ↔ b = 13 := u8_is b 13 (by omega)
  have h10 : ((b.toNat : Int) = 10) ↔ b = 10 := u8_is b 10 (by omega)
  have hst := hc.st
  have hsz := size_ok hc
  have hdg := hc.digits
  have hbd := hc.body
  have hln := hc.len
  have hmx := hc.max
  obtain ⟨st, size, digits, left, body, line, lines, status⟩ := c
  simp only at *
  have hno : st ≠ 7 ∧ st ≠ 8 := by simpa [overC] using ho
  have hcase : st = 0 ∨ st = 1 ∨ st = 2 ∨ st = 3 ∨ st = 4 ∨ st = 5 ∨ st = 6 := by omega
  have P : ∀ {cs : Array Value} (c' : Ck) (K' : ByteArray), c'.body = body → cs = mC c'.st c'.size c'.digits c'.left K' (bs c'.line) c'.lines c'.status v → ∀ e w', McPost g cs w e w' → e = .returned (.tuple #[]) ∧ MS B0 W0 g c' w' ∧ MapsKept w w' := fun c' K' hbo hcs e w' hP => ms_post hB (by rw [hbo]; exact hBy) hk hb hbel hP hcs
  rcases hcase with rfl | rfl | rfl | rfl | rfl | rfl | rfl
  · have hV := mValue b w te pe ((hbel.cell h0).trans hv)
    have hd : -1 ≤ digI b ∧ digI b ≤ 15 := by
      unfold digI
      split
      · rename_i v hv; have := hexV_lt hv; omega
      · omega
    refine (mSize0 (digI b) 0 left size digits K (bs line) lines status b v hd hsz hdg g w hB hV).mono fun e w' hP => ?_
    unfold stepC
    simp only [if_pos]
    unfold digI at hP
    cases hx : hexV b with
    | some d =>
      rw [hx] at hP
      simp only at hP ⊢
      have hd16 := hexV_lt hx
      have h13' : ¬ b = 13 := fun e => by rw [e, show hexV 13 = none from rfl] at hx; cases hx
      by_cases h8 : digits < 8
      · rw [if_pos ⟨by omega, h8⟩] at hP
        rw [if_pos h8]
        exact P ⟨0, 16 * size + d, digits + 1, left, body, line, lines, status⟩ K rfl (by simp) e w' hP
      · rw [if_neg (fun h => h8 h.2), if_neg (fun h => h13' h.1)] at hP
        rw [if_neg h8]
        exact P (badC _ 400) ⟨#[]⟩ rfl rfl e w' hP
    | none =>
      rw [hx] at hP
      simp only at hP ⊢
      rw [if_neg (fun h => by omega)] at hP
      by_cases hq : b = 13 ∧ 0 < digits
      · rw [if_pos hq] at hP ⊢
        exact P ⟨1, size, digits, left, body, line, lines, status⟩ K rfl rfl e w' hP
      · rw [if_neg hq] at hP ⊢
        exact P (badC _ 400) ⟨#[]⟩ rfl rfl e w' hP
  · obtain ⟨g6, cap6, rfl⟩ := hBy.shape
    have hl0 : lines = 0 := by have := hc.lines; simp at this; omega
    subst hl0
    refine (mSized 1 digits left size K (bs line) (0 : Nat) status (b.toNat : Int) (some ⟨g6, 0, none⟩) body.length cap6 (by omega) hsz g w hB).mono fun e w' hP => ?_
    have E : stepC ⟨1, size, digits, left, body, line, 0, status⟩ b = if b ≠ 10 then badC ⟨1, size, digits, left, body, line, 0, status⟩ 400 else if size = 0 then ⟨5, 0, 0, 0, body, [], 0, 0⟩ else if 2048 < body.length + size then badC ⟨1, size, digits, left, body, line, 0, status⟩ 413 else ⟨2, 0, 0, size, body, [], 0, 0⟩ := by simp [stepC]
    rw [E]
    by_cases q1 : b = 10
    · rw [if_neg (fun h => h (h10.2 q1))] at hP
      rw [if_neg (fun h => h q1)]
      by_cases q2 : size = 0
      · rw [if_pos q2] at hP ⊢
        exact P ⟨5, 0, 0, 0, body, [], 0, 0⟩ ⟨#[]⟩ rfl rfl e w' hP
      · rw [if_neg q2] at hP ⊢
        by_cases q3 : 2048 < body.length + size
        · rw [if_pos q3] at hP ⊢
          exact P (badC _ 413) ⟨#[]⟩ rfl rfl e w' hP
        · rw [if_neg q3] at hP ⊢
          exact P ⟨2, 0, 0, size, body, [], 0, 0⟩ ⟨#[]⟩ rfl rfl e w' hP
    · rw [if_pos (fun h => q1 (h10.1 h))] at hP
      rw [if_pos q1]
      exact P (badC _ 400) ⟨#[]⟩ rfl rfl e w' hP
  · have hl0 : lines = 0 := by have := hc.lines; simp at this; omega
    have hz0 : size = 0 ∧ digits = 0 := by have := hc.sized; simp at this; omega
    have hle : 0 < left := by have := hc.left; simpa using this
    have hli : line = [] := by have := hc.line; simpa using this
    have hsa : status = 0 := by have := hc.bad; simp at this; omega
    obtain ⟨rfl, rfl⟩ := hz0
    subst hl0 hli hsa
    refine (mData 2 (0 : Nat) (0 : Nat) left K (bs []) (0 : Nat) (0 : Nat) b v body hle (by omega) (by omega) g w hB hBy).mono fun e w' ⟨he, v', w5, hA, hB', hG, hR, hK⟩ => ?_
    have hne := hBy.ne hB (by decide)
    have hl5 : w.heap.size ≤ w5.heap.size := hG.size
    have hk' : ∀ k, v'.ownBlock = some k → B0 ≤ k := fun k h => by
      rcases hK k h with h | h
      · exact hk k h
      · have := hB.lt; omega
    have hbel5 : Below B0 W0 w5 := hbel.grown hG (by have := hB.lt; omega) hk
    refine ⟨he, ⟨?_, hb, hbel5.grown hR (by have := hB.lt; omega) (fun k hk => by injection hk with hk; omega)⟩, (MapsKept.grown hG hBy.kind).trans (.grown hR (fun k hk => by injection hk with hk; subst hk; exact ⟨_, _, _, hB.grownBy hG hne⟩))⟩
    have E : stepC ⟨2, 0, 0, left, body, [], 0, 0⟩ b = ⟨if left = 1 then 3 else 2, 0, 0, left - 1, body ++ [b], [], 0, 0⟩ := by simp [stepC]
    rw [E]
    by_cases q : left = 1
    · subst q
      exact ⟨⟨#[]⟩, v', hB', hA, hk'⟩
    · rw [if_neg q] at hB' ⊢
      exact ⟨K, v', hB', hA, hk'⟩
  · have hl0 : lines = 0 := by have := hc.lines; simp at this; omega
    subst hl0
    refine (mAfter 3 size digits left K (bs line) (0 : Nat) status v (b.toNat : Int) g w hB).mono fun e w' hP => ?_
    have E : stepC ⟨3, size, digits, left, body, line, 0, status⟩ b = if b = 13 then ⟨4, 0, 0, 0, body, [], 0, 0⟩ else badC ⟨3, size, digits, left, body, line, 0, status⟩ 400 := by simp [stepC]
    rw [E]
    by_cases q1 : b = 13
    · rw [if_pos (h13.2 q1)] at hP
      rw [if_pos q1]
      exact P ⟨4, 0, 0, 0, body, [], 0, 0⟩ ⟨#[]⟩ rfl rfl e w' hP
    · rw [if_neg (fun h => q1 (h13.1 h))] at hP
      rw [if_neg q1]
      exact P (badC _ 400) ⟨#[]⟩ rfl rfl e w' hP
  · have hl0 : lines = 0 := by have := hc.lines; simp at this; omega
    subst hl0
    refine (mBehind 4 size digits left K (bs line) (0 : Nat) status v (b.toNat : Int) g w hB).mono fun e w' hP => ?_
    have E : stepC ⟨4, size, digits, left, body, line, 0, status⟩ b = if b = 10 then ⟨0, 0, 0, 0, body, [], 0, 0⟩ else badC ⟨4, size, digits, left, body, line, 0, status⟩ 400 := by simp [stepC]
    rw [E]
    by_cases q1 : b = 10
    · rw [if_pos (h10.2 q1)] at hP
      rw [if_pos q1]
      exact P ⟨0, 0, 0, 0, body, [], 0, 0⟩ ⟨#[]⟩ rfl rfl e w' hP
    · rw [if_neg (fun h => q1 (h10.1 h))] at hP
      rw [if_neg q1]
      exact P (badC _ 400) ⟨#[]⟩ rfl rfl e w' hP
  · have hz0 : size = 0 ∧ digits = 0 := by have := hc.sized; simp at this; omega
    have hle : left = 0 := by have := hc.left; simp at this; omega
    have hsa : status = 0 := by have := hc.bad; simp at this; omega
    obtain ⟨rfl, rfl⟩ := hz0
    subst hle hsa
    refine (mTrailer 5 (0 : Nat) (0 : Nat) (0 : Nat) K (bs line) lines (0 : Nat) b v (by rw [bs_size]; omega) hmx g w hB).mono fun e w' hP => ?_
    have E : stepC ⟨5, 0, 0, 0, body, line, lines, 0⟩ b = if b = 13 then ⟨6, 0, 0, 0, body, line, lines, 0⟩ else if b = 10 then badC ⟨5, 0, 0, 0, body, line, lines, 0⟩ 400 else if (line = [] ∧ lines = 32) ∨ line.length = 512 then badC ⟨5, 0, 0, 0, body, line, lines, 0⟩ 431 else ⟨5, 0, 0, 0, body, line ++ [b], lines, 0⟩ := by simp [stepC]
    rw [E]
    by_cases q1 : b = 13
    · rw [if_pos q1] at hP ⊢
      exact P ⟨6, 0, 0, 0, body, line, lines, 0⟩ K rfl rfl e w' hP
    · rw [if_neg q1] at hP ⊢
      by_cases q2 : b = 10
      · rw [if_pos q2] at hP ⊢
        exact P (badC _ 400) ⟨#[]⟩ rfl rfl e w' hP
      · rw [if_neg q2] at hP ⊢
        simp only [bs_size, List.length_eq_zero_iff] at hP
        by_cases q3 : (line = [] ∧ lines = 32) ∨ line.length = 512
        · rw [if_pos q3] at hP ⊢
          exact P (badC _ 431) ⟨#[]⟩ rfl rfl e w' hP
        · rw [if_neg q3, bs_snoc] at hP
          rw [if_neg q3]
          exact P ⟨5, 0, 0, 0, body, line ++ [b], lines, 0⟩ K rfl rfl e w' hP
  · have hz0 : size = 0 ∧ digits = 0 := by have := hc.sized; simp at this; omega
    have hle : left = 0 := by have := hc.left; simp at this; omega
    have hsa : status = 0 := by have := hc.bad; simp at this; omega
    obtain ⟨rfl, rfl⟩ := hz0
    subst hle hsa
    refine (mLast 6 (0 : Nat) (0 : Nat) (0 : Nat) K (bs line) lines (0 : Nat) (b.toNat : Int) v (by rw [bs_size]; omega) hmx g w hB).mono fun e w' hP => ?_
    have E : stepC ⟨6, 0, 0, 0, body, line, lines, 0⟩ b = if b ≠ 10 then badC ⟨6, 0, 0, 0, body, line, lines, 0⟩ 400 else if line = [] then ⟨7, 0, 0, 0, body, [], lines, 0⟩ else if (colT line).2.2 ≠ 0 then badC ⟨6, 0, 0, 0, body, line, lines, 0⟩ 400 else ⟨5, 0, 0, 0, body, [], lines + 1, 0⟩ := by simp [stepC]
    rw [E]
    simp only [bs_size, List.length_eq_zero_iff, show (bs line).data.toList = line from rfl] at hP
    by_cases q1 : b = 10
    · rw [if_neg (fun h => h (h10.2 q1))] at hP
      rw [if_neg (fun h => h q1)]
      by_cases q2 : line = []
      · rw [if_pos q2] at hP ⊢
        exact P ⟨7, 0, 0, 0, body, [], lines, 0⟩ ⟨#[]⟩ rfl rfl e w' hP
      · rw [if_neg q2] at hP ⊢
        by_cases q3 : (colT line).2.2 ≠ 0
        · rw [if_pos q3] at hP ⊢
          exact P (badC _ 400) ⟨#[]⟩ rfl rfl e w' hP
        · rw [if_neg q3] at hP ⊢
          exact P ⟨5, 0, 0, 0, body, [], lines + 1, 0⟩ ⟨#[]⟩ rfl rfl e w' hP
    · rw [if_pos (fun h => q1 (h10.1 h))] at hP
      rw [if_pos q1]
      exact P (badC _ 400) ⟨#[]⟩ rfl rfl e w' hP
end Go.Proofs.YtkbihipgnlglbaaGreatDoor
