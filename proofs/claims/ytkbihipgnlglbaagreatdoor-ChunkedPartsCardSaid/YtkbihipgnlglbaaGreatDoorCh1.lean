/-
  Chunked bodies in plain words: what is encoded is decoded.
-/
import Derived.Test.YtkbihipgnlglbaaGreatDoorCh0
import Derived.Test.YtkbihipgnlglbaaGreatDoorFnW
namespace Go.Proofs.YtkbihipgnlglbaaGreatDoor
open Go.RowKit

theorem rest_step {c : Ck} (h : OkC c) (b : UInt8) : restC (stepC c b) ≤ restC c := by
  have hb := h.body
  have hl := h.left
  unfold restC
  unfold stepC badC
  repeat' split
  all_goals first
    | exact Nat.le_refl _
    | (simp only; omega)
    | (simp only [List.length_append, List.length_singleton]; omega)
theorem feed_rest (s : List UInt8) : ∀ {c : Ck}, OkC c → restC (feedC c s).1 ≤ restC c := by
  induction s with
  | nil => intro c _; exact Nat.le_refl _
  | cons b r ih =>
    intro c h
    unfold feedC
    split
    · exact Nat.le_refl _
    · exact Nat.le_trans (ih (okC_step h b)) (rest_step h b)
/-- the number that digits say, behind another -/
def hexN (a : Nat) (ds : List UInt8) : Nat := ds.foldl (fun a b => 16 * a + (hexV b).getD 0) a
theorem feed_digs (ds : List UInt8) : ∀ (sz dg : Nat) (B : List UInt8), (∀ b ∈ ds, hexV b ≠ none) → dg + ds.length ≤ 8 → feedC ⟨0, sz, dg, 0, B, [], 0, 0⟩ ds = (⟨0, hexN sz ds, dg + ds.length, 0, B, [], 0, 0⟩, ds.length) := by
  induction ds with
  | nil => intro sz dg B _ _; rfl
  | cons b r ih =>
    intro sz dg B hd hl
    obtain ⟨v, hv⟩ := Option.ne_none_iff_exists'.1 (hd b (by simp))
    have hl' : dg + 1 + r.length ≤ 8 := by simp only [List.length_cons] at hl; omega
    have e : stepC ⟨0, sz, dg, 0, B, [], 0, 0⟩ b = ⟨0, 16 * sz + v, dg + 1, 0, B, [], 0, 0⟩ := by
      unfold stepC
      rw [if_pos rfl, hv]
      simp only
      rw [if_pos (by omega)]
    rw [feedC, if_neg (by simp [overC]), e, ih _ _ _ (fun y hy => hd y (List.mem_cons_of_mem _ hy)) hl']
    have e2 : hexN sz (b :: r) = hexN (16 * sz + v) r := by unfold hexN; rw [List.foldl_cons, hv]; rfl
    rw [e2]
    simp only [List.length_cons, Prod.mk.injEq, and_true]
    congr 1
    omega
theorem feed_data (l : List UInt8) : ∀ (B : List UInt8), l ≠ [] → feedC ⟨2, 0, 0, l.length, B, [], 0, 0⟩ l = (⟨3, 0, 0, 0, B ++ l, [], 0, 0⟩, l.length) := by
  induction l with
  | nil => intro B h; exact absurd rfl h
  | cons b r ih =>
    intro B _
    rw [feedC, if_neg (by simp [overC])]
    by_cases hr : r = []
    · subst hr
      simp [stepC, feedC]
    · have h1 : ¬ (b :: r).length = 1 := by
        have := List.length_pos_iff.2 hr
        simp only [List.length_cons]; omega
      have e : stepC ⟨2, 0, 0, (b :: r).length, B, [], 0, 0⟩ b = ⟨2, 0, 0, r.length, B ++ [b], [], 0, 0⟩ := by
        unfold stepC
        rw [if_neg (by simp), if_neg (by simp), if_pos rfl]
        simp only
        rw [if_neg h1]
        simp
      rw [e, ih _ hr]
      simp
/-- one chunk -/
theorem feed_chunk (ds l B : List UInt8) (hd : ∀ b ∈ ds, hexV b ≠ none) (h1 : 1 ≤ ds.length) (h8 : ds.length ≤ 8) (hn : hexN 0 ds = l.length) (hl : l ≠ []) (hB : B.length + l.length ≤ 2048) :
    feedC ⟨0, 0, 0, 0, B, [], 0, 0⟩ (ds ++ [13, 10] ++ l ++ [13, 10]) = (⟨0, 0, 0, 0, B ++ l, [], 0, 0⟩, (ds ++ [13, 10] ++ l ++ [13, 10]).length) := by
  have hl0 : ¬ l.length = 0 := fun e => hl (List.eq_nil_of_length_eq_zero e)
  have e1 : feedC ⟨0, l.length, ds.length, 0, B, [], 0, 0⟩ [13, 10] = (⟨2, 0, 0, l.length, B, [], 0, 0⟩, 2) := by
    have s1 : stepC ⟨0, l.length, ds.length, 0, B, [], 0, 0⟩ 13 = ⟨1, l.length, ds.length, 0, B, [], 0, 0⟩ := by
      have hp : 0 < ds.length := by omega
      simp [stepC, show hexV 13 = none from rfl, hp]
    have s2 : stepC ⟨1, l.length, ds.length, 0, B, [], 0, 0⟩ 10 = ⟨2, 0, 0, l.length, B, [], 0, 0⟩ := by
      unfold stepC
      rw [if_neg (by simp), if_pos rfl, if_neg (by simp)]
      simp only
      rw [if_neg hl0, if_neg (by omega)]
    rw [feedC, if_neg (by simp [overC]), s1, feedC, if_neg (by simp [overC]), s2]
    rfl
  have e2 : ∀ B : List UInt8, feedC ⟨3, 0, 0, 0, B, [], 0, 0⟩ [13, 10] = (⟨0, 0, 0, 0, B, [], 0, 0⟩, 2) := fun B => by simp [feedC, stepC, overC]
  rw [feed_app, feed_app, feed_app, feed_digs ds 0 0 B hd (by omega), hn]
  simp only [Nat.zero_add]
  rw [e1]
  simp only
  rw [feed_data l B hl]
  simp only
  rw [e2]
  simp
  omega
theorem hexV_hxd (d : Nat) (h : d < 16) : hexV (hxd d) = some d := by
  have key : ∀ d : Fin 16, hexV (hxd d.val) = some d.val := by decide +kernel
  exact key ⟨d, h⟩
theorem hexN_snoc (a : Nat) (ds : List UInt8) (b : UInt8) : hexN a (ds ++ [b]) = 16 * hexN a ds + (hexV b).getD 0 := by simp [hexN]
theorem hexDigits_is (n : Nat) : hexN 0 (hexDigits n) = n ∧ ∀ b ∈ hexDigits n, hexV b ≠ none := by
  induction n using Nat.strongRecOn with
  | ind n ih =>
    by_cases h : n < 16
    · rw [hexDigits_small h]
      refine ⟨by simp [hexN, hexV_hxd n h], fun b hb => ?_⟩
      rw [List.mem_singleton.1 hb, hexV_hxd n h]; simp
    · obtain ⟨i1, i2⟩ := ih (n / 16) (by omega)
      rw [hexDigits_big h]
      refine ⟨by rw [hexN_snoc, i1, hexV_hxd _ (Nat.mod_lt _ (by omega))]; simp; omega, fun b hb => ?_⟩
      rcases List.mem_append.1 hb with hb | hb
      · exact i2 b hb
      · rw [List.mem_singleton.1 hb, hexV_hxd _ (Nat.mod_lt _ (by omega))]; simp
theorem hexDigits_len (n : Nat) (h : n ≤ 2048) : 1 ≤ (hexDigits n).length ∧ (hexDigits n).length ≤ 3 := by
  by_cases h1 : n < 16
  · rw [hexDigits_small h1]; simp
  · rw [hexDigits_big h1]
    by_cases h2 : n / 16 < 16
    · rw [hexDigits_small h2]; simp
    · rw [hexDigits_big h2, hexDigits_small (by omega)]; simp
/-- the size of the next chunk -/
def nextT (body : List UInt8) : List Nat → Nat
  | [] => body.length
  | k :: _ => min body.length k
def encT : Nat → List UInt8 → List Nat → List UInt8
  | 0, _, _ => []
  | f + 1, body, ks => if body = [] then [] else hexDigits (nextT body ks) ++ [13, 10] ++ body.take (nextT body ks) ++ [13, 10] ++ encT f (body.drop (nextT body ks)) ks.tail
def encodeT (body : List UInt8) (ks : List Nat) : List UInt8 := encT body.length body ks ++ [48, 13, 10, 13, 10]
theorem enc_fed (f : Nat) : ∀ (body : List UInt8) (ks : List Nat) (B : List UInt8), body.length ≤ f → (∀ k ∈ ks, 1 ≤ k) → B.length + body.length ≤ 2048 →
    feedC ⟨0, 0, 0, 0, B, [], 0, 0⟩ (encT f body ks) = (⟨0, 0, 0, 0, B ++ body, [], 0, 0⟩, (encT f body ks).length) := by
  induction f with
  | zero =>
    intro body ks B h _ _
    obtain rfl := List.eq_nil_of_length_eq_zero (Nat.le_zero.1 h)
    simp [encT, feedC]
  | succ f ih =>
    intro body ks B h hk hB
    unfold encT
    by_cases hb : body = []
    · subst hb
      simp [feedC]
    · rw [if_neg hb]
      have hp := List.length_pos_iff.2 hb
      have hn : 1 ≤ nextT body ks ∧ nextT body ks ≤ body.length := by
        cases ks with
        | nil => exact ⟨hp, Nat.le_refl _⟩
        | cons k r => have := hk k (by simp); show 1 ≤ min body.length k ∧ min body.length k ≤ body.length; omega
      generalize nextT body ks = n at hn
      obtain ⟨i1, i2⟩ := hexDigits_is n
      obtain ⟨l1, l2⟩ := hexDigits_len n (by omega)
      have htl : (body.take n).length = n := by rw [List.length_take]; omega
      have hc := feed_chunk (hexDigits n) (body.take n) B i2 l1 (by omega) (by rw [i1, htl]) (fun e => by rw [e] at htl; simp at htl; omega) (by omega)
      have hi := ih (body.drop n) ks.tail (B ++ body.take n) (by rw [List.length_drop]; omega) (fun k hk' => hk k (List.mem_of_mem_tail hk')) (by rw [List.length_append, List.length_drop]; omega)
      rw [feed_app, hc]
      simp only
      rw [hi, List.append_assoc B, List.take_append_drop, List.length_append (bs := encT f (body.drop n) ks.tail)]
theorem feed_end (B r : List UInt8) : feedC ⟨0, 0, 0, 0, B, [], 0, 0⟩ ([48, 13, 10, 13, 10] ++ r) = (⟨7, 0, 0, 0, B, [], 0, 0⟩, 5) := by
  rw [feed_app]
  have e : feedC ⟨0, 0, 0, 0, B, [], 0, 0⟩ [48, 13, 10, 13, 10] = (⟨7, 0, 0, 0, B, [], 0, 0⟩, 5) := by simp [feedC, stepC, overC, hexV]
  rw [e]
  simp only
  rw [feed_over rfl]
  rfl
/-- what is encoded is decoded, whatever follows -/
theorem decode_encode (body : List UInt8) (ks : List Nat) (hk : ∀ k ∈ ks, 1 ≤ k) (hb : body.length ≤ 2048) (r : List UInt8) : decodeT (encodeT body ks ++ r) = (body, (encodeT body ks).length, 200) := by
  have h : feedC newC (encodeT body ks ++ r) = (⟨7, 0, 0, 0, body, [], 0, 0⟩, (encodeT body ks).length) := by
    unfold encodeT newC
    rw [List.append_assoc, feed_app, enc_fed body.length body ks [] (Nat.le_refl _) hk (by simpa using hb)]
    simp only [List.nil_append]
    rw [feed_end]
    simp
  unfold decodeT
  rw [h]
  simp
end Go.Proofs.YtkbihipgnlglbaaGreatDoor
