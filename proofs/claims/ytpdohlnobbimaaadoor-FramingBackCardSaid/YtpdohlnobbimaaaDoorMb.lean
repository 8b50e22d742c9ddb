/-
  Sets as maps of bools that the call makes: the look-up, the length.
-/
import Derived.Maps.OwnSet
import Derived.Test.YtpdohlnobbimaaaDoorBase
namespace Go.Proofs.YtpdohlnobbimaaaDoor
open Go.RowKit
open Go.Maps (Keyed IsMap Tidy setOf)

theorem atKey_fold {H : Type} (u z : DataW H) (k : Lit) : ∀ (acc : List Lit) (m : DataW H), IsMap m → (∀ x ∈ acc, WideAt.IsKeyLit x) →
    (acc.foldl (fun m x => m.put x u) m).atKey k z = if acc.any (fun x => x.sameKey k) = true then u else m.atKey k z
  | [], m, _, _ => by simp
  | x :: r, m, hm, h => by
    rw [List.foldl_cons, atKey_fold u z k r (m.put x u) (hm.put x u) (fun y hy => h y (by simp [hy])), List.any_cons]
    by_cases e : x = k
    · subst e
      rw [Maps.atKey_put_same hm (h x (by simp)), WideAt.sameKey_self (h x (by simp))]
      simp
    · rw [Maps.atKey_put_other (fun e' => e e'.symm), Maps.sameKey_ne e, Bool.false_or]
theorem atKey_setOf {H : Type} (u z : DataW H) (k : Lit) (acc : List Lit) (h : ∀ x ∈ acc, WideAt.IsKeyLit x) :
    (setOf u acc).atKey k z = if acc.any (fun x => x.sameKey k) = true then u else z := by
  rw [setOf, atKey_fold u z k acc _ Maps.isMap_empty h]
  rfl
theorem plainElem_bool_inv {H : Type} {P : Program} {e : TypeId} (he : P.underlying e = some .bool) {v : Value} {z : DataW H × List MemPlace} (h : plainElem P e v = some z) : ∃ a, v = .bool a ∧ z = (.lit (.bool a), []) := by
  unfold plainElem at h
  rw [he] at h
  cases v <;> simp at h
  exact ⟨_, rfl, h.symm⟩
/-- 'm[k]' of a set that the call filled -/
theorem lookup_set {P : Program} {w : World} {k e t : TypeId} {b n : Nat} {acc : List Lit} (h : w.ownsMap P k (plainElem (H := Unit) P e) b n (setOf (.lit (.bool true)) acc)) (K : Keyed P k) (ht : P.underlying t = some (.map k e)) (he : P.underlying e = some .bool)
    (hz : (zeroValue e).run P w = .ok (.bool false) w) {key : Value} {kl : Lit} (hkey : keyOf P k key = some kl) (hacc : ∀ x ∈ acc, WideAt.IsKeyLit x) :
    (Instr.lookup t (.map (some b)) key false).run P w = .ok (.bool (acc.any (fun x => x.sameKey kl))) w := by
  obtain ⟨v, ps, hrun, hv⟩ := h.lookup K ht hz (plainElem_bool he false) hkey
  obtain ⟨a, rfl, ha⟩ := plainElem_bool_inv he hv
  rw [hrun, atKey_setOf _ _ _ _ hacc] at *
  cases hc : acc.any (fun x => x.sameKey kl) with
  | true => rw [hc, if_pos rfl] at ha; injection ha with h1 _; injection h1 with h1; injection h1 with h1; rw [h1]
  | false => rw [hc, if_neg (by simp)] at ha; injection ha with h1 _; injection h1 with h1; injection h1 with h1; rw [h1]

/-- the numbers of a list as keys -/
def natKeys (acc : List Nat) : List Lit := acc.map fun i : Nat => Lit.int .i64 (i : Int)
theorem natKeys_app (a b : List Nat) : natKeys (a ++ b) = natKeys a ++ natKeys b := by simp [natKeys]
theorem natKeys_key (acc : List Nat) : ∀ x ∈ natKeys acc, WideAt.IsKeyLit x := by
  intro x hx
  obtain ⟨i, _, rfl⟩ := List.mem_map.1 hx
  trivial
theorem natKeys_any (acc : List Nat) (k : Nat) : (natKeys acc).any (fun x => x.sameKey (.int .i64 (k : Int))) = acc.contains k := by
  unfold natKeys
  rw [List.any_map, List.contains_eq_any_beq]
  congr 1
  funext i
  simp only [Function.comp, Lit.sameKey]
  rw [Bool.eq_iff_iff, beq_iff_eq]
  simp
  omega
theorem countP_add (p : Nat → Bool) (x L : Nat) (hx : x < L) (hp : p x = false) : (List.range L).countP (fun i => p i || i == x) = (List.range L).countP p + 1 := by
  induction L with
  | zero => omega
  | succ L ih =>
    rw [List.range_succ, List.countP_append, List.countP_append]
    by_cases hl : x = L
    · subst hl
      have : (List.range x).countP (fun i => p i || i == x) = (List.range x).countP p := by
        apply List.countP_congr
        intro i hi
        have := List.mem_range.1 hi
        have hne : (i == x) = false := beq_eq_false_iff_ne.2 (by omega)
        simp [hne]
      rw [this]
      simp [hp]
    · rw [ih (by omega)]
      have hne : (L == x) = false := beq_eq_false_iff_ne.2 (by omega)
      simp [List.countP_cons, hne]
      omega
theorem size_natKeys (L : Nat) (u : DataW Unit) : ∀ (acc : List Nat) (done : List Nat), (∀ i ∈ acc, i < L) → Maps.size (setOf u (natKeys done)) = (List.range L).countP (fun i => done.contains i) →
    Maps.size (setOf u (natKeys (done ++ acc))) = (List.range L).countP (fun i => (done ++ acc).contains i)
  | [], done, _, h => by simpa using h
  | x :: r, done, hx, h => by
    have hstep : Maps.size (setOf u (natKeys (done ++ [x]))) = (List.range L).countP (fun i => (done ++ [x]).contains i) := by
      rw [natKeys_app, show natKeys [x] = [Lit.int .i64 (x : Int)] from rfl, Maps.setOf_snoc, Maps.size_put (Maps.tidy_setOf u _ (natKeys_key done)), Maps.has_setOf _ _ _ (natKeys_key done), natKeys_any, h]
      have hc : ∀ i, (done ++ [x]).contains i = (done.contains i || i == x) := by
        intro i
        rw [Bool.eq_iff_iff]
        simp
      cases hd : done.contains x with
      | true =>
        rw [if_pos rfl]
        apply List.countP_congr
        intro i _
        rw [hc]
        by_cases hi : i = x
        · subst hi
          have hm : i ∈ done := by simpa using hd
          simp [hm]
        · have hne : (i == x) = false := beq_eq_false_iff_ne.2 hi
          simp [hne]
      | false =>
        rw [if_neg (by simp), ← countP_add (fun i => done.contains i) x L (hx x (by simp)) hd]
        apply List.countP_congr
        intro i _
        rw [hc]
    have := size_natKeys L u r (done ++ [x]) (fun i hi => hx i (by simp [hi])) hstep
    simpa using this
/-- 'len' of a set of numbers below L -/
theorem size_nats (L : Nat) (u : DataW Unit) (acc : List Nat) (h : ∀ i ∈ acc, i < L) : Maps.size (setOf u (natKeys acc)) = (List.range L).countP (fun i => acc.contains i) := by
  have := size_natKeys L u acc [] h (by simp [natKeys, setOf, Maps.size])
  simpa using this
end Go.Proofs.YtpdohlnobbimaaaDoor
