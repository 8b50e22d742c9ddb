/-
  All values of a name: of the program (All) and of the reference.
-/
import Derived.Test.YtpdohlnobbimaaaDoorFd4
import Derived.Test.YtpdohlnobbimaaaDoorTk6
namespace Go.Proofs.YtpdohlnobbimaaaDoor
open Go.RowKit

/-- all values of a name, or none where there is an error -/
def allL (nm : List UInt8) (l : List Fld) : List (List UInt8) := if askL l [nm] = 0 then valuesL nm l else []
theorem allL_ok {nm : List UInt8} {l : List Fld} (h : askL l [nm] = 0) : allL nm l = valuesL nm l := if_pos h
theorem allL_no {nm : List UInt8} {l : List Fld} (h : ¬ askL l [nm] = 0) : allL nm l = [] := if_neg h
theorem allL_len (nm : List UInt8) (l : List Fld) : (allL nm l).length ≤ l.length := by
  unfold allL; split
  · exact valuesL_len nm l
  · simp
theorem askL_fields {l : List Fld} {ns : List (List UInt8)} (h : askL l ns = 0) : l.length ≤ 32 ∧ ∀ f ∈ l, oneL f = 0 := by
  unfold askL at h
  split at h
  · rename_i h1; exact absurd h h1
  · rename_i h1
    have h1 : (checkL l).1 = 0 := by omega
    unfold checkL at h1
    split at h1
    · simp at h1
    · exact ⟨by omega, firstE_zero h1⟩
theorem oneL_len {f : Fld} (h : oneL f = 0) : f.1.length + f.2.length ≤ 512 := by
  unfold oneL at h
  split at h
  · simp at h
  · split at h
    · simp at h
    · split at h
      · simp at h
      · rename_i h3
        unfold lineL at h3
        split at h3
        · rename_i h4; rw [h4]; simp at h3 ⊢; omega
        · simp at h3; omega
theorem allL_each (nm : List UInt8) (l : List Fld) : (allL nm l).length ≤ 32 ∧ ∀ x ∈ allL nm l, x.length ≤ 512 := by
  by_cases h : askL l [nm] = 0
  · obtain ⟨h1, h2⟩ := askL_fields h
    refine ⟨by have := allL_len nm l; omega, fun x hx => ?_⟩
    rw [allL_ok h] at hx
    obtain ⟨f, hf, rfl⟩ := List.mem_map.1 hx
    have := oneL_len (h2 f (List.mem_filter.1 hf).1)
    omega
  · rw [allL_no h]; simp
theorem joinL_each (xs : List (List UInt8)) (M : Nat) (h : ∀ x ∈ xs, x.length ≤ M) : (joinL xs).length ≤ xs.length * (M + 2) := by
  have key : ∀ k, k ≤ xs.length → (joinL (xs.take k)).length ≤ k * (M + 2) := by
    intro k
    induction k with
    | zero => intro _; simp [joinL_nil]
    | succ k ih =>
      intro hk
      have hx := h xs[k] (List.getElem_mem (by omega))
      have := ih (by omega)
      rw [joinL_succ xs k (by omega), Nat.succ_mul]
      split
      · omega
      · simp [sep2]; omega
  have := key xs.length (Nat.le_refl _)
  rwa [List.take_length] at this
theorem joinL_all (nm : List UInt8) (l : List Fld) : (joinL (allL nm l)).length ≤ 100000 := by
  obtain ⟨h1, h2⟩ := allL_each nm l
  have := joinL_each _ 512 h2
  have h3 : (allL nm l).length * (512 + 2) ≤ 32 * (512 + 2) := Nat.mul_le_mul_right _ h1
  omega

/-- all values handed back, and the error -/
def AllPost (nm : List UInt8) (l : List Fld) (w : World) (e : Ending) (w' : World) : Prop := ∃ A cap, e = .returned (.tuple #[.slice A (allL nm l).length cap, .int .i64 (askL l [nm])]) ∧ (allL nm l).length ≤ cap ∧ Reads w' w'.heap.size 1 A (allL nm l).length (strs (allL nm l)) ∧ Below w.heap.size w w'
theorem strs_one1 (nm : ByteArray) : (#[Value.string nm] : Array Value).toList = strs [nm.data.toList] := rfl

set_option maxRecDepth 100000 in
set_option maxHeartbeats 4000000 in
theorem pAll (A : Option Addr) (n c : Nat) (l : List Fld) (nm : ByteArray) (w : World) (hr : Reads w w.heap.size 2 A n (fldsC l)) (hn : n ≤ 100000) (hl : fldsOk l) (hnm : nm.size ≤ 100000) :
    Calls Tryd.prog 15 #[.slice A n c, .string nm] w (AllPost nm.data.toList l w) := by
  obtain rfl := hr.flen
  have hr1 := (hr.alloc (Nat.le_refl _) (.cells #[.string nm] 9)).more (show w.heap.size ≤ (w.alloc (.cells #[.string nm] 9)).heap.size by simp)
  have cA := pask A (some ⟨w.heap.size, 0, none⟩) l.length c 1 1 l [nm.data.toList] (w.alloc (.cells #[.string nm] 9)) hr1 (reads_new w 9 [nm.data.toList] #[.string nm] (strs_one1 nm)) hn (by omega) hl (by intro x hx; simp at hx; subst hx; rw [size_l]; omega)
  have CV := Lib.hid (fun w hr => pvalues A l.length c l nm w hr hn hl hnm)
  have hB0 : Below w.heap.size w (w.alloc (.cells #[.string nm] 9)) := (Below.refl _ _).alloc (Nat.le_refl _) _
  obtain ⟨E, hE⟩ : ∃ E, askL l [nm.data.toList] = E := ⟨_, rfl⟩
  unfold AllPost
  by_cases he : E = 0
  · subst he
    rw [hE, if_pos rfl] at cA
    rw [hE, allL_ok hE]
    have HE := Lib.hid hE
    have CA := Lib.hid cA
    have HR := Lib.hid hr
    have HL := Lib.hid hl
    have HB := Lib.hid hB0
    have e1 : (((0 : Nat) : Int) != 0) = false := rfl
    clear hE cA hr hl hB0 hr1
    go_enter Tryd.func15, Tryd.ntmps15
    go_wp2_with fail
    (with_reducible refine (CA.out).mono ?_); rintro e w1 ⟨rfl, hb1⟩
    have hbX := HB.out.trans (hb1.mono (by simp))
    clear hb1
    go_wp2_with fail
    (with_reducible refine (CV.out _ ((HR.out.below (hbX.alloc hbX.size _)).more (hbX.alloc hbX.size _).size)).mono ?_); rintro e w2 ⟨A2, cap2, rfl, hc2, hr2, hb2⟩
    have HR2 := Lib.hid hr2
    have hbY := (hbX.alloc hbX.size (.cells #[.slice A l.length c, .slice (some ⟨w.heap.size, 0, none⟩) 1 1] 81)).trans (hb2.mono (hbX.alloc hbX.size _).size)
    clear hr2 hb2
    go_wp2_with fail
    go_ret2
    exact ⟨A2, cap2, rfl, hc2, HR2.out, hbY⟩
  · rw [hE, if_neg he] at cA
    rw [hE, allL_no (by rw [hE]; exact he)]
    have e1 : ((E : Int) != 0) = true := by rw [bne_iff_ne]; omega
    unfold nilAsk at cA
    have CA := Lib.hid cA
    have HB := Lib.hid hB0
    clear hE cA hr hl hB0 hr1
    go_enter Tryd.func15, Tryd.ntmps15
    go_wp2_with fail
    (with_reducible refine (CA.out).mono ?_); rintro e w1 ⟨rfl, hb1⟩
    have hbX := HB.out.trans (hb1.mono (by simp))
    clear hb1
    go_wp2_with fail
    go_ret2
    exact ⟨none, 0, rfl, Nat.zero_le _, Reads.none_, (hbX.alloc hbX.size _)⟩

def getT : List (List UInt8) → List UInt8 × Bool
  | [] => ([], false)
  | x :: _ => (x, true)
def comT : List (List UInt8) → List UInt8 × Bool
  | [] => ([], false)
  | x :: r => (joinL (x :: r), true)

set_option maxRecDepth 100000 in
set_option maxHeartbeats 4000000 in
theorem pGet (A : Option Addr) (n c : Nat) (l : List Fld) (nm : ByteArray) (w : World) (hr : Reads w w.heap.size 2 A n (fldsC l)) (hn : n ≤ 100000) (hl : fldsOk l) (hnm : nm.size ≤ 100000) :
    Calls Tryd.prog 16 #[.slice A n c, .string nm] w fun e w' => e = .returned (.tuple #[.string (bs (getT (allL nm.data.toList l)).1), .bool (getT (allL nm.data.toList l)).2, .int .i64 (askL l [nm.data.toList])]) ∧ Below w.heap.size w w' := by
  have cA := pAll A n c l nm w hr hn hl hnm
  unfold AllPost at cA
  have hno := fun h => allL_no (nm := nm.data.toList) (l := l) h
  obtain ⟨E, hE⟩ : ∃ E, askL l [nm.data.toList] = E := ⟨_, rfl⟩
  obtain ⟨V, hV⟩ : ∃ V, allL nm.data.toList l = V := ⟨_, rfl⟩
  rw [hE, hV] at cA hno ⊢
  have CA := Lib.hid cA
  clear cA hr hl hE hV
  by_cases he : E = 0
  · subst he
    have e1 : (((0 : Nat) : Int) != 0) = false := rfl
    clear hno
    cases V with
    | nil =>
      go_enter Tryd.func16, Tryd.ntmps16
      go_wp2_with fail
      (with_reducible refine (CA.out).mono ?_); rintro e w1 ⟨A2, cap2, rfl, hc2, hr2, hb2⟩
      clear hr2 hc2
      go_wp2_with fail
      go_ret3
      exact ⟨rfl, hb2⟩
    | cons x r =>
      go_enter Tryd.func16, Tryd.ntmps16
      go_wp2_with fail
      (with_reducible refine (CA.out).mono ?_); rintro e w1 ⟨A2, cap2, rfl, hc2, hr2, hb2⟩
      obtain ⟨b, o, rfl, _, c1⟩ := hr2.text 0 (by simp)
      have c0 : w1.cell? ⟨b, o, none⟩ = some (.string (bs x)) := c1
      have z1 : (((x :: r).length : Int) == 0) = false := beq_eq_false_iff_ne.2 (by simp; omega)
      have z2 : (0 : Int) < ((x :: r).length : Int) := by rw [List.length_cons]; omega
      have z3 : 0 < (x :: r).length := by simp
      clear hr2 hc2 c1
      go_wp2_with fail
      go_ret3
      exact ⟨rfl, hb2⟩
  · obtain rfl := hno he
    have e1 : ((E : Int) != 0) = true := by rw [bne_iff_ne]; omega
    clear hno
    go_enter Tryd.func16, Tryd.ntmps16
    go_wp2_with fail
    (with_reducible refine (CA.out).mono ?_); rintro e w1 ⟨A2, cap2, rfl, hc2, hr2, hb2⟩
    clear hr2 hc2
    go_wp2_with fail
    go_ret3
    exact ⟨rfl, hb2⟩

set_option maxRecDepth 100000 in
set_option maxHeartbeats 4000000 in
theorem pCombine (A : Option Addr) (n c : Nat) (l : List Fld) (nm : ByteArray) (w : World) (hr : Reads w w.heap.size 2 A n (fldsC l)) (hn : n ≤ 100000) (hl : fldsOk l) (hnm : nm.size ≤ 100000) :
    Calls Tryd.prog 20 #[.slice A n c, .string nm] w fun e w' => e = .returned (.tuple #[.string (bs (comT (allL nm.data.toList l)).1), .bool (comT (allL nm.data.toList l)).2, .int .i64 (askL l [nm.data.toList])]) ∧ Below w.heap.size w w' := by
  have cA := pAll A n c l nm w hr hn hl hnm
  unfold AllPost at cA
  have hno := fun h => allL_no (nm := nm.data.toList) (l := l) h
  have hj := joinL_all nm.data.toList l
  have hj2 := (allL_each nm.data.toList l).1
  obtain ⟨E, hE⟩ : ∃ E, askL l [nm.data.toList] = E := ⟨_, rfl⟩
  obtain ⟨V, hV⟩ : ∃ V, allL nm.data.toList l = V := ⟨_, rfl⟩
  rw [hV] at hj hj2
  rw [hE, hV] at cA hno ⊢
  have CA := Lib.hid cA
  clear cA hr hl hE hV
  by_cases he : E = 0
  · subst he
    have e1 : (((0 : Nat) : Int) != 0) = false := rfl
    clear hno
    cases V with
    | nil =>
      clear hj hj2
      go_enter Tryd.func20, Tryd.ntmps20
      go_wp2_with fail
      (with_reducible refine (CA.out).mono ?_); rintro e w1 ⟨A2, cap2, rfl, hc2, hr2, hb2⟩
      clear hr2 hc2
      go_wp2_with fail
      go_ret3
      exact ⟨rfl, hb2⟩
    | cons x r =>
      have HJ := Lib.hid (And.intro hj hj2)
      clear hj hj2
      go_enter Tryd.func20, Tryd.ntmps20
      go_wp2_with fail
      (with_reducible refine (CA.out).mono ?_); rintro e w1 ⟨A2, cap2, rfl, hc2, hr2, hb2⟩
      have z1 : (((x :: r).length : Int) == 0) = false := beq_eq_false_iff_ne.2 (by simp; omega)
      have CJ := Join_any A2 (x :: r).length cap2 (x :: r) w1 hr2 (by have := HJ.out.2; omega) hc2 (by have := HJ.out.1; omega)
      rw [List.length_cons] at CJ
      have CJ := Lib.hid CJ
      clear hr2 hc2
      go_wp2_with fail
      (with_reducible refine (CJ.out).mono ?_); rintro e w2 ⟨rfl, hb3⟩
      go_wp2_with fail
      go_ret3
      exact ⟨rfl, hb2.trans (hb3.mono hb2.size)⟩
  · obtain rfl := hno he
    have e1 : ((E : Int) != 0) = true := by rw [bne_iff_ne]; omega
    clear hno hj hj2
    go_enter Tryd.func20, Tryd.ntmps20
    go_wp2_with fail
    (with_reducible refine (CA.out).mono ?_); rintro e w1 ⟨A2, cap2, rfl, hc2, hr2, hb2⟩
    clear hr2 hc2
    go_wp2_with fail
    go_ret3
    exact ⟨rfl, hb2⟩

theorem comT_eq (V : List (List UInt8)) : comT V = (joinL V, decide (0 < V.length)) := by
  cases V with
  | nil => rfl
  | cons x r => simp [comT]

end Go.Proofs.YtpdohlnobbimaaaDoor
