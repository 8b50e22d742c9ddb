/-
  Same of package number: the walk of its three loops.
-/
import Derived.Test.YtjdapggdajkphaaDoorNumR1
import Derived.Test.YtjdapggdajkphaaDoorSplitP
import Derived.Shelf.Strings.SlTrimAscii
import Derived.Outline
namespace Go.Proofs.YtjdapggdajkphaaDoor
open Go.RowKit

/-- the tables, and the variable that the library's search reads -/
structure Tabs2 (w : World) : Prop where
  tabs : Tabs w
  mx : ∃ m, w.cell? ⟨1, 0, none⟩ = some (.int .i64 m)
theorem Tabs2.below {w w' : World} (h : Tabs2 w) (hb : Below w.heap.size w w') : Tabs2 w' := by
  refine ⟨h.tabs.below hb, ?_⟩
  obtain ⟨m, hm⟩ := h.mx
  have hlt : (1 : Nat) < w.heap.size := by
    rcases Nat.lt_or_ge 1 w.heap.size with h' | h'
    · exact h'
    · unfold World.cell? at hm; simp [Array.getElem?_eq_none h'] at hm
  exact ⟨m, (hb.cell (p := ⟨1, 0, none⟩) hlt).trans hm⟩

/-- an element that is no number -/
def badEl (x : List UInt8) : Bool := x.isEmpty || decide (pfx false x < x.length)
/-- which number all numbers of a list are, or which error -/
def sameR (E : List (List UInt8)) (digits : Int) (most : Nat) : Nat × Nat :=
  if E.any badEl = true then (0, 3) else
  match (E.map fun x => rdN false x digits most).find? (fun a => a.2 != 0) with
  | some a => (0, a.2)
  | none => if (E.map fun x => (rdN false x digits most).1).all (· == ((E.map fun x => (rdN false x digits most).1).headD 0)) = true then ((E.map fun x => (rdN false x digits most).1).headD 0, 0) else (0, 7)

theorem Trim_any (s : ByteArray) (w : World) (hs : s.size ≤ 9223372036854775807) :
    Calls Tryd.prog 36 #[.string s, .string ⟨#[32, 9]⟩] w fun e w' => e = .returned (.string ⟨(trimL s.data.toList).toArray⟩) ∧ Below w.heap.size w w' := by
  have h := Any.strings_Trim_laid Tryd.lays160 (by kernel_rfl) s ⟨#[32, 9]⟩ w hs (by decide) (ascii_of_all (by decide))
  have e : Lib.trimS s.data.toList (⟨#[32, 9]⟩ : ByteArray).data.toList = trimL s.data.toList := trimS_eq _
  rw [e] at h
  exact h
theorem Split_any (s : ByteArray) (w : World) (hs : s.size < 4294967281) (h : Tabs2 w) :
    Calls Tryd.prog 35 #[.string s, .string ⟨#[44]⟩] w fun e w' => ∃ P : List ByteArray, e = .returned (.slice (some ⟨w.heap.size, 0, none⟩) P.length P.length) ∧ P.map (·.data.toList) = splitC 44 s.data.toList ∧
      Blk w' w.heap.size 9 (P.map Value.string).toArray ∧ Below w.heap.size w w' ∧ w.heap.size < w'.heap.size := by
  obtain ⟨m, hm⟩ := h.mx
  have hlen := Lib.splitB_all ⟨#[44]⟩ (by decide) 0 _ s rfl
  refine (Any.strings_Split { Tryd.laysM146 with } (by kernel_rfl) s ⟨#[44]⟩ m w hs hm (by decide)).mono ?_
  rintro e w' ⟨rfl, rfl⟩
  exact ⟨Lib.splitB ⟨#[44]⟩ 0 (Lib.countB s ⟨#[44]⟩) s, by rw [hlen], pieces s 44, Blk.new w _ _, (Below.refl _ _).alloc (Nat.le_refl _) _, by simp⟩

/-- a piece, trimmed -/
def tr (p : ByteArray) : ByteArray := ⟨(trimL p.data.toList).toArray⟩
theorem tr_list (p : ByteArray) : (tr p).data.toList = trimL p.data.toList := rfl
theorem tr_size (p : ByteArray) : (tr p).size ≤ p.size := by rw [← size_l, ← size_l]; exact trimL_le _
theorem emp_t {s : ByteArray} (h : s.size = 0) : s.toList.isEmpty = true := by
  rw [Lib.toList_data, List.isEmpty_iff]; exact List.eq_nil_of_length_eq_zero (by rw [size_l]; exact h)
theorem emp_f {s : ByteArray} (h : s.size ≠ 0) : s.toList.isEmpty = false := by
  rw [Lib.toList_data, List.isEmpty_eq_false_iff]; intro e; exact h (by rw [← size_l, e]; rfl)
/-- the cells of the list while the first loop runs: the first k trimmed -/
def cellsK (P : List ByteArray) (k : Nat) : Array Value := ((P.take k).map (fun p => Value.string (tr p)) ++ (P.drop k).map Value.string).toArray
theorem cellsK_zero (P : List ByteArray) : cellsK P 0 = (P.map Value.string).toArray := by simp [cellsK]
theorem cellsK_size (P : List ByteArray) (k : Nat) : (cellsK P k).size = P.length := by simp [cellsK]; omega
theorem cellsK_at (P : List ByteArray) (k : Nat) (h : k < P.length) : (cellsK P k)[k]? = some (.string P[k]) := by
  unfold cellsK
  rw [List.getElem?_toArray, List.getElem?_append_right (by simp; omega)]
  simp only [List.length_map, List.length_take, List.getElem?_map, List.getElem?_drop]
  rw [show k + (k - min k P.length) = k by omega, List.getElem?_eq_getElem h]
  rfl
theorem cellsK_step (P : List ByteArray) (k : Nat) (h : k < P.length) : (cellsK P k).setIfInBounds k (.string (tr P[k])) = cellsK P (k + 1) := by
  unfold cellsK
  rw [List.setIfInBounds_toArray]
  congr 1
  rw [List.drop_eq_getElem_cons h, List.map_cons, List.take_succ_eq_append_getElem h, List.map_append, List.append_assoc]
  rw [List.set_append_right _ _ (by simp; omega)]
  congr 1
  rw [show k - ((P.take k).map fun p => Value.string (tr p)).length = 0 by simp; omega]
  rfl
theorem cellsK_all (P : List ByteArray) (j : Nat) (h : j < P.length) : (cellsK P P.length)[j]? = some (.string (tr P[j])) := by
  simp [cellsK, h]
theorem piece_size (P : List ByteArray) (s : ByteArray) (h : P.map (·.data.toList) = splitC 44 s.data.toList) (p : ByteArray) (hp : p ∈ P) : p.size ≤ s.size := by
  have h1 := (splitC_len 44 s.data.toList).2 p.data.toList (by rw [← h]; exact List.mem_map_of_mem hp)
  rw [size_l, size_l] at h1
  exact h1
theorem pieces_len (P : List ByteArray) (s : ByteArray) (h : P.map (·.data.toList) = splitC 44 s.data.toList) : P.length ≤ s.size + 1 ∧ 1 ≤ P.length := by
  have h1 := (splitC_len 44 s.data.toList).1
  have h2 := splitC_ne 44 s.data.toList
  rw [← h, List.length_map, size_l] at h1
  refine ⟨h1, ?_⟩
  rcases Nat.eq_zero_or_pos P.length with h3 | h3
  · exact absurd (by rw [← h, List.eq_nil_of_length_eq_zero h3]; rfl) h2
  · exact h3

/-- the numbers of the first k elements, as cells -/
def numCells (P : List ByteArray) (digits : Int) (most k : Nat) : List Value := (P.take k).map fun p => Value.int .u64 ((rdN false (trimL p.data.toList) digits most).1 : Int)
theorem numCells_step (P : List ByteArray) (digits : Int) (most k : Nat) (h : k < P.length) : numCells P digits most (k + 1) = numCells P digits most k ++ [Value.int .u64 ((rdN false (trimL P[k].data.toList) digits most).1 : Int)] := by
  unfold numCells
  rw [List.take_succ_eq_append_getElem h, List.map_append]; rfl
theorem numCells_length (P : List ByteArray) (digits : Int) (most k : Nat) (h : k ≤ P.length) : (numCells P digits most k).length = k := by simp [numCells]; omega
theorem info_u64 : (Tryd.prog.info? 22).map (fun i => (i.zero, i.size, i.bytes)) = some (some (.int .u64 0), 1, 8) := by kernel_rfl
theorem find_at {α : Type} (p : α → Bool) : ∀ (l : List α) (k : Nat) (hk : k < l.length), (∀ x ∈ l.take k, p x = false) → p l[k] = true → l.find? p = some l[k]
  | a :: l, 0, _, _, h => by simp [List.find?, show p a = true from h]
  | a :: l, k + 1, hk, h0, h => by
    have ha : p a = false := h0 a (by simp)
    rw [List.find?_cons, ha]
    exact find_at p l k (by simpa using hk) (fun x hx => h0 x (by simp [hx])) h
theorem find_none' {α : Type} (p : α → Bool) (l : List α) (h : ∀ x ∈ l, p x = false) : l.find? p = none := by
  rw [List.find?_eq_none]; intro x hx; simp [h x hx]

set_option maxHeartbeats 1000000 in
theorem equal_any (g n cap : Nat) (ns : List Nat) (w : World) (hn : ns.length = n) (hn1 : 1 ≤ n) (hn2 : n ≤ 1000001) (hc : ∀ j (h : j < ns.length), w.cell? ⟨g, j, none⟩ = some (.int .u64 (ns[j] : Int))) :
    Calls Tryd.prog 37 #[.slice (some ⟨g, 0, none⟩) n cap] w fun e w' => e = .returned (.bool (ns.all (· == ns.headD 0))) ∧ w = w' := by
  obtain ⟨h, hh⟩ : ∃ h, ns.headD 0 = h := ⟨_, rfl⟩
  rw [hh]
  obtain ⟨R, hR⟩ : ∃ R, ns.all (· == h) = R := ⟨_, rfl⟩
  rw [hR]
  have c0 : w.cell? ⟨g, 0, none⟩ = some (.int .u64 (h : Int)) := by
    rw [hc 0 (by omega)]
    cases ns with
    | nil => simp at hn; omega
    | cons a l => rw [← hh]; rfl
  have HC := Lib.hid hc
  have HR := Lib.hid hR
  have HN := Lib.hid hn
  clear hc hR hh hn
  go_enter Tryd.func37, Tryd.ntmps37
  go_wp2_with fail
  go_step3
  go_wp2_with fail
  go_step3
  go_wp2_with fail
  go_loop [4, 7] (fun _ i => ∃ k : Nat, i = .int .i64 k ∧ k ≤ n ∧ Hid (∀ x ∈ ns.take k, (x == h) = true)) (fun _ i => n - (intOf i).toNat)
  case atStart => exact ⟨0, rfl, Nat.zero_le _, (by simp : ∀ x ∈ ns.take 0, (x == h) = true)⟩
  case round =>
    obtain ⟨k, rfl, hk, HG⟩ := hrel
    by_cases hlt : k < n
    · have hl : k < ns.length := by rw [HN.out]; exact hlt
      have hcell := HC.out k hl
      by_cases he : ns[k] = h
      · have hg : Hid (∀ x ∈ ns.take (k + 1), (x == h) = true) := by
          show ∀ x ∈ ns.take (k + 1), (x == h) = true
          intro x hx
          rw [List.take_succ_eq_append_getElem hl] at hx
          rcases List.mem_append.1 hx with hx | hx
          · exact HG.out x hx
          · rw [List.mem_singleton.1 hx]; simpa using he
        obtain ⟨a, ha⟩ : ∃ a, ns[k] = a := ⟨_, rfl⟩
        rw [ha] at hcell he
        subst he
        go_wp2_with fail
        go_round
        case rel => exact ⟨k + 1, by go_num, by omega, hg⟩
        case measure => simp [intOf]; omega
      · have hr : R = false := by
          rw [← HR.out, List.all_eq_false]
          exact ⟨ns[k], List.getElem_mem _, by simpa using he⟩
        have hb : (((ns[k] : Nat) : Int) == (h : Int)) = false := by rw [beq_eq_false_iff_ne]; omega
        have HR2 := Lib.hid hr
        clear he hr
        go_wp2_with fail
        go_ret
        exact ⟨ret_bool (by rw [HR2.out]), rfl⟩
    · have hr : R = true := by
        rw [← HR.out, List.all_eq_true]
        intro x hx
        exact HG.out x (by rw [List.take_of_length_le (by rw [HN.out]; omega)]; exact hx)
      have HR2 := Lib.hid hr
      clear hr
      go_wp2_with fail
      go_ret
      exact ⟨ret_bool (by rw [HR2.out]), rfl⟩

set_option maxRecDepth 100000 in
set_option maxHeartbeats 4000000 in
theorem Same_any (s : ByteArray) (digits : Int) (most : Nat) (w : World) (hs : s.size ≤ 1000000) (htab : Tabs2 w) :
    Calls Tryd.prog 25 #[.string s, .int .i64 digits, .int .u64 most] w fun e w' =>
      e = .returned (.tuple #[.int .u64 (sameR ((splitC 44 s.data.toList).map trimL) digits most).1, .int .i64 (sameR ((splitC 44 s.data.toList).map trimL) digits most).2]) ∧ Below w.heap.size w w' := by
  obtain ⟨R, hR⟩ : ∃ R, sameR ((splitC 44 s.data.toList).map trimL) digits most = R := ⟨_, rfl⟩
  rw [hR]
  have HR := Lib.hid hR
  have SP := Lib.hid (Split_any s w (by omega) htab)
  clear hR
  go_enter Tryd.func25, Tryd.ntmps25
  go_wp2_with fail
  refine SP.out.mono ?_
  rintro e w1 ⟨P, rfl, hP, hblk, hb1, hsz1⟩
  have hp1 := (pieces_len P s hP).2
  have hp2 := (pieces_len P s hP).1
  have HP := Lib.hid hP
  have HB := Lib.hid hblk
  clear hP hblk
  go_wp2_with fail
  go_loopw [9, 10, 20] (fun _ _ i wr => ∃ k : Nat, i = .int .i64 k ∧ k ≤ P.length ∧ Hid (Blk wr w.heap.size 9 (cellsK P k)) ∧ Hid (∀ p ∈ P.take k, badEl (trimL p.data.toList) = false) ∧ Below w.heap.size w wr ∧ w.heap.size < wr.heap.size) (fun _ _ i _ => P.length - (intOf i).toNat)
  case atStart => exact ⟨0, rfl, Nat.zero_le _, by rw [cellsK_zero]; exact HB, (by simp : ∀ p ∈ P.take 0, badEl (trimL p.data.toList) = false), hb1, hsz1⟩
  case round =>
    obtain ⟨k, rfl, hk, HK, HG, hb, hsz⟩ := hrel
    rename World => W0
    by_cases hlt : k < P.length
    · have hps : P[k].size ≤ s.size := piece_size P s HP.out _ (List.getElem_mem _)
      have hcell : W0.cell? ⟨w.heap.size, k, none⟩ = some (.string P[k]) := by rw [HK.out.cell, cellsK_at P k hlt]
      obtain ⟨q, hq⟩ : ∃ q, tr P[k] = q := ⟨_, rfl⟩
      have hqs : q.size ≤ 1000000 := by have := tr_size P[k]; rw [hq] at this; omega
      have hTR : Calls Tryd.prog 36 #[.string P[k], .string ⟨#[32, 9]⟩] W0 fun e w' => e = .returned (.string q) ∧ Below W0.heap.size W0 w' := by rw [← hq]; exact Trim_any P[k] W0 (by omega)
      have TR := Lib.hid hTR
      have hql : q.data.toList = trimL P[k].data.toList := by rw [← hq]; rfl
      have HQL := Lib.hid hql
      have HQ := Lib.hid hq
      clear hTR hq hql
      go_wp2_with fail
      refine TR.out.mono ?_
      rintro e w2 ⟨rfl, hb2⟩
      have hblk2 := HK.out.below hb2 hsz
      have hc2 : w2.cell? ⟨w.heap.size, k, none⟩ = some (.string P[k]) := by rw [hblk2.cell, cellsK_at P k hlt]
      have hf2 := hblk2.frozen k
      have hsz2 : w.heap.size < w2.heap.size := Nat.lt_of_lt_of_le hsz hb2.size
      have hb' := (hb.trans (hb2.mono hb.size)).setCell (p := ⟨w.heap.size, k, none⟩) (Nat.le_refl _) (.string q)
      have hblk3 := hblk2.set_ k (.string q)
      rw [← HQ.out, cellsK_step P k hlt, HQ.out] at hblk3
      have HB3 := Lib.hid hblk3
      clear hblk2 hblk3
      by_cases hq0 : q.size = 0
      · have hbad : badEl (trimL P[k].data.toList) = true := by
          rw [← HQL.out]; unfold badEl; rw [List.isEmpty_iff.2 (List.eq_nil_of_length_eq_zero (by rw [size_l]; exact hq0))]; rfl
        have hR : sameR ((splitC 44 s.data.toList).map trimL) digits most = (0, 3) := by
          unfold sameR
          rw [if_pos]
          rw [List.any_eq_true]
          exact ⟨_, by rw [← HP.out, List.map_map]; exact List.mem_map_of_mem (List.getElem_mem hlt), hbad⟩
        have HR2 := Lib.hid (HR.out.symm.trans hR)
        have he := emp_t hq0
        clear hbad hR hq0
        go_wp2_with fail
        go_quiet (fail)
        go_wp2_with fail
        go_ret2
        exact ⟨ret_int2 (by rw [HR2.out]; rfl) (by rw [HR2.out]; rfl), below_drewN hb' _⟩
      · have he := emp_f hq0
        by_cases hp : pfx false q.data.toList < q.size
        · have hbad : badEl (trimL P[k].data.toList) = true := by
            rw [← HQL.out]; unfold badEl; rw [size_l, decide_eq_true hp]; simp
          have hR : sameR ((splitC 44 s.data.toList).map trimL) digits most = (0, 3) := by
            unfold sameR
            rw [if_pos]
            rw [List.any_eq_true]
            exact ⟨_, by rw [← HP.out, List.map_map]; exact List.mem_map_of_mem (List.getElem_mem hlt), hbad⟩
          have HR2 := Lib.hid (HR.out.symm.trans hR)
          clear hbad hR hq0
          go_wp2_with fail
          go_quiet ((go_at_call 31; exact quiet_left (prefix_str q false _ (by omega))))
          go_wp2_with fail
          go_ret2
          exact ⟨ret_int2 (by rw [HR2.out]; rfl) (by rw [HR2.out]; rfl), below_drewN hb' _⟩
        · have hgood : badEl (trimL P[k].data.toList) = false := by
            rw [← HQL.out]; unfold badEl; rw [size_l, decide_eq_false hp, List.isEmpty_eq_false_iff.2 (fun e => hq0 (by rw [← size_l, e]; rfl))]; rfl
          have HGD : Hid (∀ p ∈ P.take (k + 1), badEl (trimL p.data.toList) = false) := by
            show ∀ p ∈ P.take (k + 1), badEl (trimL p.data.toList) = false
            intro p hp
            rw [List.take_succ_eq_append_getElem hlt] at hp
            rcases List.mem_append.1 hp with h | h
            · exact HG.out p h
            · rw [List.mem_singleton.1 h]; exact hgood
          clear hgood hq0
          go_wp2_with fail
          go_quiet ((go_at_call 31; exact quiet_left (prefix_str q false _ (by omega))))
          go_wp2_with fail
          go_roundw
          case rel => exact ⟨k + 1, by go_num, by omega, HB3, HGD, below_drewN hb' _, by simpa using hsz2⟩
          case measure => simp [intOf]; omega
    · obtain rfl : k = P.length := by omega
      have hall : ∀ p ∈ P, badEl (trimL p.data.toList) = false := fun p hp => HG.out p (by rw [List.take_of_length_le (Nat.le_refl _)]; exact hp)
      have hnb : ((splitC 44 s.data.toList).map trimL).any badEl = false := by
        rw [List.any_eq_false]
        intro x hx
        rw [← HP.out, List.map_map] at hx
        obtain ⟨p, hp, rfl⟩ := List.mem_map.1 hx
        simpa using hall p hp
      have hmapE : ((splitC 44 s.data.toList).map trimL).map (fun x => rdN false x digits most) = P.map (fun p => rdN false (trimL p.data.toList) digits most) := by rw [← HP.out, List.map_map, List.map_map]; rfl
      have hmapN : ((splitC 44 s.data.toList).map trimL).map (fun x => (rdN false x digits most).1) = P.map (fun p => (rdN false (trimL p.data.toList) digits most).1) := by rw [← HP.out, List.map_map, List.map_map]; rfl
      have HNB := Lib.hid hnb
      have HME := Lib.hid hmapE
      have HMN := Lib.hid hmapN
      obtain ⟨i0, hi, hz0, hz1, hz2⟩ := info_parts info_u64
      have HI := Lib.hid hi
      have HZ0 := Lib.hid hz0
      have HZ1 := Lib.hid hz1
      have HZ2 := Lib.hid hz2
      clear hall hnb hmapE hmapN hi hz0 hz1 hz2 HG
      go_wp2_with fail
      go_loopw [11, 13, 14, 15, 51] (fun v _ _ _ i wr => ∃ k : Nat, i = .int .i64 k ∧ k ≤ P.length ∧ Hid (Blk wr w.heap.size 9 (cellsK P P.length)) ∧ Hid (∀ p ∈ P.take k, ((rdN false (trimL p.data.toList) digits most).2 != 0) = false) ∧
        Hid (wr.ownsRow (w.heap.size + 1) 22 1 v k (numCells P digits most k)) ∧ Below w.heap.size w wr ∧ w.heap.size < wr.heap.size) (fun _ _ _ _ i _ => P.length - (intOf i).toNat)
      case atStart => exact ⟨0, rfl, Nat.zero_le _, HK, (by simp : ∀ p ∈ P.take 0, ((rdN false (trimL p.data.toList) digits most).2 != 0) = false), World.ownsRow_nil _ _ _ _, hb, hsz⟩
      case round =>
        obtain ⟨k, rfl, hk, HK, HG, HO, hb, hsz⟩ := hrel
        rename World => W2
        by_cases hlt : k < P.length
        · obtain ⟨q, hq⟩ : ∃ q, tr P[k] = q := ⟨_, rfl⟩
          have hcell : W2.cell? ⟨w.heap.size, k, none⟩ = some (.string q) := by rw [HK.out.cell, cellsK_all P k hlt, hq]
          have hqs : q.size ≤ 1000000 := by have := tr_size P[k]; rw [hq] at this; have := piece_size P s HP.out _ (List.getElem_mem hlt); omega
          obtain ⟨a, e, hae⟩ : ∃ a e : Nat, rdN false (trimL P[k].data.toList) digits most = (a, e) := ⟨_, _, rfl⟩
          have hdec : ∀ w, Calls Tryd.prog 21 #[.string q, .int .i64 digits, .int .u64 most] w fun r w' => r = .returned (.tuple #[.int .u64 a, .int .i64 e]) ∧ w = w' := fun w => by
            have := Dec_any q digits most w (by omega)
            rw [show q.data.toList = trimL P[k].data.toList by rw [← hq]; rfl, hae] at this
            exact this
          have HD := Lib.hid hdec
          have HAE := Lib.hid hae
          clear hdec hae hq
          by_cases he : e = 0
          · subst he
            have hmx : k + 1 ≤ maxLen := by simp only [maxLen]; omega
            obtain ⟨v', w3, hrun, hown, hgr, hsz3, hat⟩ := app_one (P := Tryd.prog) 49 49 22 i0 (.int .u64 0) 1 8 Tryd.underlying49 HI.out HZ0.out HZ1.out HZ2.out rfl (by decide) (w.heap.size + 1) W2 u11 k _ HO.out #[.int .u64 (a : Int)] rfl (by simp [Value.oneCell']) 22 hmx (by omega) (by omega)
            have hne : some w.heap.size ≠ u11.ownBlock := fun h => by have := (HO.out.lt _ h.symm).1; omega
            have HK3 := Lib.hid (HK.out.grown hgr hne)
            have hb3 : Below w.heap.size w w3 := hb.grown hgr hb.size (fun b h => by have := (HO.out.lt _ h).1; omega)
            have HO3 : Hid (w3.ownsRow (w.heap.size + 1) 22 1 v' (k + 1) (numCells P digits most (k + 1))) := by
              show w3.ownsRow _ _ _ _ _ _
              rw [numCells_step P digits most k hlt, HAE.out]
              exact hown
            have HG3 : Hid (∀ p ∈ P.take (k + 1), ((rdN false (trimL p.data.toList) digits most).2 != 0) = false) := by
              show ∀ p ∈ P.take (k + 1), ((rdN false (trimL p.data.toList) digits most).2 != 0) = false
              intro p hp
              rw [List.take_succ_eq_append_getElem hlt] at hp
              rcases List.mem_append.1 hp with h | h
              · exact HG.out p h
              · rw [List.mem_singleton.1 h, HAE.out]; rfl
            have hsz4 : w.heap.size < w3.heap.size := by omega
            clear hgr hown hat hne
            go_wp2_with fail
            (with_reducible refine (HD.out _).mono ?_); rintro r w' ⟨rfl, rfl⟩
            have HRUN := Lib.hid hrun
            clear hrun
            go_wp2_with (at_builtin; refine wpList_append_run HRUN.out rfl _ _ rfl rfl rfl rfl ?_)
            go_roundw
            case rel => exact ⟨k + 1, by go_num, by omega, HK3, HG3, HO3, hb3, hsz4⟩
            case measure => simp [intOf]; omega
          · have hR : sameR ((splitC 44 s.data.toList).map trimL) digits most = (0, e) := by
              unfold sameR
              rw [if_neg (by rw [HNB.out]; simp), HME.out]
              have hf := find_at (fun a : Nat × Nat => a.2 != 0) (P.map (fun p => rdN false (trimL p.data.toList) digits most)) k (by simpa using hlt) (by
                intro x hx
                rw [← List.map_take] at hx
                obtain ⟨p, hp, rfl⟩ := List.mem_map.1 hx
                exact HG.out p hp) (by simp [HAE.out, he])
              rw [hf]
              simp [HAE.out]
            have HR2 := Lib.hid (HR.out.symm.trans hR)
            have heb : ((e : Int) != 0) = true := by rw [bne_iff_ne]; omega
            clear hR he
            go_wp2_with fail
            (with_reducible refine (HD.out _).mono ?_); rintro r w' ⟨rfl, rfl⟩
            go_wp2_with fail
            go_ret2
            exact ⟨ret_int2 (by rw [HR2.out]; rfl) (by rw [HR2.out]), hb⟩
        · obtain rfl : k = P.length := by omega
          obtain ⟨g, cap, hv, _, hglt⟩ := HO.out.form (by omega)
          obtain ⟨ns, hns⟩ : ∃ ns, P.map (fun p => (rdN false (trimL p.data.toList) digits most).1) = ns := ⟨_, rfl⟩
          have hnl : ns.length = P.length := by rw [← hns, List.length_map]
          have hcs : ∀ j (h : j < ns.length), W2.cell? ⟨g, j, none⟩ = some (.int .u64 (ns[j] : Int)) := fun j h => by
            have ho := HO.out
            rw [hv] at ho
            rw [ho.cellAt j (by omega)]
            subst hns
            unfold numCells
            rw [List.take_of_length_le (Nat.le_refl _)]
            simp only [List.getElem?_map, List.getElem_map]
            rw [List.getElem?_eq_getElem (by simpa using h)]
            rfl
          have hfn : (((splitC 44 s.data.toList).map trimL).map fun x => rdN false x digits most).find? (fun a => a.2 != 0) = none := by
            rw [HME.out]
            refine find_none' _ _ fun x hx => ?_
            obtain ⟨p, hp, rfl⟩ := List.mem_map.1 hx
            exact HG.out p (by rw [List.take_of_length_le (Nat.le_refl _)]; exact hp)
          obtain ⟨b, hb0⟩ : ∃ b, ns.all (· == ns.headD 0) = b := ⟨_, rfl⟩
          have hR : sameR ((splitC 44 s.data.toList).map trimL) digits most = if b = true then (ns.headD 0, 0) else (0, 7) := by
            unfold sameR
            rw [if_neg (by rw [HNB.out]; simp), hfn]
            simp only
            rw [HMN.out, hns, hb0]
          have hEQ : ∀ w', w' = W2 → Calls Tryd.prog 37 #[.slice (some ⟨g, 0, none⟩) P.length cap] w' fun e w'' => e = .returned (.bool b) ∧ w' = w'' := fun w' hw => by
            subst hw
            have := equal_any g P.length cap ns w' hnl (by omega) (by omega) hcs
            rw [hb0] at this
            exact this
          have HEQ := Lib.hid hEQ
          have c0 : W2.cell? ⟨g, 0, none⟩ = some (.int .u64 ((ns.headD 0 : Nat) : Int)) := by
            rw [hcs 0 (by omega)]
            cases ns with
            | nil => simp at hnl; omega
            | cons a l => rfl
          obtain ⟨h0, hh0⟩ : ∃ h0, ns.headD 0 = h0 := ⟨_, rfl⟩
          rw [hh0] at c0 hR
          have HR2 := Lib.hid (HR.out.symm.trans hR)
          have hpl : (0 : Int) < (P.length : Int) := by omega
          clear hR hEQ hcs hfn hb0 hnl hns hh0
          subst hv
          cases b
          · go_wp2_with fail
            (with_reducible refine (HEQ.out _ rfl).mono ?_); rintro r w' ⟨rfl, rfl⟩
            go_wp2_with fail
            go_ret2
            exact ⟨ret_int2 (by rw [HR2.out]; rfl) (by rw [HR2.out]; rfl), hb⟩
          · go_wp2_with fail
            (with_reducible refine (HEQ.out _ rfl).mono ?_); rintro r w' ⟨rfl, rfl⟩
            go_wp2_with fail
            go_ret2
            exact ⟨ret_int2 (by rw [HR2.out]; rfl) (by rw [HR2.out]; rfl), hb⟩
end Go.Proofs.YtjdapggdajkphaaDoor
