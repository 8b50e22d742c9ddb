/-
  NumberZeros: leading zeros and the case of hexadecimal digits change nothing. The walk of the statement's function, for every uint64 and int.
-/
import Derived.Test.YtjdapggdajkphaaDoorNumL1
namespace Go.Proofs.YtjdapggdajkphaaDoor
open Go.RowKit

/-- a hexadecimal digit in capitals -/
def up (b : UInt8) : UInt8 := if 97 ≤ b.toNat then UInt8.ofNat (b.toNat - 32) else b
theorem up_val (b : UInt8) (h : dvN true b.toNat < 16) : dvN true (up b).toNat = dvN true b.toNat := by
  unfold up
  split
  · have h1 := dvN_t b.toNat
    have h3 : b.toNat - 32 < 256 := by have := b.toNat_lt; omega
    have e : (UInt8.ofNat (b.toNat - 32)).toNat = b.toNat - 32 := by simp [UInt8.toNat_ofNat']; omega
    rw [e]
    have h2 := dvN_t (b.toNat - 32)
    omega
  · rfl
theorem up_all (l : List UInt8) (h : ∀ b ∈ l, dvN true b.toNat < 16) : (∀ b ∈ l.map up, dvN true b.toNat < 16) ∧ ∀ n, valA true n (l.map up) = valA true n l := by
  induction l with
  | nil => exact ⟨by simp, fun _ => rfl⟩
  | cons a l ih =>
    obtain ⟨h1, h2⟩ := ih (fun b hb => h b (by simp [hb]))
    have ha := h a (by simp)
    refine ⟨?_, fun n => ?_⟩
    · intro b hb
      simp only [List.map_cons, List.mem_cons] at hb
      rcases hb with rfl | hb
      · rw [up_val a ha]; exact ha
      · exact h1 b hb
    · simp only [List.map_cons, valA]; rw [h2, up_val a ha]

theorem zeros_list (k : Nat) (hk : k < 41) (s : ByteArray) : ((⟨#[48, 48, 48, 48, 48, 48, 48, 48, 48, 48, 48, 48, 48, 48, 48, 48, 48, 48, 48, 48, 48, 48, 48, 48, 48, 48, 48, 48, 48, 48, 48, 48, 48, 48, 48, 48, 48, 48, 48, 48]⟩ : ByteArray).extract 0 k ++ s).data.toList = List.replicate k 48 ++ s.data.toList := by
  rw [append_toList]
  congr 1
  have h1 : ((⟨#[48, 48, 48, 48, 48, 48, 48, 48, 48, 48, 48, 48, 48, 48, 48, 48, 48, 48, 48, 48, 48, 48, 48, 48, 48, 48, 48, 48, 48, 48, 48, 48, 48, 48, 48, 48, 48, 48, 48, 48]⟩ : ByteArray).extract 0 k).data.toList = (List.replicate 40 (48 : UInt8)).take k := by
    rw [Lib.extract_data]
    simp
  rw [h1, List.take_replicate]
  congr 1
  omega
theorem zeros_all (hex : Bool) (k : Nat) (l : List UInt8) (h : ∀ b ∈ l, dvN hex b.toNat < 16) : ∀ b ∈ List.replicate k 48 ++ l, dvN hex b.toNat < 16 := by
  intro b hb
  rcases List.mem_append.1 hb with hb | hb
  · obtain ⟨_, rfl⟩ := List.mem_replicate.1 hb
    cases hex <;> decide
  · exact h b hb

set_option maxRecDepth 100000 in
set_option maxHeartbeats 2000000 in
theorem NumberZeros_true (n : Nat) (zeros : Int) (w : World) (hn : n < 18446744073709551616) (hm0 : -9223372036854775808 ≤ zeros) (hm1 : zeros ≤ 9223372036854775807) (htab : Tabs w) :
    Calls Tryd.prog 4 #[.int .u64 n, .int .i64 zeros] w fun r w' => r = .returned (.bool true) ∧ Below w.heap.size w w' := by
  obtain ⟨k, hk⟩ : ∃ k : Nat, zeros % 41 = (k : Int) := ⟨(zeros % 41).toNat, by have := Int.emod_nonneg zeros (show (41 : Int) ≠ 0 by omega); omega⟩
  have hk1 : k < 41 := by have := Int.emod_lt_of_pos zeros (show (0 : Int) < 41 by omega); omega
  have cM : ∀ w, Calls Tryd.prog 9 #[.int .i64 zeros, .int .i64 41] w fun e w' => e = .returned (.int .i64 k) ∧ w = w' := fun w => by
    have := Mod_any zeros 41 w hm0 hm1 (by omega) (by omega)
    rw [hk] at this
    exact this
  obtain ⟨d1, d2, d3⟩ := dec_facts n
  obtain ⟨x1, x2, x3⟩ := hex_facts n
  have dl := decDigits_le n hn
  have xl := hexDigits_le16 n hn
  have cD := DecText_any n hn
  have cX := HexText_any n hn
  obtain ⟨ds, hds⟩ : ∃ ds : ByteArray, (⟨(Lib.decDigits n).toArray⟩ : ByteArray) = ds := ⟨_, rfl⟩
  obtain ⟨xs, hxs⟩ : ∃ xs : ByteArray, (⟨(hexDigits n).toArray⟩ : ByteArray) = xs := ⟨_, rfl⟩
  have eds : Lib.decDigits n = ds.data.toList := by rw [← hds]
  have exs : hexDigits n = xs.data.toList := by rw [← hxs]
  simp only [hds] at cD
  simp only [hxs] at cX
  rw [eds] at d1 d2 d3 dl
  rw [exs] at x1 x2 x3 xl
  rw [size_l] at dl xl
  have CM := Lib.hid cM
  have CD := Lib.hid cD
  have CX := Lib.hid cX
  have D := Lib.hid (And.intro d1 (And.intro d2 d3))
  have X := Lib.hid (And.intro x1 (And.intro x2 x3))
  clear cM cD cX d1 d2 d3 x1 x2 x3 eds exs hds hxs hk
  go_enter Tryd.func4, Tryd.ntmps4
  go_wp2_with fail
  (with_reducible refine (CM.out _).mono ?_); rintro e w' ⟨rfl, rfl⟩
  go_wp2_with fail
  (with_reducible refine (CD.out _ htab).mono ?_); rintro e w1 ⟨rfl, hb1⟩
  have ht1 := htab.below hb1
  go_wp2_with fail
  (with_reducible refine (CX.out _ ht1).mono ?_); rintro e w2 ⟨rfl, hb2⟩
  have hb2' := hb1.trans (hb2.mono hb1.size)
  clear hb1 hb2 ht1
  go_wp2_with fail
  go_loopw [8, 9, 10] (fun u i _ wr => ∃ (j : Nat) (us : ByteArray), u = .string us ∧ i = .int .i64 j ∧ j ≤ xs.size ∧ us.size ≤ 16 ∧ Hid (us.data.toList = (xs.data.toList.take j).map up) ∧ Below w.heap.size w wr) (fun _ i _ _ => xs.size - (intOf i).toNat)
  case atStart => exact ⟨0, ⟨#[]⟩, rfl, rfl, Nat.zero_le _, Nat.zero_le _, (rfl : ([] : List UInt8) = ([] : List UInt8).map up), hb2'⟩
  case round =>
    obtain ⟨j, us, rfl, rfl, hj, hus, HU, hb⟩ := hrel
    rename World => W0
    by_cases hlt : j < xs.size
    · have hstep : ∀ b : UInt8, up xs[j] = b → Hid ((us ++ (⟨#[b]⟩ : ByteArray)).data.toList = (xs.data.toList.take (j + 1)).map up) := fun b hb' => by
        show _ = _
        rw [append_toList, HU.out, List.take_succ_eq_append_getElem (by rw [size_l]; exact hlt), List.map_append, List.map_singleton, getl xs j hlt, hb']
      have husz : us.size = j := by
        have := congrArg List.length HU.out
        simp at this
        omega
      have hsz1 : ∀ b : UInt8, (us ++ (⟨#[b]⟩ : ByteArray)).size = us.size + 1 := fun b => append_size _ _
      have HST := Lib.hid hstep
      have HS1 := Lib.hid hsz1
      have HUS := Lib.hid husz
      clear hstep hsz1 husz
      by_cases h97 : 97 ≤ xs[j].toNat
      · have hd102 : xs[j].toNat ≤ 102 := by have := dvN_t xs[j].toNat; have := X.out.1 xs[j] (by rw [← getl xs j hlt]; exact List.getElem_mem _); omega
        have hbs := run_byte_string (P := Tryd.prog) 29 9 5 Tryd.underlying29 Tryd.underlying5 Tryd.underlying9 W0 (UInt8.ofNat (xs[j].toNat - 32)) ((xs[j].toNat : Int) - 97 + 65) (by simp [UInt8.toNat_ofNat']; omega) 5
        have hone : (⟨#[UInt8.ofNat (xs[j].toNat - 32)]⟩ : ByteArray).size = 1 := rfl
        go_wp2
        go_roundw
        case rel => exact ⟨j + 1, _, rfl, by go_num, by omega, by rw [HS1.out, HUS.out]; omega, HST.out _ (by unfold up; rw [if_pos h97]), hb.alloc hb.size _⟩
        case measure => simp [intOf]; omega
      · have hbs := run_byte_string (P := Tryd.prog) 29 9 5 Tryd.underlying29 Tryd.underlying5 Tryd.underlying9 W0 xs[j] (xs[j].toNat : Int) rfl 5
        have hone : (⟨#[xs[j]]⟩ : ByteArray).size = 1 := rfl
        go_wp2
        go_roundw
        case rel => exact ⟨j + 1, _, rfl, by go_num, by omega, by rw [HS1.out, HUS.out]; omega, HST.out _ (by unfold up; rw [if_neg h97]), hb.alloc hb.size _⟩
        case measure => simp [intOf]; omega
    · obtain rfl : j = xs.size := by omega
      have zd := zeros_list k hk1 ds
      have zu := zeros_list k hk1 us
      have hul : us.data.toList = xs.data.toList.map up := by rw [HU.out, List.take_of_length_le (by rw [size_l]; omega)]
      have hul2 : us.data.toList.length = xs.size := by rw [hul, List.length_map, size_l]
      obtain ⟨u1, u2⟩ := up_all xs.data.toList X.out.1
      have hzd : ((⟨#[48, 48, 48, 48, 48, 48, 48, 48, 48, 48, 48, 48, 48, 48, 48, 48, 48, 48, 48, 48, 48, 48, 48, 48, 48, 48, 48, 48, 48, 48, 48, 48, 48, 48, 48, 48, 48, 48, 48, 48]⟩ : ByteArray).extract 0 k ++ ds).data.toList.length = k + ds.size := by rw [zd]; simp
      have hzu : ((⟨#[48, 48, 48, 48, 48, 48, 48, 48, 48, 48, 48, 48, 48, 48, 48, 48, 48, 48, 48, 48, 48, 48, 48, 48, 48, 48, 48, 48, 48, 48, 48, 48, 48, 48, 48, 48, 48, 48, 48, 48]⟩ : ByteArray).extract 0 k ++ us).data.toList.length = k + xs.size := by rw [zu, List.length_append, hul2]; simp
      have sd : ((⟨#[48, 48, 48, 48, 48, 48, 48, 48, 48, 48, 48, 48, 48, 48, 48, 48, 48, 48, 48, 48, 48, 48, 48, 48, 48, 48, 48, 48, 48, 48, 48, 48, 48, 48, 48, 48, 48, 48, 48, 48]⟩ : ByteArray).extract 0 k ++ ds).size ≤ 9223372036854775807 := by rw [← size_l]; omega
      have su : ((⟨#[48, 48, 48, 48, 48, 48, 48, 48, 48, 48, 48, 48, 48, 48, 48, 48, 48, 48, 48, 48, 48, 48, 48, 48, 48, 48, 48, 48, 48, 48, 48, 48, 48, 48, 48, 48, 48, 48, 48, 48]⟩ : ByteArray).extract 0 k ++ us).size ≤ 9223372036854775807 := by rw [← size_l]; omega
      have nd : ((⟨#[48, 48, 48, 48, 48, 48, 48, 48, 48, 48, 48, 48, 48, 48, 48, 48, 48, 48, 48, 48, 48, 48, 48, 48, 48, 48, 48, 48, 48, 48, 48, 48, 48, 48, 48, 48, 48, 48, 48, 48]⟩ : ByteArray).extract 0 k ++ ds).data.toList ≠ [] := by rw [zd]; simp only [ne_eq, List.append_eq_nil_iff, not_and]; intro _; exact D.out.2.2
      have nu : ((⟨#[48, 48, 48, 48, 48, 48, 48, 48, 48, 48, 48, 48, 48, 48, 48, 48, 48, 48, 48, 48, 48, 48, 48, 48, 48, 48, 48, 48, 48, 48, 48, 48, 48, 48, 48, 48, 48, 48, 48, 48]⟩ : ByteArray).extract 0 k ++ us).data.toList ≠ [] := by rw [zu, hul]; simp only [ne_eq, List.append_eq_nil_iff, List.map_eq_nil_iff, not_and]; intro _; exact X.out.2.2
      have c1 : ∀ w, Calls Tryd.prog 12 #[.string ((⟨#[48, 48, 48, 48, 48, 48, 48, 48, 48, 48, 48, 48, 48, 48, 48, 48, 48, 48, 48, 48, 48, 48, 48, 48, 48, 48, 48, 48, 48, 48, 48, 48, 48, 48, 48, 48, 48, 48, 48, 48]⟩ : ByteArray).extract 0 k ++ ds), .int .i64 ((ds.size : Int) + k), .int .u64 n, .int .u64 n, .int .i64 0] w fun r w' => r = .returned (.bool true) ∧ w = w' := fun w =>
        dec_yes _ _ n n 0 w sd (rd_of _ _ _ _ _ nd (by rw [zd]; exact zeros_all _ _ _ D.out.1) (by rw [zd, valA_zeros]; exact D.out.2.1) hn (by omega) (Nat.le_refl _))
      have c2 : ∀ w, Calls Tryd.prog 13 #[.string ((⟨#[48, 48, 48, 48, 48, 48, 48, 48, 48, 48, 48, 48, 48, 48, 48, 48, 48, 48, 48, 48, 48, 48, 48, 48, 48, 48, 48, 48, 48, 48, 48, 48, 48, 48, 48, 48, 48, 48, 48, 48]⟩ : ByteArray).extract 0 k ++ us), .int .i64 ((xs.size : Int) + k), .int .u64 n, .int .u64 n, .int .i64 0] w fun r w' => r = .returned (.bool true) ∧ Below w.heap.size w w' := fun w =>
        hex_yes _ _ n n 0 w su (rd_of _ _ _ _ _ nu (by rw [zu, hul]; exact zeros_all _ _ _ u1) (by rw [zu, hul, valA_zeros, u2]; exact X.out.2.1) hn (by omega) (Nat.le_refl _))
      have c3 : ∀ w, Calls Tryd.prog 12 #[.string ((⟨#[48, 48, 48, 48, 48, 48, 48, 48, 48, 48, 48, 48, 48, 48, 48, 48, 48, 48, 48, 48, 48, 48, 48, 48, 48, 48, 48, 48, 48, 48, 48, 48, 48, 48, 48, 48, 48, 48, 48, 48]⟩ : ByteArray).extract 0 k ++ ds), .int .i64 ((ds.size : Int) + k - 1), .int .u64 n, .int .u64 0, .int .i64 4] w fun r w' => r = .returned (.bool true) ∧ w = w' := fun w =>
        dec_yes _ _ n 0 4 w sd (rd_of_long _ _ _ _ nd (by rw [zd]; exact zeros_all _ _ _ D.out.1) (by omega))
      have hsum : us.size = xs.size := by rw [← size_l]; exact hul2
      have C1 := Lib.hid c1
      have C2 := Lib.hid c2
      have C3 := Lib.hid c3
      clear zd zu hul hul2 u1 u2 hzd hzu sd su nd nu c1 c2 c3 hsum HU
      by_cases hz : k = 0
      · have hzb : ((k : Int) == 0) = true := beq_iff_eq.2 (by omega)
        clear hz
        go_wp2_with fail
        (with_reducible refine (C1.out _).mono ?_); rintro e w' ⟨rfl, rfl⟩
        go_wp2_with fail
        (with_reducible refine (C2.out _).mono ?_); rintro e w3 ⟨rfl, hb3⟩
        have hb3' := hb.trans (hb3.mono hb.size)
        go_wp2_with fail
        refine (awake_true _ (htab.below hb3')).mono ?_; rintro e w5 ⟨rfl, hb5⟩
        go_wp2_with fail
        go_ret
        exact ⟨rfl, hb3'.trans (hb5.mono hb3'.size)⟩
      · have hzb : ((k : Int) == 0) = false := beq_eq_false_iff_ne.2 (by omega)
        clear hz
        go_wp2_with fail
        (with_reducible refine (C1.out _).mono ?_); rintro e w' ⟨rfl, rfl⟩
        go_wp2_with fail
        (with_reducible refine (C2.out _).mono ?_); rintro e w3 ⟨rfl, hb3⟩
        have hb3' := hb.trans (hb3.mono hb.size)
        go_wp2_with fail
        (with_reducible refine (C3.out _).mono ?_); rintro e w' ⟨rfl, rfl⟩
        go_wp2_with fail
        refine (awake_true _ (htab.below hb3')).mono ?_; rintro e w5 ⟨rfl, hb5⟩
        go_wp2_with fail
        go_ret
        exact ⟨rfl, hb3'.trans (hb5.mono hb3'.size)⟩
end Go.Proofs.YtjdapggdajkphaaDoor
