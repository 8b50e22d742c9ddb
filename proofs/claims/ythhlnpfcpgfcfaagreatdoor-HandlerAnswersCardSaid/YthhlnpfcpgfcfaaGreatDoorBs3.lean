/-
  The contract of byteset.All: are all bytes of a text in a set.
-/
import Derived.Test.YthhlnpfcpgfcfaaGreatDoorBs2
import Derived.Laws.StructEq
namespace Go.Proofs.YthhlnpfcpgfcfaaGreatDoor
open Go.RowKit

theorem bytesIn_reads {w : World} {g B : Nat} {s : ByteArray} (h : BytesIn w g s) (hg : g < B) : Reads w B 1 (some ⟨g, 0, none⟩) s.size (s.data.toList.map fun b => Value.int .u8 b.toNat) := by
  refine ⟨by simp, fun _ => ⟨_, rfl, hg, fun j u hu => ?_⟩⟩
  rw [List.getElem?_map] at hu
  by_cases hj : j < s.size
  · have e1 : s.data.toList[j]? = some s[j] := by
      rw [List.getElem?_eq_getElem (by simpa using hj)]; rfl
    rw [e1] at hu
    simp only [Option.map_some, Option.some.injEq] at hu
    subst hu
    have := h j hj
    rw [Addr.add_lit]
    simpa using this
  · rw [List.getElem?_eq_none (by simp; omega)] at hu
    simp at hu

theorem eqSet (a0 a1 a2 a3 b0 b1 b2 b3 : Int) (w : World) : (binOp .eql 141 (.agg #[.int .u64 a0, .int .u64 a1, .int .u64 a2, .int .u64 a3]) (.agg #[.int .u64 b0, .int .u64 b1, .int .u64 b2, .int .u64 b3])).run Tryz.prog w = .ok (.bool (a0 == b0 && a1 == b1 && a2 == b2 && a3 == b3)) w := by
  have u3 := Tryz.underlying139
  have a3' := Tryz.isAgg139
  have z3 := Tryz.sizeOf139
  rw [run_eql_struct, show (10000 : Nat) = 9999 + 1 from rfl, Op.equalIn]
  simp only [Sem.run_bind, run_underlying Tryz.underlying141, Result.andThen_ok]
  simp only [Std.Legacy.Range.forIn_eq_forIn_range', Std.Legacy.Range.size, Nat.sub_zero, Nat.add_sub_cancel, Nat.div_one, List.range'_succ, List.range'_zero, List.forIn_cons, List.forIn_nil]
  go_simp
  by_cases h0 : a0 = b0 <;> by_cases h1 : a1 = b1 <;> by_cases h2 : a2 = b2 <;> by_cases h3 : a3 = b3 <;> simp [h0, h1, h2, h3]

theorem word_ne (p : Nat → Bool) (bs : List UInt8) (b : UInt8) (hb : b ∈ bs) (hp : p b.toNat = false) : ((word (allP [p, inB bs]) (b.toNat / 64) : Int) == (word (inB bs) (b.toNat / 64) : Int)) = false := by
  rw [beq_eq_false_iff_ne]
  intro h
  have h1 : word (allP [p, inB bs]) (b.toNat / 64) = word (inB bs) (b.toNat / 64) := by exact_mod_cast h
  have h2 := word_bit (allP [p, inB bs]) (b.toNat / 64) (b.toNat % 64) (Nat.mod_lt _ (by omega))
  have h3 := word_bit (inB bs) (b.toNat / 64) (b.toNat % 64) (Nat.mod_lt _ (by omega))
  rw [h1, h3, show 64 * (b.toNat / 64) + b.toNat % 64 = b.toNat by omega] at h2
  have hin : inB bs b.toNat = true := by simp only [inB, List.any_eq_true]; exact ⟨b, hb, by simp⟩
  rw [hin] at h2
  simp [allP, hp] at h2
theorem sub_all (p : Nat → Bool) (bs : List UInt8) : ((word (allP [p, inB bs]) 0 : Int) == (word (inB bs) 0 : Int) && (word (allP [p, inB bs]) 1 : Int) == (word (inB bs) 1 : Int) && (word (allP [p, inB bs]) 2 : Int) == (word (inB bs) 2 : Int) && (word (allP [p, inB bs]) 3 : Int) == (word (inB bs) 3 : Int)) = bs.all fun b => p b.toNat := by
  by_cases h : ∀ b ∈ bs, p b.toNat = true
  · have e : allP [p, inB bs] = inB bs := by
      funext x
      cases hx : inB bs x with
      | false => simp [allP, hx]
      | true =>
        simp only [inB, List.any_eq_true] at hx
        obtain ⟨b, hb, hxb⟩ := hx
        have hxb' : x = b.toNat := by simpa using hxb
        have hin : inB bs x = true := by simp only [inB, List.any_eq_true]; exact ⟨b, hb, hxb⟩
        simp [allP, hxb', h b hb]
        rw [← hxb']; exact hin
    rw [e, List.all_eq_true.2 h]; simp
  · have h' : ∃ b ∈ bs, p b.toNat = false := by
      apply Classical.byContradiction
      intro hn
      apply h
      intro b hb
      cases hp : p b.toNat with
      | true => rfl
      | false => exact absurd ⟨b, hb, hp⟩ hn
    obtain ⟨b, hb, hp⟩ := h'
    have hw := word_ne p bs b hb hp
    have hr : (bs.all fun b => p b.toNat) = false := by
      rw [List.all_eq_false]; exact ⟨b, hb, by simp [hp]⟩
    have hb8 := b.toNat_lt
    have h4 : b.toNat / 64 = 0 ∨ b.toNat / 64 = 1 ∨ b.toNat / 64 = 2 ∨ b.toNat / 64 = 3 := by omega
    rw [hr]
    rcases h4 with h4 | h4 | h4 | h4 <;> rw [h4] at hw <;> simp only [hw, Bool.and_false, Bool.false_and]

theorem All_any (p : Nat → Bool) (s : ByteArray) (w : World) (hs : s.size ≤ 9223372036854775807) :
    Calls Tryz.prog 100 #[setV p, .string s] w fun e w' => e = .returned (.bool (s.data.toList.all fun b => p b.toNat)) ∧ Below w.heap.size w w' := by
  unfold setV
  have e : setW p = #[.int .u64 (word p 0), .int .u64 (word p 1), .int .u64 (word p 2), .int .u64 (word p 3)] := rfl
  obtain ⟨w0, hw0⟩ : ∃ w0, w.alloc (.cells (setW p) 141) = w0 := ⟨_, rfl⟩
  have hS0 : Blk w0 w.heap.size 141 (setW p) := by rw [← hw0]; exact Blk.new _ _ _
  have hb0 : Below w.heap.size w w0 := by rw [← hw0]; exact (Below.refl _ _).alloc (Nat.le_refl _) _
  have hz0 : w0.heap.size = w.heap.size + 1 := by rw [← hw0]; simp
  obtain ⟨cap, w1, hr, hb1, hsz, hbi, _⟩ := bytes_of_string (P := Tryz.prog) 9 66 5 Tryz.underlying9 Tryz.underlying66 Tryz.underlying5 w0 s
  have hS1 : Blk w1 w.heap.size 141 (setW p) := hS0.below hb1 (by omega)
  have cOf := Of_any (some ⟨w0.heap.size, 0, none⟩) s.size cap s.data.toList w1 (bytesIn_reads hbi hsz) hs
  have hb1' := hb0.trans (hb1.mono (by omega))
  obtain ⟨q, hq⟩ : ∃ q, inB s.data.toList = q := ⟨_, rfl⟩
  rw [hq, hz0] at cOf
  unfold setV at cOf
  rw [show setW q = #[.int .u64 (word q 0), .int .u64 (word q 1), .int .u64 (word q 2), .int .u64 (word q 3)] from rfl] at cOf
  have COF := Lib.hid cOf
  rw [e] at hw0 ⊢
  clear cOf
  go_enter Tryz.func100, Tryz.ntmps100
  go_wp2_with fail
  (with_reducible refine (COF.out).mono ?_); rintro r w2 ⟨rfl, hb2⟩
  have hS2 : Blk w2 w.heap.size 141 (setW p) := hS1.below hb2 (by have := hb1.size; omega)
  have hb2' := hb1'.trans (hb2.mono hb1'.size)
  have hs2 : w.heap.size < w2.heap.size := by have := hb1.size; have := hb2.size; omega
  go_wp2_with fail
  obtain ⟨w3, hw3⟩ : ∃ w3, w2.alloc (.cells (setW q) 141) = w3 := ⟨_, rfl⟩
  have hS3 : Blk w3 w.heap.size 141 (setW p) := by rw [← hw3]; exact hS2.alloc _
  have hQ3 : Blk w3 w2.heap.size 141 (setW q) := by rw [← hw3]; exact Blk.new _ _ _
  have hb3 : Below w.heap.size w w3 := by rw [← hw3]; exact hb2'.alloc hb2'.size _
  have hsz3 : w3.heap.size = w2.heap.size + 1 := by rw [← hw3]; simp
  rw [show setW q = #[.int .u64 (word q 0), .int .u64 (word q 1), .int .u64 (word q 2), .int .u64 (word q 3)] from rfl] at hw3
  rw [hw3]
  obtain ⟨p0, p1, p2, p3⟩ := blk_setW hS3
  obtain ⟨q0, q1, q2, q3⟩ := blk_setW hQ3
  obtain ⟨w4, hw4⟩ : ∃ w4, (w3.alloc (.cells #[.int .u64 (word p 0), .int .u64 (word p 1), .int .u64 (word p 2), .int .u64 (word p 3), .int .u64 (word q 0), .int .u64 (word q 1), .int .u64 (word q 2), .int .u64 (word q 3)] 141)).drew = w4 := ⟨_, rfl⟩
  have hS4 : Blk w4 w.heap.size 141 (setW p) := by rw [← hw4]; exact (hS3.alloc _).drew
  have hQ4 : Blk w4 w2.heap.size 141 (setW q) := by rw [← hw4]; exact (hQ3.alloc _).drew
  have hb4 : Below w.heap.size w w4 := by rw [← hw4]; exact (hb3.alloc hb3.size _).drew
  have hN4 : Blk w4 w3.heap.size 141 (setsC [p, q]).toArray := by rw [← hw4]; exact (Blk.new w3 _ _).drew
  have cC0 := Common_any (some ⟨w3.heap.size, 0, none⟩) 2 2 [p, q] w4 ⟨by simp [setsC_len], fun _ => ⟨_, rfl, hN4.lt, fun j u hu => by
    rw [Addr.add_lit, Nat.zero_add, hN4.cell]
    simpa using hu⟩⟩ (by omega)
  have cC : Calls Tryz.prog 126 #[.slice (some ⟨w2.heap.size + 1, 0, none⟩) 2 2] w4 fun e w5 => e = .returned (.agg #[.int .u64 (word (allP [p, q]) 0), .int .u64 (word (allP [p, q]) 1), .int .u64 (word (allP [p, q]) 2), .int .u64 (word (allP [p, q]) 3)]) ∧ Below w4.heap.size w4 w5 ∧ (w5.cell? ⟨w.heap.size, 0, none⟩ = some (.int .u64 (word p 0)) ∧ w5.cell? ⟨w.heap.size, 1, none⟩ = some (.int .u64 (word p 1)) ∧ w5.cell? ⟨w.heap.size, 2, none⟩ = some (.int .u64 (word p 2)) ∧ w5.cell? ⟨w.heap.size, 3, none⟩ = some (.int .u64 (word p 3))) ∧
      w5.cell? ⟨w2.heap.size, 0, none⟩ = some (.int .u64 (word q 0)) ∧ w5.cell? ⟨w2.heap.size, 1, none⟩ = some (.int .u64 (word q 1)) ∧ w5.cell? ⟨w2.heap.size, 2, none⟩ = some (.int .u64 (word q 2)) ∧ w5.cell? ⟨w2.heap.size, 3, none⟩ = some (.int .u64 (word q 3)) := by
    rw [← hsz3]
    refine cC0.mono fun e w5 ⟨he, hb5⟩ => ⟨he, hb5, blk_setW (hS4.below hb5 hS4.lt), ?_⟩
    exact blk_setW (hQ4.below hb5 hQ4.lt)
  have CC := Lib.hid cC
  have hEQ := eqSet (word (allP [p, q]) 0) (word (allP [p, q]) 1) (word (allP [p, q]) 2) (word (allP [p, q]) 3) (word q 0) (word q 1) (word q 2) (word q 3)
  clear cC0 cC
  have hw4' := Lib.hid hw4
  clear hw4
  obtain ⟨p0', p1', p2', p3'⟩ := blk_setW hS4
  obtain ⟨q0', q1', q2', q3'⟩ := blk_setW hQ4
  go_region_held3 (fun w' => (w'.cell? ⟨w.heap.size, 0, none⟩ = some (.int .u64 (word p 0)) ∧ w'.cell? ⟨w.heap.size, 1, none⟩ = some (.int .u64 (word p 1)) ∧ w'.cell? ⟨w.heap.size, 2, none⟩ = some (.int .u64 (word p 2)) ∧ w'.cell? ⟨w.heap.size, 3, none⟩ = some (.int .u64 (word p 3))) ∧ (w'.cell? ⟨w2.heap.size, 0, none⟩ = some (.int .u64 (word q 0)) ∧ w'.cell? ⟨w2.heap.size, 1, none⟩ = some (.int .u64 (word q 1)) ∧ w'.cell? ⟨w2.heap.size, 2, none⟩ = some (.int .u64 (word q 2)) ∧ w'.cell? ⟨w2.heap.size, 3, none⟩ = some (.int .u64 (word q 3)))) (go_keep)
    (first | (rw [hw4'.out]; go_at_call 126; (with_reducible refine (CC.out).mono ?_); rintro r w5 ⟨rfl, hb5, ⟨j0, j1, j2, j3⟩, k0, k1, k2, k3⟩))
  go_wp2_with fail
  go_ret
  refine ⟨ret_bool ?_, hb4.trans (hb5.mono hb4.size)⟩
  rw [← hq]
  exact sub_all p s.data.toList
end Go.Proofs.YthhlnpfcpgfcfaaGreatDoor
