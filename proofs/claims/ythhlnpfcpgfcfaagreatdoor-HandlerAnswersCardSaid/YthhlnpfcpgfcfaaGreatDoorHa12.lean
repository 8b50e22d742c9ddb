/-
  The statements' own bounds on what was found and on a request.
-/
import Derived.Test.YthhlnpfcpgfcfaaGreatDoorHa6
namespace Go.Proofs.YthhlnpfcpgfcfaaGreatDoor
open Go.RowKit

def LightPost (f : FoundP) (r : ReqP) (w : World) (e : Ending) (w' : World) : Prop := ∃ b : Bool, e = .returned (.bool b) ∧ (b = true → LightF f r) ∧ Below w.heap.size w w'
/-- the first k names, values are short -/
def ShortK (L : List (List UInt8)) (k : Nat) : Prop := ∀ (j : Nat) (h : j < L.length), j < k → L[j].length ≤ 300
theorem ShortK.succ {L : List (List UInt8)} {k : Nat} (h : ShortK L k) (hk : ∀ h : k < L.length, L[k].length ≤ 300) : ShortK L (k + 1) := fun j hj hjk => by
  rcases Nat.lt_or_ge j k with h2 | h2
  · exact h j hj h2
  · obtain rfl : j = k := by omega
    exact hk hj
theorem ShortK.all {L : List (List UInt8)} {k : Nat} (h : ShortK L k) (hk : L.length ≤ k) : ∀ x ∈ L, x.length ≤ 300 := fun x hx => by
  obtain ⟨j, hj, rfl⟩ := List.getElem_of_mem hx
  exact h j hj (by omega)
set_option maxRecDepth 100000 in
set_option maxHeartbeats 16000000 in
theorem pLight42 (f : FoundP) (r : ReqP) (S N V FA : Option Addr) (cs cn cv fn fc : Nat) (host : ByteArray) (w : World) (hf1 : f.segs.length ≤ 9223372036854775807) (hf2 : f.names.length ≤ 9223372036854775807) (hf3 : f.vals.length ≤ 9223372036854775807)
    (hS : Reads w w.heap.size 1 S f.segs.length (strs f.segs)) (hN : Reads w w.heap.size 1 N f.names.length (strs f.names)) (hV : Reads w w.heap.size 1 V f.vals.length (strs f.vals)) :
    Calls Tryz.prog 12 #[fndV f S N V cs cn cv, reqV r host FA fn fc] w (LightPost f r w) := by
  have b2 : Below w.heap.size w ((w.alloc (.cells #[.bool f.ok, .slice S f.segs.length cs, .int .i64 f.kind, .string (bs f.text), .slice N f.names.length cn, .slice V f.vals.length cv, .string (bs f.rest)] 42)).alloc (.cells #[.string (bs r.method), .string (bs r.path), .string (bs r.query), .string host, .slice FA fn fc, .string (bs r.body)] 33)) := ((Below.refl _ _).alloc (Nat.le_refl _) _).alloc (by simp) _
  have z1 := bs_size f.text
  have z2 := bs_size f.rest
  have z3 := bs_size r.method
  have z4 := bs_size r.path
  have z5 := bs_size r.query
  have z6 := bs_size r.body
  have B2 := Lib.hid b2
  have HS := Lib.hid ((hS.below b2).more b2.size)
  have HN := Lib.hid ((hN.below b2).more b2.size)
  have HV := Lib.hid ((hV.below b2).more b2.size)
  clear b2 hS hN hV
  unfold fndV reqV
  by_cases hall : f.names.length ≤ 20 ∧ f.vals.length ≤ 20 ∧ f.segs.length ≤ 20 ∧ f.rest.length ≤ 300 ∧ f.text.length ≤ 300 ∧ r.method.length ≤ 300 ∧ r.path.length ≤ 300 ∧ r.query.length ≤ 300 ∧ r.body.length ≤ 5000
  · have HA := Lib.hid hall
    obtain ⟨h1, h2, h3, h4, h5, h6, h7, h8, h9⟩ := hall
    have kf := (Blk.new w 42 #[.bool f.ok, .slice S f.segs.length cs, .int .i64 f.kind, .string (bs f.text), .slice N f.names.length cn, .slice V f.vals.length cv, .string (bs f.rest)]).alloc (.cells #[.string (bs r.method), .string (bs r.path), .string (bs r.query), .string host, .slice FA fn fc, .string (bs r.body)] 33)
    have c1 : ((w.alloc (.cells #[.bool f.ok, .slice S f.segs.length cs, .int .i64 f.kind, .string (bs f.text), .slice N f.names.length cn, .slice V f.vals.length cv, .string (bs f.rest)] 42)).alloc (.cells #[.string (bs r.method), .string (bs r.path), .string (bs r.query), .string host, .slice FA fn fc, .string (bs r.body)] 33)).cell? ⟨w.heap.size, 1, none⟩ = some (.slice S f.segs.length cs) := kf.cell 1
    have c4 : ((w.alloc (.cells #[.bool f.ok, .slice S f.segs.length cs, .int .i64 f.kind, .string (bs f.text), .slice N f.names.length cn, .slice V f.vals.length cv, .string (bs f.rest)] 42)).alloc (.cells #[.string (bs r.method), .string (bs r.path), .string (bs r.query), .string host, .slice FA fn fc, .string (bs r.body)] 33)).cell? ⟨w.heap.size, 4, none⟩ = some (.slice N f.names.length cn) := kf.cell 4
    have c5 : ((w.alloc (.cells #[.bool f.ok, .slice S f.segs.length cs, .int .i64 f.kind, .string (bs f.text), .slice N f.names.length cn, .slice V f.vals.length cv, .string (bs f.rest)] 42)).alloc (.cells #[.string (bs r.method), .string (bs r.path), .string (bs r.query), .string host, .slice FA fn fc, .string (bs r.body)] 33)).cell? ⟨w.heap.size, 5, none⟩ = some (.slice V f.vals.length cv) := kf.cell 5
    have C := Lib.hid (And.intro c1 (And.intro c4 c5))
    clear kf c1 c4 c5
    obtain ⟨W, hW⟩ : ∃ W, ((w.alloc (.cells #[.bool f.ok, .slice S f.segs.length cs, .int .i64 f.kind, .string (bs f.text), .slice N f.names.length cn, .slice V f.vals.length cv, .string (bs f.rest)] 42)).alloc (.cells #[.string (bs r.method), .string (bs r.path), .string (bs r.query), .string host, .slice FA fn fc, .string (bs r.body)] 33)) = W := ⟨_, rfl⟩
    rw [hW] at HS HN HV B2 C
    have HWW := Lib.hid hW
    clear hW
    go_enter Tryz.func12, Tryz.ntmps12
    go_wp2_with fail
    rw [HWW.out]
    go_loopw [5] (fun i wr => ∃ k : Nat, i = .int .i64 k ∧ k ≤ 20 ∧ wr = W ∧ Hid (ShortK f.names k) ∧ Hid (ShortK f.vals k)) (fun i _ => 20 - (intOf i).toNat)
    case atStart => exact ⟨0, rfl, by omega, rfl, hide (fun j _ h => by omega), hide (fun j _ h => by omega)⟩
    case round =>
      obtain ⟨k, rfl, hk, rfl, hA1, hA2⟩ := hrel
      obtain ⟨c1, c4, c5⟩ := C.out
      by_cases hlt : k < 20
      · have i0 : (0 : Int) ≤ (k : Int) := by omega
        clear h1 h2 h3 h4 h5 h6 h7 h8 h9 z1 z2 z3 z4 z5 z6 hf1 hf2 hf3
        rcases (show ¬ k < f.names.length ∨ k < f.names.length by omega) with q1 | q1
        · have d1 : ¬ ((k : Int) < (f.names.length : Int)) := by omega
          have s1 : ∀ h : k < f.names.length, f.names[k].length ≤ 300 := fun h => absurd h q1
          have S1 := Lib.hid s1
          clear s1
          rcases (show ¬ k < f.vals.length ∨ k < f.vals.length by omega) with q2 | q2
          · have d2 : ¬ ((k : Int) < (f.vals.length : Int)) := by omega
            have s2 : ∀ h : k < f.vals.length, f.vals[k].length ≤ 300 := fun h => absurd h q2
            have S2 := Lib.hid s2
            clear s2
            rcases (show ¬ k < f.segs.length ∨ k < f.segs.length by omega) with q3 | q3
            · have d3 : ¬ ((k : Int) < (f.segs.length : Int)) := by omega
              go_wp2_with fail
              go_roundw
              case rel => exact ⟨k + 1, by go_num, by omega, trivial, hide (hA1.out.succ S1.out), hide (hA2.out.succ S2.out)⟩
              case measure => simp [intOf]; omega
            · have d3 : (k : Int) < (f.segs.length : Int) := by omega
              obtain ⟨b3, o3, rfl, _, e3⟩ := HS.out.text k q3
              obtain ⟨x3, hx3⟩ : ∃ x, f.segs[k] = x := ⟨_, rfl⟩
              rw [hx3] at e3
              have y3 := bs_size x3
              by_cases l3 : x3.length ≤ 300
              · clear hx3
                go_wp2_with fail
                go_roundw
                case rel => exact ⟨k + 1, by go_num, by omega, trivial, hide (hA1.out.succ S1.out), hide (hA2.out.succ S2.out)⟩
                case measure => simp [intOf]; omega
              · clear hx3
                go_wp2_with fail
                go_ret
                exact ⟨false, rfl, (fun e => by cases e), B2.out⟩
          · have d2 : (k : Int) < (f.vals.length : Int) := by omega
            obtain ⟨b2, o2, rfl, _, e2⟩ := HV.out.text k q2
            obtain ⟨x2, hx2⟩ : ∃ x, f.vals[k] = x := ⟨_, rfl⟩
            rw [hx2] at e2
            have y2 := bs_size x2
            by_cases l2 : x2.length ≤ 300
            · have s2 : ∀ h : k < f.vals.length, f.vals[k].length ≤ 300 := fun h => by rw [hx2]; exact l2
              have S2 := Lib.hid s2
              clear s2 hx2
              rcases (show ¬ k < f.segs.length ∨ k < f.segs.length by omega) with q3 | q3
              · have d3 : ¬ ((k : Int) < (f.segs.length : Int)) := by omega
                go_wp2_with fail
                go_roundw
                case rel => exact ⟨k + 1, by go_num, by omega, trivial, hide (hA1.out.succ S1.out), hide (hA2.out.succ S2.out)⟩
                case measure => simp [intOf]; omega
              · have d3 : (k : Int) < (f.segs.length : Int) := by omega
                obtain ⟨b3, o3, rfl, _, e3⟩ := HS.out.text k q3
                obtain ⟨x3, hx3⟩ : ∃ x, f.segs[k] = x := ⟨_, rfl⟩
                rw [hx3] at e3
                have y3 := bs_size x3
                by_cases l3 : x3.length ≤ 300
                · clear hx3
                  go_wp2_with fail
                  go_roundw
                  case rel => exact ⟨k + 1, by go_num, by omega, trivial, hide (hA1.out.succ S1.out), hide (hA2.out.succ S2.out)⟩
                  case measure => simp [intOf]; omega
                · clear hx3
                  go_wp2_with fail
                  go_ret
                  exact ⟨false, rfl, (fun e => by cases e), B2.out⟩
            · clear hx2
              go_wp2_with fail
              go_ret
              exact ⟨false, rfl, (fun e => by cases e), B2.out⟩
        · have d1 : (k : Int) < (f.names.length : Int) := by omega
          obtain ⟨b1, o1, rfl, _, e1⟩ := HN.out.text k q1
          obtain ⟨x1, hx1⟩ : ∃ x, f.names[k] = x := ⟨_, rfl⟩
          rw [hx1] at e1
          have y1 := bs_size x1
          by_cases l1 : x1.length ≤ 300
          · have s1 : ∀ h : k < f.names.length, f.names[k].length ≤ 300 := fun h => by rw [hx1]; exact l1
            have S1 := Lib.hid s1
            clear s1 hx1
            rcases (show ¬ k < f.vals.length ∨ k < f.vals.length by omega) with q2 | q2
            · have d2 : ¬ ((k : Int) < (f.vals.length : Int)) := by omega
              have s2 : ∀ h : k < f.vals.length, f.vals[k].length ≤ 300 := fun h => absurd h q2
              have S2 := Lib.hid s2
              clear s2
              rcases (show ¬ k < f.segs.length ∨ k < f.segs.length by omega) with q3 | q3
              · have d3 : ¬ ((k : Int) < (f.segs.length : Int)) := by omega
                go_wp2_with fail
                go_roundw
                case rel => exact ⟨k + 1, by go_num, by omega, trivial, hide (hA1.out.succ S1.out), hide (hA2.out.succ S2.out)⟩
                case measure => simp [intOf]; omega
              · have d3 : (k : Int) < (f.segs.length : Int) := by omega
                obtain ⟨b3, o3, rfl, _, e3⟩ := HS.out.text k q3
                obtain ⟨x3, hx3⟩ : ∃ x, f.segs[k] = x := ⟨_, rfl⟩
                rw [hx3] at e3
                have y3 := bs_size x3
                by_cases l3 : x3.length ≤ 300
                · clear hx3
                  go_wp2_with fail
                  go_roundw
                  case rel => exact ⟨k + 1, by go_num, by omega, trivial, hide (hA1.out.succ S1.out), hide (hA2.out.succ S2.out)⟩
                  case measure => simp [intOf]; omega
                · clear hx3
                  go_wp2_with fail
                  go_ret
                  exact ⟨false, rfl, (fun e => by cases e), B2.out⟩
            · have d2 : (k : Int) < (f.vals.length : Int) := by omega
              obtain ⟨b2, o2, rfl, _, e2⟩ := HV.out.text k q2
              obtain ⟨x2, hx2⟩ : ∃ x, f.vals[k] = x := ⟨_, rfl⟩
              rw [hx2] at e2
              have y2 := bs_size x2
              by_cases l2 : x2.length ≤ 300
              · have s2 : ∀ h : k < f.vals.length, f.vals[k].length ≤ 300 := fun h => by rw [hx2]; exact l2
                have S2 := Lib.hid s2
                clear s2 hx2
                rcases (show ¬ k < f.segs.length ∨ k < f.segs.length by omega) with q3 | q3
                · have d3 : ¬ ((k : Int) < (f.segs.length : Int)) := by omega
                  go_wp2_with fail
                  go_roundw
                  case rel => exact ⟨k + 1, by go_num, by omega, trivial, hide (hA1.out.succ S1.out), hide (hA2.out.succ S2.out)⟩
                  case measure => simp [intOf]; omega
                · have d3 : (k : Int) < (f.segs.length : Int) := by omega
                  obtain ⟨b3, o3, rfl, _, e3⟩ := HS.out.text k q3
                  obtain ⟨x3, hx3⟩ : ∃ x, f.segs[k] = x := ⟨_, rfl⟩
                  rw [hx3] at e3
                  have y3 := bs_size x3
                  by_cases l3 : x3.length ≤ 300
                  · clear hx3
                    go_wp2_with fail
                    go_roundw
                    case rel => exact ⟨k + 1, by go_num, by omega, trivial, hide (hA1.out.succ S1.out), hide (hA2.out.succ S2.out)⟩
                    case measure => simp [intOf]; omega
                  · clear hx3
                    go_wp2_with fail
                    go_ret
                    exact ⟨false, rfl, (fun e => by cases e), B2.out⟩
              · clear hx2
                go_wp2_with fail
                go_ret
                exact ⟨false, rfl, (fun e => by cases e), B2.out⟩
          · clear hx1
            go_wp2_with fail
            go_ret
            exact ⟨false, rfl, (fun e => by cases e), B2.out⟩
      · obtain rfl : k = 20 := by omega
        have HF := Lib.hid (show LightF f r from ⟨HA.out.2.2.1, HA.out.1, HA.out.2.1, HA.out.2.2.2.2.1, HA.out.2.2.2.1, HA.out.2.2.2.2.2.1, HA.out.2.2.2.2.2.2.1, HA.out.2.2.2.2.2.2.2.1, HA.out.2.2.2.2.2.2.2.2, hA1.out.all HA.out.1, hA2.out.all HA.out.2.1⟩)
        clear h1 h2 h3 h4 h5 h6 h7 h8 h9 z1 z2 z3 z4 z5 z6 hf1 hf2 hf3 hlt
        go_wp2_with fail
        go_ret
        exact ⟨true, rfl, fun _ => HF.out, B2.out⟩
  · clear HS HN HV
    go_enter Tryz.func12, Tryz.ntmps12
    go_wp2_with fail
    all_goals first
      | (go_ret; exact ⟨false, rfl, (fun e => by cases e), B2.out⟩)
      | (exfalso; omega)
end Go.Proofs.YthhlnpfcpgfcfaaGreatDoor
