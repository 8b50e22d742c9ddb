/-
  Handlers: the body of a handler, and Body of the program.
-/
import Derived.Test.YthhlnpfcpgfcfaaGreatDoorHa1
import Derived.Test.YthhlnpfcpgfcfaaGreatDoorRd
import Derived.Test.YthhlnpfcpgfcfaaGreatDoorRs8
import Derived.Deep.RegionHeld3
namespace Go.Proofs.YthhlnpfcpgfcfaaGreatDoor
open Go.RowKit

theorem heap_freeze_ne (w : World) (p : Addr) (n k : Nat) (h : k ≠ p.block) : (w.freeze p n).heap[k]? = w.heap[k]? := by
  unfold World.freeze
  split
  · rfl
  · simp only [Array.getElem?_modify]
    rw [if_neg (fun e => h e.symm)]
set_option maxHeartbeats 1000000 in
set_option maxRecDepth 100000 in
/-- a builder that is read stays a block of two cells -/
theorem readB (B b : Nat) (l : List UInt8) (w : World) (h : Lib.IsBuilder 68 5 B b (Lib.byteCells l) w) (h0 : l ≠ []) :
    Calls Tryz.prog 35 #[.pointer (some ⟨b, 0, none⟩)] w fun e w' => e = .returned (.string (bs l)) ∧ Below B w w' ∧ ∃ p v, Blk w' b 68 #[p, v] := by
  obtain ⟨p, hB, v, hbk, hown, hne⟩ : ∃ p, Lib.BuilderAt 68 5 B b p (Lib.byteCells l) w := by
    rcases h with h | h
    · exact ⟨_, h⟩
    · exact ⟨_, h⟩
  have hl0 : l.length ≠ 0 := by simpa using h0
  rw [Lib.byteCells_length] at hown
  obtain ⟨g, cap, cur, rfl, hbg, hg, hnc, hcm, hcs, htake⟩ : ∃ g cap cur, v = .slice (some ⟨g, 0, none⟩) l.length cap ∧ B ≤ g ∧ w.heap[g]? = some (.cells cur 5 (0, 0)) ∧ l.length ≤ cap ∧ cap ≤ maxLen ∧ cur.size = cap * 1 ∧ cur.toList.take (l.length * 1) = Lib.byteCells l := by
    rcases hown.2 with ⟨_, hz⟩ | ⟨g, cap, cur, hv, r⟩
    · exact absurd hz hl0
    · exact ⟨g, cap, cur, hv, r⟩
  have hgb : b ≠ g := by
    rintro rfl
    rw [hbk] at hg
    injection hg with hg
    injection hg with _ hg _
    revert hg; decide
  have c1 : w.drew.cell? ⟨b, 1, none⟩ = some (.slice (some ⟨g, 0, none⟩) l.length cap) := by
    have : w.drew.heap[b]? = some (.cells #[p, .slice (some ⟨g, 0, none⟩) l.length cap] 68 (0, 0)) := hbk
    rw [Lib.cell_of_heap this]; rfl
  have hSD : (Builtin.unsafeSliceData_ #[66] 109 #[.slice (some ⟨g, 0, none⟩) l.length cap]).run Tryz.prog w.drew = .ok (.pointer (some ⟨g, 0, none⟩)) w.drew :=
    Lib.run_unsafeSliceData_row _ _ _ _ _ _ (by omega)
  have hUS : (Builtin.unsafeString_ #[109, 3] 9 #[.pointer (some ⟨g, 0, none⟩), .int .i64 l.length]).run Tryz.prog w.drew = .ok (.string (bs l)) (w.drew.freeze ⟨g, 0, none⟩ l.length) := by
    refine Lib.run_unsafeString_row w.drew 109 3 9 5 Tryz.underlying109 cells_byte g cur.size (by have hg' : w.drew.heap[g]? = some (.cells cur 5 (0, 0)) := hg; simp [World.shape?, hg']) l h0 (by omega) (by unfold maxLen at hcm; omega) ?_
    intro j x hx
    have := hown.cells (g := g) rfl j (.int .u8 x.toNat) (by simp [Lib.byteCells, hx])
    exact this
  have hfin : Blk (w.drew.freeze ⟨g, 0, none⟩ l.length) b 68 #[p, .slice (some ⟨g, 0, none⟩) l.length cap] := (heap_freeze_ne w.drew ⟨g, 0, none⟩ l.length b hgb).trans hbk
  go_enter Tryz.func35, Tryz.ntmps35
  go_wp2
  go_region
  all_goals (go_wp2; go_ret; exact ⟨rfl, Lib.below_freeze (Below.drew (Below.refl B w)) (p := ⟨g, 0, none⟩) hbg _, _, _, hfin⟩)
/-- a builder emptied -/
theorem pReset (B b : Nat) (p v : Value) (w : World) (h : Blk w b 68 #[p, v]) (hB : B ≤ b) :
    Calls Tryz.prog 106 #[.pointer (some ⟨b, 0, none⟩)] w fun e w' => e = .returned (.tuple #[]) ∧ Lib.IsBuilder 68 5 B b (Lib.byteCells []) w' ∧ Below B w w' := by
  have c0 := h.cell 0
  have f0 := h.frozen 0
  have h1 := h.set_ 0 (.pointer none)
  have c1 : (w.setCell ⟨b, 0, none⟩ (.pointer none)).cell? ⟨b, 1, none⟩ = some v := h1.cell 1
  have f1 := h1.frozen 1
  have h2 : Blk ((w.setCell ⟨b, 0, none⟩ (.pointer none)).setCell ⟨b, 1, none⟩ (.slice none 0 0)) b 68 #[.pointer none, .slice none 0 0] := by
    have := h1.set_ 1 (.slice none 0 0)
    simpa using this
  have hb : Below B w ((w.setCell ⟨b, 0, none⟩ (.pointer none)).setCell ⟨b, 1, none⟩ (.slice none 0 0)) := ((Below.refl B w).setCell (p := ⟨b, 0, none⟩) hB _).setCell (p := ⟨b, 1, none⟩) hB _
  have H := Lib.hid (And.intro h2 hb)
  clear h h1 h2 hb
  go_enter Tryz.func106, Tryz.ntmps106
  go_wp2_with fail
  first | go_end0 | (refine bodyPost_ret (results_none rfl _ _ _) rfl ?_)
  exact ⟨rfl, .inl ⟨hB, .slice none 0 0, H.out.1, World.ownsRow_nil _ _ _ _, by simp [Value.ownBlock]⟩, H.out.2⟩
theorem flat_len {α : Type} (g : α → List UInt8) (c : Nat) : ∀ L : List α, (∀ x ∈ L, (g x).length ≤ c) → (L.flatMap g).length ≤ L.length * c
  | [], _ => by simp
  | x :: L, h => by
    have h1 := h x (by simp)
    have h2 := flat_len g c L (fun y hy => h y (by simp [hy]))
    rw [List.flatMap_cons, List.length_append, List.length_cons, Nat.succ_mul]
    omega
/-- bounds of what was found and of a request -/
structure LightF (f : FoundP) (r : ReqP) : Prop where
  segs : f.segs.length ≤ 20
  names : f.names.length ≤ 20
  vals : f.vals.length ≤ 20
  text : f.text.length ≤ 300
  rest : f.rest.length ≤ 300
  method : r.method.length ≤ 300
  path : r.path.length ≤ 300
  query : r.query.length ≤ 300
  body : r.body.length ≤ 5000
  name : ∀ x ∈ f.names, x.length ≤ 300
  val : ∀ x ∈ f.vals, x.length ≤ 300
def preE (f : FoundP) (r : ReqP) (k : Nat) : List UInt8 := plainT (headE r) ++ [10] ++ ((f.names.zip f.vals).take k).flatMap fun x => lineE x.1 x.2
theorem preE_zero (f : FoundP) (r : ReqP) : preE f r 0 = plainT (headE r) ++ [10] := by simp [preE]
theorem preE_succ (f : FoundP) (r : ReqP) (k : Nat) (h1 : k < f.names.length) (h2 : k < f.vals.length) : preE f r (k + 1) = preE f r k ++ [plainT f.names[k], [61], plainT f.vals[k], [10]].flatten := by
  unfold preE
  rw [List.take_succ_eq_append_getElem (by simp; omega), List.flatMap_append, List.getElem_zip]
  simp [lineE]
theorem preE_all (f : FoundP) (r : ReqP) (h : f.names.length = f.vals.length) : preE f r f.names.length = echoT f r := by
  unfold preE echoT linesE
  rw [List.take_of_length_le (by simp; omega)]
theorem headE_len {f : FoundP} {r : ReqP} (h : LightF f r) : (headE r).length ≤ 902 := by
  have := h.method; have := h.path; have := h.query
  unfold headE
  by_cases hq : r.query = []
  · rw [if_pos hq]; simp only [List.length_append, List.length_cons, List.length_nil]; omega
  · rw [if_neg hq]; simp only [List.length_append, List.length_cons, List.length_nil]; omega
theorem preE_len {f : FoundP} {r : ReqP} (h : LightF f r) (k : Nat) : (preE f r k).length ≤ 50000 := by
  have h1 := (plainT_len (headE r)).2
  have h2 := headE_len h
  have h3 := flat_len (fun x : List UInt8 × List UInt8 => lineE x.1 x.2) 1802 ((f.names.zip f.vals).take k) (fun x hx => by
    have hz := List.of_mem_zip (List.mem_of_mem_take hx)
    have a := h.name _ hz.1
    have b := h.val _ hz.2
    have c := (plainT_len x.1).2
    have d := (plainT_len x.2).2
    unfold lineE
    simp only [List.length_append, List.length_cons, List.length_nil]
    omega)
  have h4 : ((f.names.zip f.vals).take k).length ≤ 20 := by have := h.names; simp; omega
  unfold preE
  simp only [List.length_append, List.length_cons, List.length_nil]
  have h5 : ((f.names.zip f.vals).take k).length * 1802 ≤ 20 * 1802 := Nat.mul_le_mul_right _ h4
  omega
def ofV (f : FoundP) (r : ReqP) (S N V FA : Option Addr) (cs cn cv fn fc : Nat) (host : ByteArray) : Array Value := #[.bool f.ok, .slice S f.segs.length cs, .int .i64 f.kind, .string (bs f.text), .slice N f.names.length cn, .slice V f.vals.length cv, .string (bs f.rest), .string (bs r.method), .string (bs r.path), .string (bs r.query), .string host, .slice FA fn fc, .string (bs r.body), .int .i64 f.kind]
set_option maxRecDepth 100000 in
set_option maxHeartbeats 8000000 in
theorem pOfBody (f : FoundP) (r : ReqP) (S N V FA : Option Addr) (cs cn cv fn fc : Nat) (host : ByteArray) (w : World) (hl : LightF f r) (hk : 1 ≤ f.kind) (hk4 : f.kind ≤ 4) (hnv : f.names.length = f.vals.length)
    (hN : Reads w w.heap.size 1 N f.names.length (strs f.names)) (hV : Reads w w.heap.size 1 V f.vals.length (strs f.vals)) :
    Calls Tryz.prog 76 #[.agg (ofV f r S N V FA cs cn cv fn fc host)] w fun e w' => e = .returned (.string (bs (saysT f r))) ∧ Below w.heap.size w w' := by
  have b1 : Below w.heap.size w (w.alloc (.cells (ofV f r S N V FA cs cn cv fn fc host) 116)) := (Below.refl _ _).alloc (Nat.le_refl _) _
  have k1 := Blk.new w 116 (ofV f r S N V FA cs cn cv fn fc host)
  obtain ⟨W1, hW1⟩ : ∃ W1, w.alloc (.cells (ofV f r S N V FA cs cn cv fn fc host) 116) = W1 := ⟨_, rfl⟩
  have hs1 : W1.heap.size = w.heap.size + 1 := by rw [← hW1]; simp
  rw [hW1] at b1 k1
  have S2 := Lib.hid (St.fresh 68 W1)
  have kb : ∀ X, Below W1.heap.size W1 X → Blk X w.heap.size 116 (ofV f r S N V FA cs cn cv fn fc host) ∧ Below w.heap.size w X := fun X hX => ⟨k1.below hX (by omega), b1.trans (hX.mono b1.size)⟩
  have KB := Lib.hid kb
  have HNV := Lib.hid (And.intro hN hV)
  have HL := Lib.hid hl
  have HW := Lib.hid (And.intro hW1 hs1)
  clear b1 kb hl hN hV k1
  have hk3 : f.kind = 1 ∨ f.kind = 2 ∨ f.kind = 3 ∨ f.kind = 4 := by omega
  unfold ofV at *
  obtain ⟨n, hn⟩ : ∃ n, f.names.length = n := ⟨_, rfl⟩
  have hn2 : f.vals.length = n := by rw [← hnv, hn]
  rw [hn, hn2] at HW
  rw [hn] at HNV
  rw [hn2] at HNV
  rw [hn, hn2] at KB
  rw [hn, hn2]
  have HNL := Lib.hid (And.intro hn (And.intro hn2 hnv))
  have hn20 : n ≤ 20 := by rw [← hn]; exact HL.out.names
  clear hn hn2 hnv
  rcases hk3 with hk3 | hk3 | hk3 | hk3
  · have hs : saysT f r = f.text := by unfold saysT; rw [if_pos hk3]
    rw [hs, hk3]
    rw [hk3] at KB HW
    clear hs hk3 hk hk4
    go_enter Tryz.func76, Tryz.ntmps76
    go_wp2_with fail
    go_ret
    rw [HW.out.1]
    exact ⟨rfl, (KB.out _ S2.out.bl).2⟩
  · have hs : saysT f r = echoT f r := by unfold saysT; rw [if_neg (by omega), if_pos hk3]
    rw [hs, hk3]
    rw [hk3] at KB HW
    have hbE := headE_len HL.out
    have c7 : (W1.alloc (.cells #[.pointer none, .slice none 0 0] 68)).cell? ⟨w.heap.size, 7, none⟩ = some (.string (bs r.method)) := (KB.out _ S2.out.bl).1.cell 7
    have c8 : (W1.alloc (.cells #[.pointer none, .slice none 0 0] 68)).cell? ⟨w.heap.size, 8, none⟩ = some (.string (bs r.path)) := (KB.out _ S2.out.bl).1.cell 8
    have c13 : (W1.alloc (.cells #[.pointer none, .slice none 0 0] 68)).cell? ⟨w.heap.size, 13, none⟩ = some (.int .i64 2) := (KB.out _ S2.out.bl).1.cell 13
    have hm := HL.out.method
    have hp := HL.out.path
    have hq := HL.out.query
    have CW1 := Lib.hid (write_at W1 _ [] [r.method, [32], r.path] #[.string (bs r.method), .string ⟨#[32]⟩, .string (bs r.path)] 3 3 (w.heap.size + 1 + 1) S2.out rfl rfl (by simp [HW.out.2]) (by omega) (by simp; omega))
    rw [HW.out.2] at CW1
    have HW1 := HW.out.1
    clear hs hk3 hk hk4 hm hp
    by_cases hqe : r.query = []
    · obtain ⟨m1, m2⟩ := emp_bs hqe
      have hqh : headE r = r.method ++ ([32] ++ r.path) := by unfold headE; rw [if_pos hqe]; simp
      have HQ := Lib.hid hqh
      clear hqh hqe
      go_enter Tryz.func76, Tryz.ntmps76
      go_wp2_with fail
      (with_reducible refine (CW1.out).mono ?_); rintro e w3 ⟨rfl, s3⟩
      have s3 : St 68 W1 (headE r) w3 := by rw [HQ.out]; simpa using s3
      have c9 : w3.cell? ⟨w.heap.size, 9, none⟩ = some (.string (bs r.query)) := (KB.out _ s3.bl).1.cell 9
      clear c7 c8 c13 CW1 S2
      have S3 := Lib.hid s3
      clear s3
      have CS := Lib.hid (readB W1.heap.size W1.heap.size (headE r) w3 S3.out.1 (by unfold headE; simp))
      rw [HW.out.2] at CS
      go_wp2_with fail
      (with_reducible refine (CS.out).mono ?_); rintro e w4 ⟨rfl, g4, p4, v4, k4⟩
      have CP := Lib.hid (pPlain (headE r) w4 (by omega))
      have G4 := Lib.hid (And.intro g4 k4)
      clear g4 k4 CS
      go_wp2_with fail
      (with_reducible refine (CP.out).mono ?_); rintro e w5 ⟨rfl, g5⟩
      have k5 := G4.out.2.below g5 G4.out.2.lt
      have CR := Lib.hid (pReset (w.heap.size + 1) (w.heap.size + 1) p4 v4 w5 k5 (Nat.le_refl _))
      have hle4 := G4.out.1.size
      have hS3z := S3.out.2.size
      have G5 := Lib.hid (S3.out.2.trans ((G4.out.1.trans (g5.mono (by rw [HW.out.2] at hS3z; omega))).mono (by rw [HW.out.2]; exact Nat.le_refl _)))
      clear g5 k5 CP G4 hle4 hS3z
      go_wp2_with fail
      (with_reducible refine (CR.out).mono ?_); rintro e w6 ⟨rfl, i6, g6⟩
      have s6 : St 68 W1 [] w6 := ⟨by rw [HW.out.2]; exact i6, G5.out.trans (by rw [HW.out.2]; exact g6)⟩
      have S6 := Lib.hid s6
      have CW3 := Lib.hid (write_at W1 w6 [] [plainT (headE r), [10]] #[.string (bs (plainT (headE r))), .string ⟨#[10]⟩] 2 2 _ S6.out rfl rfl rfl (by omega) (by have := (plainT_len (headE r)).2; simp; omega))
      rw [HW.out.2] at CW3
      clear i6 g6 s6 CR G5 S3
      go_wp2_with fail
      (with_reducible refine (CW3.out).mono ?_); rintro e w7 ⟨rfl, s7⟩
      have s7' : St 68 W1 (preE f r 0) w7 := by rw [preE_zero]; simpa using s7
      have S7 := Lib.hid s7'
      have c4 : w7.cell? ⟨w.heap.size, 4, none⟩ = some (.slice N n cn) := (KB.out _ S7.out.bl).1.cell 4
      clear s7 s7' CW3 S6
      go_wp2_with fail
      go_loopw [57] (fun i wr => ∃ k : Nat, i = .int .i64 k ∧ k ≤ n ∧ Hid (St 68 W1 (preE f r k) wr)) (fun i _ => n - (intOf i).toNat)
      case atStart => exact ⟨0, rfl, by omega, S7⟩
      case round =>
        obtain ⟨k, rfl, hkn, hS⟩ := hrel
        rename World => wr
        clear c4 S7
        by_cases hlt : k < n
        · have hkN : k < f.names.length := by rw [HNL.out.1]; exact hlt
          have hkV : k < f.vals.length := by rw [HNL.out.2.1]; exact hlt
          have hln := preE_len HL.out (k + 1)
          have hsu := preE_succ f r k (by rw [HNL.out.1]; exact hlt) (by rw [HNL.out.2.1]; exact hlt)
          obtain ⟨bN, oN, rfl, hbN, cN⟩ := HNV.out.1.text k (by rw [HNL.out.1]; exact hlt)
          obtain ⟨bV, oV, rfl, hbV, cV⟩ := HNV.out.2.text k (by rw [HNL.out.2.1]; exact hlt)
          have hx3 := HL.out.name f.names[k] (List.getElem_mem _)
          have hy3 := HL.out.val f.vals[k] (List.getElem_mem _)
          obtain ⟨x, hx⟩ : ∃ x, f.names[k]'(by rw [HNL.out.1]; exact hlt) = x := ⟨_, rfl⟩
          obtain ⟨y, hy⟩ : ∃ y, f.vals[k]'(by rw [HNL.out.2.1]; exact hlt) = y := ⟨_, rfl⟩
          rw [hx] at cN hx3 hsu
          rw [hy] at cV hy3 hsu
          have cNr : wr.cell? ⟨bN, oN + k, none⟩ = some (.string (bs x)) := ((KB.out _ hS.out.2).2.cell (p := ⟨bN, oN + k, none⟩) hbN).trans cN
          have kc : ∀ X, Below W1.heap.size W1 X → X.cell? ⟨w.heap.size, 5, none⟩ = some (.slice (some ⟨bV, oV, none⟩) n cv) ∧ X.cell? ⟨bV, oV + k, none⟩ = some (.string (bs y)) := fun X hX => ⟨(KB.out X hX).1.cell 5, ((KB.out X hX).2.cell (p := ⟨bV, oV + k, none⟩) hbV).trans cV⟩
          obtain ⟨c5, cVr⟩ := kc wr hS.out.2
          have kP : ∀ z : List UInt8, z.length ≤ 300 → ∀ X, Hid (Below wr.heap.size wr X) → Calls Tryz.prog 41 #[.string (bs z)] X fun e w' => e = .returned (.string (bs (plainT z))) ∧ Hid (Below wr.heap.size wr w') ∧ w'.cell? ⟨w.heap.size, 5, none⟩ = some (.slice (some ⟨bV, oV, none⟩) n cv) ∧ w'.cell? ⟨bV, oV + k, none⟩ = some (.string (bs y)) := fun z hz X hX =>
            (pPlain z X (by omega)).mono fun e w' ⟨he, g⟩ => ⟨he, hide (hX.out.trans (g.mono hX.out.size)), kc _ (hS.out.2.trans ((hX.out.trans (g.mono hX.out.size)).mono hS.out.2.size))⟩
          have kW : ∀ X, Hid (Below wr.heap.size wr X) → Calls Tryz.prog 68 #[.pointer (some ⟨w.heap.size + 1, 0, none⟩), .slice (some ⟨X.heap.size, 0, none⟩) 4 4] (X.alloc (.cells #[.string (bs (plainT x)), .string ⟨#[61]⟩, .string (bs (plainT y)), .string ⟨#[10]⟩] 9)) fun e w' => e = .returned (.tuple #[]) ∧ Hid (St 68 W1 (preE f r (k + 1)) w') ∧ w'.cell? ⟨w.heap.size, 5, none⟩ = some (.slice (some ⟨bV, oV, none⟩) n cv) ∧ w'.cell? ⟨bV, oV + k, none⟩ = some (.string (bs y)) := fun X hX => by
            have cw := write_at W1 X (preE f r k) [plainT x, [61], plainT y, [10]] #[.string (bs (plainT x)), .string ⟨#[61]⟩, .string (bs (plainT y)), .string ⟨#[10]⟩] 4 4 _ (hS.out.on hX.out) rfl rfl rfl (by omega) (by rw [hsu, List.length_append] at hln; omega)
            rw [HW.out.2, ← hsu] at cw
            exact cw.mono fun e w' ⟨he, s⟩ => ⟨he, hide s, kc _ s.2⟩
          have KX := Lib.hid (kP x hx3)
          have KY := Lib.hid (kP y hy3)
          have KW := Lib.hid kW
          have hd0 : Hid (Below wr.heap.size wr wr.drew) := hide (Below.refl _ _).drew
          have hwz : w.heap.size < wr.heap.size := by have := hS.out.2.size; have := HW.out.2; omega
          have hbz : bV < wr.heap.size := by omega
          have i0 : (0 : Int) ≤ (k : Int) := by omega
          have i1 : (k : Int) < (n : Int) := by omega
          have LZ := Lib.hid (And.intro hwz hbz)
          clear hkN hkV kP kW kc hsu hln cN cV hx3 hy3 hx hy hbN hbV hwz hbz
          go_wp2_with fail
          go_region_held3 (fun w' => w'.cell? ⟨w.heap.size, 5, none⟩ = some (.slice (some ⟨bV, oV, none⟩) n cv) ∧ w'.cell? ⟨bV, oV + k, none⟩ = some (.string (bs y))) (go_keep) (first
            | (go_at_call 41; (with_reducible refine (KX.out _ hd0).mono ?_); rintro e v1 ⟨rfl, h1, p1, q1⟩)
            | (go_at_call 41; (with_reducible refine (KY.out _ h1).mono ?_); rintro e v2 ⟨rfl, h2, p2, q2⟩; have m1 : ¬ (v2.heap.size = w.heap.size) := (by have := LZ.out.1; have := h2.out.size; omega); have m2 : ¬ (w.heap.size = v2.heap.size) := (fun e => m1 e.symm); have m3 : ¬ (v2.heap.size = bV) := (by have := LZ.out.2; have := h2.out.size; omega); have m4 : ¬ (bV = v2.heap.size) := (fun e => m3 e.symm))
            | (go_at_call 68; (with_reducible refine (KW.out _ h2).mono ?_); rintro e v3 ⟨rfl, h3, p3, q3⟩))
          go_wp2_with fail
          go_roundw
          case rel => exact ⟨k + 1, by go_num, by omega, h3⟩
          case measure => simp [intOf]; omega
        · obtain rfl : k = n := by omega
          have CF := Lib.hid (readB W1.heap.size W1.heap.size (preE f r k) wr hS.out.1 (by unfold preE; simp))
          rw [HW.out.2] at CF
          go_wp2_with fail
          (with_reducible refine (CF.out).mono ?_); rintro e w9 ⟨rfl, g9, _⟩
          go_wp2_with fail
          go_ret
          rw [← HNL.out.1, preE_all f r HNL.out.2.2]
          exact ⟨rfl, (KB.out _ hS.out.2).2.trans (g9.mono (by omega))⟩
    · obtain ⟨m1, m2⟩ := nemp_bs hqe
      have hqh : headE r = (r.method ++ ([32] ++ r.path)) ++ ([63] ++ r.query) := by unfold headE; rw [if_neg hqe]; simp
      have HQ := Lib.hid hqh
      clear hqh hqe
      go_enter Tryz.func76, Tryz.ntmps76
      go_wp2_with fail
      (with_reducible refine (CW1.out).mono ?_); rintro e w2 ⟨rfl, s2⟩
      have c9 : w2.cell? ⟨w.heap.size, 9, none⟩ = some (.string (bs r.query)) := (KB.out _ s2.bl).1.cell 9
      have CW2 := Lib.hid (write_at W1 w2 _ [[63], r.query] #[.string ⟨#[63]⟩, .string (bs r.query)] 2 2 _ s2 rfl rfl rfl (by omega) (by have := HL.out.method; have := HL.out.path; simp; omega))
      rw [HW.out.2] at CW2
      clear s2 c7 c8 c13 CW1 S2
      go_wp2_with fail
      (with_reducible refine (CW2.out).mono ?_); rintro e w3 ⟨rfl, s3⟩
      have s3 : St 68 W1 (headE r) w3 := by rw [HQ.out]; simpa using s3
      clear c9 CW2
      have S3 := Lib.hid s3
      clear s3
      have CS := Lib.hid (readB W1.heap.size W1.heap.size (headE r) w3 S3.out.1 (by unfold headE; simp))
      rw [HW.out.2] at CS
      go_wp2_with fail
      (with_reducible refine (CS.out).mono ?_); rintro e w4 ⟨rfl, g4, p4, v4, k4⟩
      have CP := Lib.hid (pPlain (headE r) w4 (by omega))
      have G4 := Lib.hid (And.intro g4 k4)
      clear g4 k4 CS
      go_wp2_with fail
      (with_reducible refine (CP.out).mono ?_); rintro e w5 ⟨rfl, g5⟩
      have k5 := G4.out.2.below g5 G4.out.2.lt
      have CR := Lib.hid (pReset (w.heap.size + 1) (w.heap.size + 1) p4 v4 w5 k5 (Nat.le_refl _))
      have hle4 := G4.out.1.size
      have hS3z := S3.out.2.size
      have G5 := Lib.hid (S3.out.2.trans ((G4.out.1.trans (g5.mono (by rw [HW.out.2] at hS3z; omega))).mono (by rw [HW.out.2]; exact Nat.le_refl _)))
      clear g5 k5 CP G4 hle4 hS3z
      go_wp2_with fail
      (with_reducible refine (CR.out).mono ?_); rintro e w6 ⟨rfl, i6, g6⟩
      have s6 : St 68 W1 [] w6 := ⟨by rw [HW.out.2]; exact i6, G5.out.trans (by rw [HW.out.2]; exact g6)⟩
      have S6 := Lib.hid s6
      have CW3 := Lib.hid (write_at W1 w6 [] [plainT (headE r), [10]] #[.string (bs (plainT (headE r))), .string ⟨#[10]⟩] 2 2 _ S6.out rfl rfl rfl (by omega) (by have := (plainT_len (headE r)).2; simp; omega))
      rw [HW.out.2] at CW3
      clear i6 g6 s6 CR G5 S3
      go_wp2_with fail
      (with_reducible refine (CW3.out).mono ?_); rintro e w7 ⟨rfl, s7⟩
      have s7' : St 68 W1 (preE f r 0) w7 := by rw [preE_zero]; simpa using s7
      have S7 := Lib.hid s7'
      have c4 : w7.cell? ⟨w.heap.size, 4, none⟩ = some (.slice N n cn) := (KB.out _ S7.out.bl).1.cell 4
      clear s7 s7' CW3 S6
      go_wp2_with fail
      go_loopw [57] (fun i wr => ∃ k : Nat, i = .int .i64 k ∧ k ≤ n ∧ Hid (St 68 W1 (preE f r k) wr)) (fun i _ => n - (intOf i).toNat)
      case atStart => exact ⟨0, rfl, by omega, S7⟩
      case round =>
        obtain ⟨k, rfl, hkn, hS⟩ := hrel
        rename World => wr
        clear c4 S7
        by_cases hlt : k < n
        · have hkN : k < f.names.length := by rw [HNL.out.1]; exact hlt
          have hkV : k < f.vals.length := by rw [HNL.out.2.1]; exact hlt
          have hln := preE_len HL.out (k + 1)
          have hsu := preE_succ f r k (by rw [HNL.out.1]; exact hlt) (by rw [HNL.out.2.1]; exact hlt)
          obtain ⟨bN, oN, rfl, hbN, cN⟩ := HNV.out.1.text k (by rw [HNL.out.1]; exact hlt)
          obtain ⟨bV, oV, rfl, hbV, cV⟩ := HNV.out.2.text k (by rw [HNL.out.2.1]; exact hlt)
          have hx3 := HL.out.name f.names[k] (List.getElem_mem _)
          have hy3 := HL.out.val f.vals[k] (List.getElem_mem _)
          obtain ⟨x, hx⟩ : ∃ x, f.names[k]'(by rw [HNL.out.1]; exact hlt) = x := ⟨_, rfl⟩
          obtain ⟨y, hy⟩ : ∃ y, f.vals[k]'(by rw [HNL.out.2.1]; exact hlt) = y := ⟨_, rfl⟩
          rw [hx] at cN hx3 hsu
          rw [hy] at cV hy3 hsu
          have cNr : wr.cell? ⟨bN, oN + k, none⟩ = some (.string (bs x)) := ((KB.out _ hS.out.2).2.cell (p := ⟨bN, oN + k, none⟩) hbN).trans cN
          have kc : ∀ X, Below W1.heap.size W1 X → X.cell? ⟨w.heap.size, 5, none⟩ = some (.slice (some ⟨bV, oV, none⟩) n cv) ∧ X.cell? ⟨bV, oV + k, none⟩ = some (.string (bs y)) := fun X hX => ⟨(KB.out X hX).1.cell 5, ((KB.out X hX).2.cell (p := ⟨bV, oV + k, none⟩) hbV).trans cV⟩
          obtain ⟨c5, cVr⟩ := kc wr hS.out.2
          have kP : ∀ z : List UInt8, z.length ≤ 300 → ∀ X, Hid (Below wr.heap.size wr X) → Calls Tryz.prog 41 #[.string (bs z)] X fun e w' => e = .returned (.string (bs (plainT z))) ∧ Hid (Below wr.heap.size wr w') ∧ w'.cell? ⟨w.heap.size, 5, none⟩ = some (.slice (some ⟨bV, oV, none⟩) n cv) ∧ w'.cell? ⟨bV, oV + k, none⟩ = some (.string (bs y)) := fun z hz X hX =>
            (pPlain z X (by omega)).mono fun e w' ⟨he, g⟩ => ⟨he, hide (hX.out.trans (g.mono hX.out.size)), kc _ (hS.out.2.trans ((hX.out.trans (g.mono hX.out.size)).mono hS.out.2.size))⟩
          have kW : ∀ X, Hid (Below wr.heap.size wr X) → Calls Tryz.prog 68 #[.pointer (some ⟨w.heap.size + 1, 0, none⟩), .slice (some ⟨X.heap.size, 0, none⟩) 4 4] (X.alloc (.cells #[.string (bs (plainT x)), .string ⟨#[61]⟩, .string (bs (plainT y)), .string ⟨#[10]⟩] 9)) fun e w' => e = .returned (.tuple #[]) ∧ Hid (St 68 W1 (preE f r (k + 1)) w') ∧ w'.cell? ⟨w.heap.size, 5, none⟩ = some (.slice (some ⟨bV, oV, none⟩) n cv) ∧ w'.cell? ⟨bV, oV + k, none⟩ = some (.string (bs y)) := fun X hX => by
            have cw := write_at W1 X (preE f r k) [plainT x, [61], plainT y, [10]] #[.string (bs (plainT x)), .string ⟨#[61]⟩, .string (bs (plainT y)), .string ⟨#[10]⟩] 4 4 _ (hS.out.on hX.out) rfl rfl rfl (by omega) (by rw [hsu, List.length_append] at hln; omega)
            rw [HW.out.2, ← hsu] at cw
            exact cw.mono fun e w' ⟨he, s⟩ => ⟨he, hide s, kc _ s.2⟩
          have KX := Lib.hid (kP x hx3)
          have KY := Lib.hid (kP y hy3)
          have KW := Lib.hid kW
          have hd0 : Hid (Below wr.heap.size wr wr.drew) := hide (Below.refl _ _).drew
          have hwz : w.heap.size < wr.heap.size := by have := hS.out.2.size; have := HW.out.2; omega
          have hbz : bV < wr.heap.size := by omega
          have i0 : (0 : Int) ≤ (k : Int) := by omega
          have i1 : (k : Int) < (n : Int) := by omega
          have LZ := Lib.hid (And.intro hwz hbz)
          clear hkN hkV kP kW kc hsu hln cN cV hx3 hy3 hx hy hbN hbV hwz hbz
          go_wp2_with fail
          go_region_held3 (fun w' => w'.cell? ⟨w.heap.size, 5, none⟩ = some (.slice (some ⟨bV, oV, none⟩) n cv) ∧ w'.cell? ⟨bV, oV + k, none⟩ = some (.string (bs y))) (go_keep) (first
            | (go_at_call 41; (with_reducible refine (KX.out _ hd0).mono ?_); rintro e v1 ⟨rfl, h1, p1, q1⟩)
            | (go_at_call 41; (with_reducible refine (KY.out _ h1).mono ?_); rintro e v2 ⟨rfl, h2, p2, q2⟩; have m1 : ¬ (v2.heap.size = w.heap.size) := (by have := LZ.out.1; have := h2.out.size; omega); have m2 : ¬ (w.heap.size = v2.heap.size) := (fun e => m1 e.symm); have m3 : ¬ (v2.heap.size = bV) := (by have := LZ.out.2; have := h2.out.size; omega); have m4 : ¬ (bV = v2.heap.size) := (fun e => m3 e.symm))
            | (go_at_call 68; (with_reducible refine (KW.out _ h2).mono ?_); rintro e v3 ⟨rfl, h3, p3, q3⟩))
          go_wp2_with fail
          go_roundw
          case rel => exact ⟨k + 1, by go_num, by omega, h3⟩
          case measure => simp [intOf]; omega
        · obtain rfl : k = n := by omega
          have CF := Lib.hid (readB W1.heap.size W1.heap.size (preE f r k) wr hS.out.1 (by unfold preE; simp))
          rw [HW.out.2] at CF
          go_wp2_with fail
          (with_reducible refine (CF.out).mono ?_); rintro e w9 ⟨rfl, g9, _⟩
          go_wp2_with fail
          go_ret
          rw [← HNL.out.1, preE_all f r HNL.out.2.2]
          exact ⟨rfl, (KB.out _ hS.out.2).2.trans (g9.mono (by omega))⟩
  · have hs : saysT f r = fileT f := by unfold saysT; rw [if_neg (by omega), if_neg (by omega), if_pos hk3]
    rw [hs, hk3]
    rw [hk3] at KB HW
    have c3 : (W1.alloc (.cells #[.pointer none, .slice none 0 0] 68)).cell? ⟨w.heap.size, 3, none⟩ = some (.string (bs f.text)) := (KB.out _ S2.out.bl).1.cell 3
    have c6 : (W1.alloc (.cells #[.pointer none, .slice none 0 0] 68)).cell? ⟨w.heap.size, 6, none⟩ = some (.string (bs f.rest)) := (KB.out _ S2.out.bl).1.cell 6
    have c13 : (W1.alloc (.cells #[.pointer none, .slice none 0 0] 68)).cell? ⟨w.heap.size, 13, none⟩ = some (.int .i64 3) := (KB.out _ S2.out.bl).1.cell 13
    have ht := HL.out.text
    have hr := HL.out.rest
    have hpl : (pathF f).length ≤ 601 := by unfold pathF; split <;> simp <;> omega
    have z1 := bs_size f.text
    have z2 := bs_size f.rest
    have HW1 := HW.out.1
    have CP := Lib.hid (pPlain (pathF f) (W1.alloc (.cells #[.pointer none, .slice none 0 0] 68)) (by omega))
    have fin : ∀ w3, Below (W1.alloc (.cells #[.pointer none, .slice none 0 0] 68)).heap.size (W1.alloc (.cells #[.pointer none, .slice none 0 0] 68)) w3 → Calls Tryz.prog 68 #[.pointer (some ⟨w.heap.size + 1, 0, none⟩), .slice (some ⟨w3.heap.size, 0, none⟩) 3 3] (w3.alloc (.cells #[.string ⟨#[102, 105, 108, 101, 32]⟩, .string (bs (plainT (pathF f))), .string ⟨#[10]⟩] 9)) fun e w' => e = .returned (.tuple #[]) ∧ Hid (St 68 W1 (fileT f) w') := fun w3 h3 => by
      have cw := write_at W1 w3 [] [[102, 105, 108, 101, 32], plainT (pathF f), [10]] #[.string ⟨#[102, 105, 108, 101, 32]⟩, .string (bs (plainT (pathF f))), .string ⟨#[10]⟩] 3 3 _ (S2.out.on h3) rfl rfl rfl (by omega) (by have := (plainT_len (pathF f)).2; simp; omega)
      rw [HW.out.2] at cw
      have e : ([] : List UInt8) ++ [[102, 105, 108, 101, 32], plainT (pathF f), [10]].flatten = fileT f := by simp [fileT]
      rw [e] at cw
      exact cw.mono fun e w' ⟨he, s⟩ => ⟨he, hide s⟩
    have FIN := Lib.hid fin
    have sz1 : ¬ 9223372036854775807 < f.text.length + f.rest.length := by omega
    have sz2 : ¬ 9223372036854775806 < f.rest.length := by omega
    have sz3 : ¬ 9223372036854775807 < 1 + f.rest.length := by omega
    have sz4 : ¬ 9223372036854775807 < f.text.length + (1 + f.rest.length) := by omega
    clear fin hs hk3 hk hk4
    by_cases ht47 : f.text = [47]
    · have e1 := lit_t ht47
      have hpe : bs (pathF f) = bs f.text ++ bs f.rest := by rw [bs_app]; unfold pathF; rw [if_pos (.inl ht47)]
      rw [hpe] at CP
      clear ht47 hpe
      by_cases hre : f.rest = []
      · obtain ⟨m1, m2⟩ := emp_bs hre
        clear hre
        go_enter Tryz.func76, Tryz.ntmps76
        go_wp2_with fail
        (with_reducible refine (CP.out).mono ?_); rintro e w3 ⟨rfl, g3⟩
        have CW := Lib.hid (FIN.out w3 g3)
        clear g3 CP FIN c3 c6 c13
        go_wp2_with fail
        (with_reducible refine (CW.out).mono ?_); rintro e w4 ⟨rfl, s4⟩
        have CF := Lib.hid (readB W1.heap.size W1.heap.size (fileT f) w4 s4.out.1 (by unfold fileT; simp))
        rw [HW.out.2] at CF
        clear CW
        go_wp2_with fail
        (with_reducible refine (CF.out).mono ?_); rintro e w5 ⟨rfl, g5, _⟩
        go_wp2_with fail
        go_ret
        exact ⟨rfl, (KB.out _ s4.out.2).2.trans (g5.mono (by omega))⟩
      · obtain ⟨m1, m2⟩ := nemp_bs hre
        clear hre
        go_enter Tryz.func76, Tryz.ntmps76
        go_wp2_with fail
        (with_reducible refine (CP.out).mono ?_); rintro e w3 ⟨rfl, g3⟩
        have CW := Lib.hid (FIN.out w3 g3)
        clear g3 CP FIN c3 c6 c13
        go_wp2_with fail
        (with_reducible refine (CW.out).mono ?_); rintro e w4 ⟨rfl, s4⟩
        have CF := Lib.hid (readB W1.heap.size W1.heap.size (fileT f) w4 s4.out.1 (by unfold fileT; simp))
        rw [HW.out.2] at CF
        clear CW
        go_wp2_with fail
        (with_reducible refine (CF.out).mono ?_); rintro e w5 ⟨rfl, g5, _⟩
        go_wp2_with fail
        go_ret
        exact ⟨rfl, (KB.out _ s4.out.2).2.trans (g5.mono (by omega))⟩
    · have e1 := lit_f ht47
      by_cases hre : f.rest = []
      · obtain ⟨m1, m2⟩ := emp_bs hre
        have hpe : bs (pathF f) = bs f.text ++ bs f.rest := by rw [bs_app]; unfold pathF; rw [if_pos (.inr hre)]
        rw [hpe] at CP
        clear ht47 hpe hre
        go_enter Tryz.func76, Tryz.ntmps76
        go_wp2_with fail
        (with_reducible refine (CP.out).mono ?_); rintro e w3 ⟨rfl, g3⟩
        have CW := Lib.hid (FIN.out w3 g3)
        clear g3 CP FIN c3 c6 c13
        go_wp2_with fail
        (with_reducible refine (CW.out).mono ?_); rintro e w4 ⟨rfl, s4⟩
        have CF := Lib.hid (readB W1.heap.size W1.heap.size (fileT f) w4 s4.out.1 (by unfold fileT; simp))
        rw [HW.out.2] at CF
        clear CW
        go_wp2_with fail
        (with_reducible refine (CF.out).mono ?_); rintro e w5 ⟨rfl, g5, _⟩
        go_wp2_with fail
        go_ret
        exact ⟨rfl, (KB.out _ s4.out.2).2.trans (g5.mono (by omega))⟩
      · obtain ⟨m1, m2⟩ := nemp_bs hre
        have hpe : bs (pathF f) = bs f.text ++ (⟨#[47]⟩ ++ bs f.rest) := by rw [show (⟨#[47]⟩ : ByteArray) = bs [47] from rfl, bs_app, bs_app]; unfold pathF; rw [if_neg (by rintro (h | h); exact ht47 h; exact hre h)]; rfl
        rw [hpe] at CP
        clear ht47 hpe hre
        go_enter Tryz.func76, Tryz.ntmps76
        go_wp2_with fail
        (with_reducible refine (CP.out).mono ?_); rintro e w3 ⟨rfl, g3⟩
        have CW := Lib.hid (FIN.out w3 g3)
        clear g3 CP FIN c3 c6 c13
        go_wp2_with fail
        (with_reducible refine (CW.out).mono ?_); rintro e w4 ⟨rfl, s4⟩
        have CF := Lib.hid (readB W1.heap.size W1.heap.size (fileT f) w4 s4.out.1 (by unfold fileT; simp))
        rw [HW.out.2] at CF
        clear CW
        go_wp2_with fail
        (with_reducible refine (CF.out).mono ?_); rintro e w5 ⟨rfl, g5, _⟩
        go_wp2_with fail
        go_ret
        exact ⟨rfl, (KB.out _ s4.out.2).2.trans (g5.mono (by omega))⟩
  · have hs : saysT f r = r.body := by unfold saysT; rw [if_neg (by omega), if_neg (by omega), if_neg (by omega)]
    rw [hs, hk3]
    rw [hk3] at KB HW
    clear hs hk3 hk hk4
    go_enter Tryz.func76, Tryz.ntmps76
    go_wp2_with fail
    go_ret
    rw [HW.out.1]
    exact ⟨rfl, (KB.out _ S2.out.bl).2⟩
end Go.Proofs.YthhlnpfcpgfcfaaGreatDoor
