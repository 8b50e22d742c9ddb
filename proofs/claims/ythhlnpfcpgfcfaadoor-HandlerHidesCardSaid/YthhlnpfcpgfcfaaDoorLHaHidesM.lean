/-
  What the walk of HandlerKnown asks beside Tab42, out of what a row lays: the tables of white space and of UTF-8. The contract of waypostkit.Mod. The statements on handlers in plain words: what was found and outcomes made of numbers, and the answers to them. The statements on handlers: the outcome made of a number. The statements on handlers: what was found and a request, made of a number and a request. waypostlaw42.HandlerHides: true, whatever the numbers and the request.
-/
import Derived.Test.YthhlnpfcpgfcfaaDoorHaOp
import Derived.Test.YthhlnpfcpgfcfaaDoorHa15
import Derived.Test.YthhlnpfcpgfcfaaDoorProg
import Derived.Test.YthhlnpfcpgfcfaaDoorBase
import Derived.Test.YthhlnpfcpgfcfaaDoorBq
import Derived.Outline
import Derived.Lib.MinMax
import Derived.Deep.RegionHeld3
import Derived.Deep.Cut
import Derived.Deep.DeepCutAuto
namespace Go.Proofs.YthhlnpfcpgfcfaaDoor

section
open Go.RowKit Go.Lib

theorem spaces_of {W : World} {laid : List (String × DataW Unit)} (h : laidMet Tryd.prog laid W)
    (h3 : ("strings.asciiSpace", Rows.laid_strings_asciiSpace) ∈ laid) (h4 : ("unicode/utf8.first", Rows.laid_unicode_utf8_first) ∈ laid) (h5 : ("unicode/utf8.acceptRanges", Rows.laid_unicode_utf8_acceptRanges) ∈ laid) (h6 : ("unicode.White_Space", Rows.laid_unicode_White_Space) ∈ laid) : Spaces W :=
  ⟨tabIs_of_reads gAsc gAscType Tryd.underlying134 Tryd.underlying5 cells_u8 cells_a256 (by rw [ascData]; exact Lib.laidMet.reads h h3),
    utf8Tabs_of_reads { Tryd.lays163 with } u8X (by rw [firstDataR]; exact Lib.laidMet.reads h h4) (by rw [acceptDataR]; exact Lib.laidMet.reads h h5),
    whiteTab_of_reads { Tryd.lays163 with } whiteX (by rw [whiteDataR]; exact Lib.laidMet.reads h h6)⟩
end

section
open Go.RowKit

/-- what Mod returns lies from 0 to m - 1 -/
def ModPost (m : Int) (w : World) (e : Ending) (w' : World) : Prop := ∃ r : Int, 0 ≤ r ∧ r < m ∧ e = .returned (.int .i64 r) ∧ w = w'
theorem Mod_any (n m : Int) (w : World) (hn1 : -9223372036854775808 ≤ n) (hn2 : n ≤ 9223372036854775807) (hm : 1 ≤ m) (hm2 : m ≤ 1099511627776) :
    Calls Tryd.prog 53 #[.int .i64 n, .int .i64 m] w (ModPost m w) := by
  have d1 : decide (m < 1) = false := by simp; omega
  have u1 := Int.tmod_lt_of_pos n (show 0 < m by omega)
  have u2 := Int.lt_tmod_of_pos n (show 0 < m by omega)
  by_cases hp : 0 ≤ n
  · have hr := Int.emod_nonneg n (show m ≠ 0 by omega)
    have hr2 := Int.emod_lt_of_pos n (show 0 < m by omega)
    have d2 : decide (n % m < 0) = false := by simp; omega
    clear u1 u2
    go_enter Tryd.func53, Tryd.ntmps53
    go_wp2_with fail
    go_ret
    exact ⟨n % m, hr, hr2, rfl, rfl⟩
  · have hneg : n < 0 := by omega
    by_cases h0 : n.tmod m < 0
    · have d2 : decide (n.tmod m < 0) = true := by simpa using h0
      go_enter Tryd.func53, Tryd.ntmps53
      go_wp2_with fail
      go_ret
      exact ⟨n.tmod m + m, by omega, by omega, rfl, rfl⟩
    · have d2 : decide (n.tmod m < 0) = false := by simpa using h0
      go_enter Tryd.func53, Tryd.ntmps53
      go_wp2_with fail
      go_ret
      exact ⟨n.tmod m, by omega, by omega, rfl, rfl⟩
end

section
open Go.RowKit

def srvT : List UInt8 := [47, 115, 114, 118]
def getM : List UInt8 := [71, 69, 84]
def headM : List UInt8 := [72, 69, 65, 68]
def postM : List UInt8 := [80, 79, 83, 84]
def putM : List UInt8 := [80, 85, 84]
def hsecT : List UInt8 := [104, 116, 116, 112, 58, 47, 47, 104, 47, 115, 101, 99, 114, 101, 116]
def madeF (b : Bool) (kd : Int) : FoundP := if b then ⟨true, [], kd, srvT, [[120]], [[97, 13, 10, 98]], [99, 47, 100]⟩ else f00
def fourM (m : List UInt8) : Prop := m = getM ∨ m = headM ∨ m = postM ∨ m = putM
theorem check_made (b : Bool) (kd : Int) (h1 : 1 ≤ kd) (h2 : kd ≤ 4) : checkF (madeF b kd) = 0 := by
  cases b with
  | false => show checkF f00 = 0; decide
  | true =>
    have : kd = 1 ∨ kd = 2 ∨ kd = 3 ∨ kd = 4 := by omega
    rcases this with rfl | rfl | rfl | rfl <;> decide +kernel
theorem check_f00 : checkF f00 = 0 := by decide
def hidC (k : Int) : Int := if k = 3 then 403 else if k = 4 then 410 else 500
def hidR (m : List UInt8) (k c : Int) (loc : List UInt8) (close : Bool) : Rsp :=
  if k = 2 then ⟨c, [(locN, loc), textF], [], close, m == [72, 69, 65, 68]⟩ else ⟨hidC k, [textF], (pageT (hidC k)).1, close, m == [72, 69, 65, 68]⟩
theorem code_hid {m : List UInt8} {k c : Int} {f : FoundP} (hk : 2 ≤ k) (hk2 : k ≤ 5) (h2 : k = 2 → movedC c = true) (hf : checkF f = 0) : codeT m k c f = (if k = 2 then c else hidC k, 0) := by
  unfold codeT
  rw [if_neg (by omega), if_neg (fun e => by rw [h2 e.1] at e; exact absurd e.2 (by decide)), if_neg (by omega)]
  have : k = 2 ∨ k = 3 ∨ k = 4 ∨ k = 5 := by omega
  rcases this with rfl | rfl | rfl | rfl <;> rfl
theorem ans_hid {k c : Int} {loc : List UInt8} {f : FoundP} (r : ReqP) (close : Bool) (hk : 2 ≤ k) (hk2 : k ≤ 5) (h2 : k = 2 → movedC c = true ∧ mayR (locN, loc) = 0) (hf : checkF f = 0) : answerT r k c loc f close = (hidR r.method k c loc close, 0) := by
  have hc := code_hid (m := r.method) hk hk2 (fun e => (h2 e).1) hf
  unfold answerT hidR
  rw [hc, if_neg (by simp)]
  by_cases h : k = 2
  · subst h
    rw [if_pos rfl, if_neg (by simp [(h2 rfl).2]), if_pos rfl]
  · rw [if_neg h, if_neg h, if_neg h]
    rw [if_neg (by unfold hidC; split <;> (try split) <;> decide)]
theorem hid_code {m : List UInt8} {k c : Int} {loc : List UInt8} {close : Bool} (h2 : k = 2 → movedC c = true) : (hidR m k c loc close).code ≠ 200 := by
  unfold hidR
  split
  · rename_i h
    exact moved_not (h2 h)
  · show hidC k ≠ 200
    unfold hidC; split <;> (try split) <;> decide
/-- the answer to what was served -/
def oneR (f : FoundP) (r : ReqP) (close : Bool) : Rsp :=
  if f.ok = false then ⟨404, [textF], (pageT 404).1, close, r.method == [72, 69, 65, 68]⟩ else if knownM r.method = false then ⟨405, [textF], (pageT 405).1, close, r.method == [72, 69, 65, 68]⟩ else ⟨200, [textF], saysT f r, close, r.method == [72, 69, 65, 68]⟩
theorem ans_one {c : Int} {loc : List UInt8} {f : FoundP} (r : ReqP) (close : Bool) (hf : checkF f = 0) (hs : (saysT f r).length ≤ 4096) : answerT r 1 c loc f close = (oneR f r close, 0) := by
  have hc : codeT r.method 1 c f = (if f.ok = false then 404 else if knownM r.method = false then 405 else 200, 0) := by
    unfold codeT
    rw [if_neg (by decide), if_neg (by simp), if_neg (by omega), if_neg (by decide), if_neg (by decide), if_neg (by decide), if_neg (by decide)]
    split
    · rfl
    · split <;> rfl
  unfold answerT oneR
  rw [hc, if_neg (by simp), if_neg (by decide)]
  by_cases h : f.ok = false
  · rw [if_pos h, if_neg (by simp), if_pos h]
  · rw [if_neg h]
    by_cases hm : knownM r.method = false
    · rw [if_pos hm, if_neg (by simp), if_neg h, if_pos hm]
    · have hb : bodyT f r = (saysT f r, 0) := by unfold bodyT; rw [if_neg (by omega), if_neg h, if_neg (by omega)]
      rw [if_neg hm, if_pos rfl, if_neg (by rw [hb]; simp), if_neg h, if_neg hm, hb]
/-- what is said is short -/
theorem says_made {b : Bool} {kd : Int} {r : ReqP} (hb : b = true) (h1 : 1 ≤ kd) (h2 : kd ≤ 4) (hm : r.method.length ≤ 4) (hp : r.path.length ≤ 41) (hq : r.query.length ≤ 40) (hbo : r.body.length ≤ 60) : (saysT (madeF b kd) r).length ≤ 4096 := by
  subst hb
  have : kd = 1 ∨ kd = 2 ∨ kd = 3 ∨ kd = 4 := by omega
  have hh : (headE r).length ≤ 90 := by
    unfold headE
    split <;> simp <;> omega
  have h3 := (plainT_len (headE r)).2
  rcases this with rfl | rfl | rfl | rfl
  · show srvT.length ≤ 4096; decide
  · show (plainT (headE r) ++ [10] ++ linesE [[120]] [[97, 13, 10, 98]]).length ≤ 4096
    have : (linesE [[120]] [[97, 13, 10, 98]]).length ≤ 20 := by decide +kernel
    simp only [List.length_append, List.length_cons, List.length_nil]
    omega
  · show (fileT (madeF true 3)).length ≤ 4096; decide +kernel
  · show r.body.length ≤ 4096; omega
theorem light_made {b : Bool} {kd : Int} {r : ReqP} (hm : r.method.length ≤ 4) (hp : r.path.length ≤ 41) (hq : r.query.length ≤ 40) (hbo : r.body.length ≤ 60) : LightF (madeF b kd) r := by
  cases b with
  | false => exact ⟨by simp [madeF, f00], by simp [madeF, f00], by simp [madeF, f00], by simp [madeF, f00], by simp [madeF, f00], by omega, by omega, by omega, by omega, fun x hx => by simp [madeF, f00] at hx, fun x hx => by simp [madeF, f00] at hx⟩
  | true => exact ⟨by simp [madeF], by simp [madeF], by simp [madeF], by show srvT.length ≤ 300; decide, by simp [madeF], by omega, by omega, by omega, by omega, fun x hx => by simp [madeF] at hx; subst hx; simp, fun x hx => by simp [madeF] at hx; subst hx; simp⟩
theorem four_len {m : List UInt8} (h : fourM m) : m.length ≤ 4 := by rcases h with rfl | rfl | rfl | rfl <;> decide
theorem hsec_may : mayR (locN, hsecT) = 0 := by kernel_rfl
theorem textF_may : mayR textF = 0 := by kernel_rfl
end

section
open Go.RowKit

theorem ld6O {W : World} {g : Nat} {cs : Array Value} (h : Blk W g 64 cs) (hc : cs.size = 6) : (loadVar 64 ⟨g, 0, none⟩).run Tryd.prog W = .ok (.agg cs) W :=
  run_loadVar_row W g 64 64 cs (0, 0) _ h Tryd.underlying64 rfl (by rw [hc]; kernel_rfl)
theorem ld6R {W : World} {g : Nat} {cs : Array Value} (h : Blk W g 50 cs) (hc : cs.size = 6) : (loadVar 50 ⟨g, 0, none⟩).run Tryd.prog W = .ok (.agg cs) W :=
  run_loadVar_row W g 50 50 cs (0, 0) _ h Tryd.underlying50 rfl (by rw [hc]; kernel_rfl)
theorem blk6 {w : World} {g : Nat} {t : TypeId} {a0 a1 a2 a3 a4 a5 : Value} (h : Blk w g t #[a0, a1, a2, a3, a4, a5]) (b0 b1 b2 b3 b4 b5 : Value) :
    Blk ((((((w.setCell ⟨g, 0, none⟩ b0).setCell ⟨g, 1, none⟩ b1).setCell ⟨g, 2, none⟩ b2).setCell ⟨g, 3, none⟩ b3).setCell ⟨g, 4, none⟩ b4).setCell ⟨g, 5, none⟩ b5) g t #[b0, b1, b2, b3, b4, b5] := by
  have := (((((h.set_ 0 b0).set_ 1 b1).set_ 2 b2).set_ 3 b3).set_ 4 b4).set_ 5 b5
  simpa using this
theorem bel6 {B g : Nat} {W X : World} (h : Below B W X) (hg : B ≤ g) (b0 b1 b2 b3 b4 b5 : Value) : Below B W ((((((X.setCell ⟨g, 0, none⟩ b0).setCell ⟨g, 1, none⟩ b1).setCell ⟨g, 2, none⟩ b2).setCell ⟨g, 3, none⟩ b3).setCell ⟨g, 4, none⟩ b4).setCell ⟨g, 5, none⟩ b5) :=
  (((((h.setCell (p := ⟨g, 0, none⟩) hg b0).setCell (p := ⟨g, 1, none⟩) hg b1).setCell (p := ⟨g, 2, none⟩) hg b2).setCell (p := ⟨g, 3, none⟩) hg b3).setCell (p := ⟨g, 4, none⟩) hg b4).setCell (p := ⟨g, 5, none⟩) hg b5
def secT : ByteArray := ⟨#[47, 115, 101, 99, 114, 101, 116]⟩
def OutPost (w : World) (e : Ending) (w' : World) : Prop :=
  ∃ kd c why : Int, 1 ≤ kd ∧ kd ≤ 5 ∧ (kd = 2 → movedC c = true) ∧ e = .returned (.agg #[.int .i64 kd, .string secT, .string ⟨#[]⟩, .int .i64 c, .string (bs (if kd = 2 then hsecT else [])), .int .i64 why]) ∧ Below w.heap.size w w'
theorem five_codes (b : Nat) (h : b < 5) : ∃ c : Int, movedC c = true ∧ (#[.int .i64 301, .int .i64 302, .int .i64 303, .int .i64 307, .int .i64 308] : Array Value)[b]? = some (.int .i64 c) := by
  have : b = 0 ∨ b = 1 ∨ b = 2 ∨ b = 3 ∨ b = 4 := by omega
  rcases this with rfl | rfl | rfl | rfl | rfl
  · exact ⟨301, rfl, rfl⟩
  · exact ⟨302, rfl, rfl⟩
  · exact ⟨303, rfl, rfl⟩
  · exact ⟨307, rfl, rfl⟩
  · exact ⟨308, rfl, rfl⟩
set_option maxRecDepth 100000 in
set_option maxHeartbeats 4000000 in
theorem pOutcome (n : Int) (w : World) (h1 : -9223372036854775808 ≤ n) (h2 : n ≤ 9223372036854775807) :
    Calls Tryd.prog 26 #[.int .i64 n] w (OutPost w) := by
  have cM := fun X => Mod_any n 1048576 X h1 h2 (by omega) (by omega)
  have CM := Lib.hid cM
  clear cM
  go_enter Tryd.func26, Tryd.ntmps26
  go_wp2_with fail
  (with_reducible refine (CM.out _).mono ?_); rintro e w1 ⟨r, hr0, hr1, rfl, rfl⟩
  obtain ⟨K, rfl⟩ : ∃ K : Nat, r = K := ⟨r.toNat, by omega⟩
  have t5 : ((K : Int)).tmod 5 = ((K % 5 : Nat) : Int) := (Int.ofNat_tmod K 5).symm
  have d5 : ((K : Int)).tdiv 5 = ((K / 5 : Nat) : Int) := (Int.ofNat_tdiv K 5).symm
  have t55 : (((K / 5 : Nat) : Int)).tmod 5 = ((K / 5 % 5 : Nat) : Int) := (Int.ofNat_tmod (K / 5) 5).symm
  obtain ⟨a, ha⟩ : ∃ a, K % 5 = a := ⟨_, rfl⟩
  obtain ⟨b, hb⟩ : ∃ b, K / 5 % 5 = b := ⟨_, rfl⟩
  obtain ⟨d, hd⟩ : ∃ d, K / 5 = d := ⟨_, rfl⟩
  have ha5 : a < 5 := by omega
  have hb5 : b < 5 := by omega
  rw [ha] at t5
  rw [hb] at t55
  rw [hd] at t55 d5
  have hdK : d ≤ K := by rw [← hd]; exact Nat.div_le_self _ _
  clear ha hb hd
  have hcase : a = 0 ∨ a = 1 ∨ a = 2 ∨ a = 3 ∨ a = 4 := by omega
  obtain ⟨c, hc, hcb⟩ := five_codes b hb5
  have hwd : IntKind.i64.wrap (d : Int) = (d : Int) := by
    rw [IntKind.wrap_i64]; omega
  clear hdK hc hcb c hr0 hr1 ha5
  have hcb : b = 0 ∨ b = 1 ∨ b = 2 ∨ b = 3 ∨ b = 4 := by omega
  rcases hcase with rfl | rfl | rfl | rfl | rfl
  · go_wp2_with fail
    refine bodyPost_ret (results_cellH (p := 2) (ty := 64) (by kernel_rfl) _ _ w.heap.size _ rfl (ld6O ((Blk.new w _ _).alloc _) rfl)) rfl ?_
    exact ⟨1, 0, 0, by omega, by omega, by omega, by first | rfl | kernel_rfl, ((Below.refl _ _).alloc (Nat.le_refl _) _).alloc (by simp) _⟩
  · rcases hcb with rfl | rfl | rfl | rfl | rfl
    all_goals (
      go_wp2_with fail
      refine bodyPost_ret (results_cellH (p := 2) (ty := 64) (by kernel_rfl) _ _ w.heap.size _ rfl (ld6O (((Blk.new w _ _).alloc _).alloc _) rfl)) rfl ?_
      refine ⟨2, _, 0, by omega, by omega, ?_, by first | rfl | kernel_rfl, (((Below.refl _ _).alloc (Nat.le_refl _) _).alloc (by simp) _).alloc (by simp; omega) _⟩
      exact fun _ => rfl)
  · go_wp2_with fail
    refine bodyPost_ret (results_cellH (p := 2) (ty := 64) (by kernel_rfl) _ _ w.heap.size _ rfl (ld6O ((Blk.new w _ _).alloc _) rfl)) rfl ?_
    exact ⟨3, 0, 0, by omega, by omega, by omega, by first | rfl | kernel_rfl, ((Below.refl _ _).alloc (Nat.le_refl _) _).alloc (by simp) _⟩
  · go_wp2_with fail
    refine bodyPost_ret (results_cellH (p := 2) (ty := 64) (by kernel_rfl) _ _ w.heap.size _ rfl (ld6O ((Blk.new w _ _).alloc _) rfl)) rfl ?_
    exact ⟨4, 0, 0, by omega, by omega, by omega, by first | rfl | kernel_rfl, ((Below.refl _ _).alloc (Nat.le_refl _) _).alloc (by simp) _⟩
  · go_wp2_with fail
    refine bodyPost_ret (results_cellH (p := 2) (ty := 64) (by kernel_rfl) _ _ w.heap.size _ rfl (ld6O ((Blk.new w _ _).alloc _) rfl)) rfl ?_
    exact ⟨5, 0, 12, by omega, by omega, by omega, by first | rfl | kernel_rfl, ((Below.refl _ _).alloc (Nat.le_refl _) _).alloc (by simp) _⟩
end

section
open Go.RowKit

theorem results_cell_cell {fn : Func} {p q : Tmp} {ty ty2 : TypeId} {P : Program} (h : fn.results = #[.cell p ty, .cell q ty2]) (tmps : Array Value) (w : World) (g g2 : Nat) (x y : Value)
    (hp : tmps.getD p undef = .pointer (some ⟨g, 0, none⟩)) (hl : (loadVar ty ⟨g, 0, none⟩).run P w = .ok x w) (hq : tmps.getD q undef = .pointer (some ⟨g2, 0, none⟩)) (hl2 : (loadVar ty2 ⟨g2, 0, none⟩).run P w = .ok y w) : (results fn tmps).run P w = .ok (.tuple #[x, y]) w := by
  have hp' : tmps[p]?.getD undef = .pointer (some ⟨g, 0, none⟩) := by simpa using hp
  have hq' : tmps[q]?.getD undef = .pointer (some ⟨g2, 0, none⟩) := by simpa using hq
  simp [results, h, hp', hq', asAddr, hl, hl2]
theorem four_meth (m : Nat) (h : m < 4) : ∃ M, fourM M ∧ (#[.string ⟨#[71, 69, 84]⟩, .string ⟨#[72, 69, 65, 68]⟩, .string ⟨#[80, 79, 83, 84]⟩, .string ⟨#[80, 85, 84]⟩] : Array Value)[m]? = some (.string (bs M)) := by
  have : m = 0 ∨ m = 1 ∨ m = 2 ∨ m = 3 := by omega
  rcases this with rfl | rfl | rfl | rfl
  · exact ⟨getM, .inl rfl, rfl⟩
  · exact ⟨headM, .inr (.inl rfl), rfl⟩
  · exact ⟨postM, .inr (.inr (.inl rfl)), rfl⟩
  · exact ⟨putM, .inr (.inr (.inr rfl)), rfl⟩
def set6 (W : World) (g : Nat) (b0 b1 b2 b3 b4 b5 : Value) : World := (((((W.setCell ⟨g, 0, none⟩ b0).setCell ⟨g, 1, none⟩ b1).setCell ⟨g, 2, none⟩ b2).setCell ⟨g, 3, none⟩ b3).setCell ⟨g, 4, none⟩ b4).setCell ⟨g, 5, none⟩ b5
def set7 (W : World) (g : Nat) (b0 b1 b2 b3 b4 b5 b6 : Value) : World := ((((((W.setCell ⟨g, 0, none⟩ b0).setCell ⟨g, 1, none⟩ b1).setCell ⟨g, 2, none⟩ b2).setCell ⟨g, 3, none⟩ b3).setCell ⟨g, 4, none⟩ b4).setCell ⟨g, 5, none⟩ b5).setCell ⟨g, 6, none⟩ b6
theorem blk7 {w : World} {g : Nat} {t : TypeId} {a0 a1 a2 a3 a4 a5 a6 : Value} (h : Blk w g t #[a0, a1, a2, a3, a4, a5, a6]) (b0 b1 b2 b3 b4 b5 b6 : Value) : Blk (set7 w g b0 b1 b2 b3 b4 b5 b6) g t #[b0, b1, b2, b3, b4, b5, b6] := by
  have := ((((((h.set_ 0 b0).set_ 1 b1).set_ 2 b2).set_ 3 b3).set_ 4 b4).set_ 5 b5).set_ 6 b6
  simpa [set7] using this
theorem far6 {w : World} {g k : Nat} {t : TypeId} {cs : Array Value} (h : Blk w k t cs) (hn : k ≠ g) (b0 b1 b2 b3 b4 b5 : Value) : Blk (set6 w g b0 b1 b2 b3 b4 b5) k t cs :=
  (((((h.far (p := ⟨g, 0, none⟩) hn b0).far (p := ⟨g, 1, none⟩) hn b1).far (p := ⟨g, 2, none⟩) hn b2).far (p := ⟨g, 3, none⟩) hn b3).far (p := ⟨g, 4, none⟩) hn b4).far (p := ⟨g, 5, none⟩) hn b5
theorem far7 {w : World} {g k : Nat} {t : TypeId} {cs : Array Value} (h : Blk w k t cs) (hn : k ≠ g) (b0 b1 b2 b3 b4 b5 b6 : Value) : Blk (set7 w g b0 b1 b2 b3 b4 b5 b6) k t cs :=
  ((((((h.far (p := ⟨g, 0, none⟩) hn b0).far (p := ⟨g, 1, none⟩) hn b1).far (p := ⟨g, 2, none⟩) hn b2).far (p := ⟨g, 3, none⟩) hn b3).far (p := ⟨g, 4, none⟩) hn b4).far (p := ⟨g, 5, none⟩) hn b5).far (p := ⟨g, 6, none⟩) hn b6
theorem bel7 {B g : Nat} {W X : World} (h : Below B W X) (hg : B ≤ g) (b0 b1 b2 b3 b4 b5 b6 : Value) : Below B W (set7 X g b0 b1 b2 b3 b4 b5 b6) :=
  ((((((h.setCell (p := ⟨g, 0, none⟩) hg b0).setCell (p := ⟨g, 1, none⟩) hg b1).setCell (p := ⟨g, 2, none⟩) hg b2).setCell (p := ⟨g, 3, none⟩) hg b3).setCell (p := ⟨g, 4, none⟩) hg b4).setCell (p := ⟨g, 5, none⟩) hg b5).setCell (p := ⟨g, 6, none⟩) hg b6
theorem bel6' {B g : Nat} {W X : World} (h : Below B W X) (hg : B ≤ g) (b0 b1 b2 b3 b4 b5 : Value) : Below B W (set6 X g b0 b1 b2 b3 b4 b5) := bel6 h hg b0 b1 b2 b3 b4 b5
/-- both results written, in either order -/
theorem fin67 {W V : World} {g k B : Nat} {t u : TypeId} {a0 a1 a2 a3 a4 a5 a6 c0 c1 c2 c3 c4 c5 : Value} (h : Blk W g t #[a0, a1, a2, a3, a4, a5, a6]) (h2 : Blk W k u #[c0, c1, c2, c3, c4, c5]) (hne : g ≠ k) (hB : Below B V W) (hg : B ≤ g) (hk : B ≤ k) (b0 b1 b2 b3 b4 b5 b6 d0 d1 d2 d3 d4 d5 : Value) :
    (Blk (set6 (set7 W g b0 b1 b2 b3 b4 b5 b6) k d0 d1 d2 d3 d4 d5) g t #[b0, b1, b2, b3, b4, b5, b6] ∧ Blk (set6 (set7 W g b0 b1 b2 b3 b4 b5 b6) k d0 d1 d2 d3 d4 d5) k u #[d0, d1, d2, d3, d4, d5] ∧ Below B V (set6 (set7 W g b0 b1 b2 b3 b4 b5 b6) k d0 d1 d2 d3 d4 d5)) ∧
    (Blk (set7 (set6 W k d0 d1 d2 d3 d4 d5) g b0 b1 b2 b3 b4 b5 b6) g t #[b0, b1, b2, b3, b4, b5, b6] ∧ Blk (set7 (set6 W k d0 d1 d2 d3 d4 d5) g b0 b1 b2 b3 b4 b5 b6) k u #[d0, d1, d2, d3, d4, d5] ∧ Below B V (set7 (set6 W k d0 d1 d2 d3 d4 d5) g b0 b1 b2 b3 b4 b5 b6)) :=
  ⟨⟨far6 (blk7 h b0 b1 b2 b3 b4 b5 b6) hne d0 d1 d2 d3 d4 d5, blk6 (far7 h2 hne.symm b0 b1 b2 b3 b4 b5 b6) d0 d1 d2 d3 d4 d5, bel6' (bel7 hB hg b0 b1 b2 b3 b4 b5 b6) hk d0 d1 d2 d3 d4 d5⟩,
   ⟨blk7 (far6 h hne d0 d1 d2 d3 d4 d5) b0 b1 b2 b3 b4 b5 b6, far7 (blk6 h2 d0 d1 d2 d3 d4 d5) hne.symm b0 b1 b2 b3 b4 b5 b6, bel7 (bel6' hB hk d0 d1 d2 d3 d4 d5) hg b0 b1 b2 b3 b4 b5 b6⟩⟩
theorem far1 {w : World} {B size n g i : Nat} {A : Option Addr} {xs : List Value} (h : Reads w B size A n xs) (hne : ∀ a, A = some a → a.block ≠ g) (u : Value) : Reads (w.setCell ⟨g, i, none⟩ u) B size A n xs :=
  ⟨h.1, fun hn => by
    obtain ⟨ad, e, hb, hc⟩ := h.2 hn
    refine ⟨ad, e, hb, fun j v hv => (World.cell?_setCell_other w ⟨g, i, none⟩ _ u (fun e2 => hne ad e ?_)).trans (hc j v hv)⟩
    have := congrArg Addr.block e2
    rw [block_of_add] at this
    exact this.symm⟩
theorem reads7 {w : World} {B n g : Nat} {A : Option Addr} {xs : List Value} (h : Reads w B 1 A n xs) (hg : ∀ a, A = some a → a.block ≠ g) (b0 b1 b2 b3 b4 b5 b6 : Value) : Reads (set7 w g b0 b1 b2 b3 b4 b5 b6) B 1 A n xs := by
  have h0 := far1 (i := 0) h hg b0
  have h1 := far1 (i := 1) h0 hg b1
  have h2 := far1 (i := 2) h1 hg b2
  have h3 := far1 (i := 3) h2 hg b3
  have h4 := far1 (i := 4) h3 hg b4
  have h5 := far1 (i := 5) h4 hg b5
  exact far1 (i := 6) h5 hg b6
theorem reads6 {w : World} {B n g : Nat} {A : Option Addr} {xs : List Value} (h : Reads w B 1 A n xs) (hg : ∀ a, A = some a → a.block ≠ g) (b0 b1 b2 b3 b4 b5 : Value) : Reads (set6 w g b0 b1 b2 b3 b4 b5) B 1 A n xs := by
  have h0 := far1 (i := 0) h hg b0
  have h1 := far1 (i := 1) h0 hg b1
  have h2 := far1 (i := 2) h1 hg b2
  have h3 := far1 (i := 3) h2 hg b3
  have h4 := far1 (i := 4) h3 hg b4
  exact far1 (i := 5) h4 hg b5
theorem reads67 {W : World} {A : Option Addr} {n : Nat} {xs : List Value} (h : Reads W W.heap.size 1 A n xs) {g k : Nat} (hg : ∀ a, A = some a → a.block ≠ g) (hk : ∀ a, A = some a → a.block ≠ k) (b0 b1 b2 b3 b4 b5 b6 d0 d1 d2 d3 d4 d5 : Value) :
    Reads (set6 (set7 W g b0 b1 b2 b3 b4 b5 b6) k d0 d1 d2 d3 d4 d5).drew (set6 (set7 W g b0 b1 b2 b3 b4 b5 b6) k d0 d1 d2 d3 d4 d5).drew.heap.size 1 A n xs := by
  have s : W.heap.size ≤ (set6 (set7 W g b0 b1 b2 b3 b4 b5 b6) k d0 d1 d2 d3 d4 d5).heap.size := (bel6' (bel7 (Below.refl 0 W) (Nat.zero_le g) b0 b1 b2 b3 b4 b5 b6) (Nat.zero_le k) d0 d1 d2 d3 d4 d5).size
  have r := reads6 (reads7 h hg b0 b1 b2 b3 b4 b5 b6) hk d0 d1 d2 d3 d4 d5
  generalize set6 (set7 W g b0 b1 b2 b3 b4 b5 b6) k d0 d1 d2 d3 d4 d5 = E at s r ⊢
  exact (r.more s).drew
def MadePost (w : World) (e : Ending) (w' : World) : Prop :=
  ∃ (b : Bool) (kd : Int) (m p q bo : List UInt8) (N V : Option Addr) (cn cv : Nat), 1 ≤ kd ∧ kd ≤ 4 ∧ fourM m ∧ p.length ≤ 40 ∧ q.length ≤ 40 ∧ bo.length ≤ 60 ∧
    e = .returned (.tuple #[fndV (madeF b kd) none N V 0 cn cv, reqV ⟨m, 47 :: p, q, bo⟩ ⟨#[]⟩ none 0 0]) ∧
    Reads w' w'.heap.size 1 N (madeF b kd).names.length (strs (madeF b kd).names) ∧ Reads w' w'.heap.size 1 V (madeF b kd).vals.length (strs (madeF b kd).vals) ∧ Below w.heap.size w w'
theorem cutL (l : List UInt8) (n : Nat) : (bs l).extract 0 n = bs (l.take n) := by
  apply ba_ext
  rw [ByteArray.data_extract, bs_list]
  simp [bs]
def MadeCut (w : World) (RQ : Array Value) (wx : World) : Prop :=
  ∃ (b : Bool) (kd : Int) (N V : Option Addr) (cn cv : Nat), 1 ≤ kd ∧ kd ≤ 4 ∧ Blk wx w.heap.size 50 RQ ∧ Blk wx (w.heap.size + 1) 55 #[.bool false, .slice none 0 0, .int .i64 0, .string ⟨#[]⟩, .slice none 0 0, .slice none 0 0, .string ⟨#[]⟩] ∧ Blk wx (w.heap.size + 1 + 1) 50 #[.string ⟨#[]⟩, .string ⟨#[]⟩, .string ⟨#[]⟩, .string ⟨#[]⟩, .slice none 0 0, .string ⟨#[]⟩] ∧
    Blk wx (w.heap.size + 1 + 1 + 1) 55 (fndC (madeF b kd) none N V 0 cn cv) ∧ Reads wx wx.heap.size 1 N (madeF b kd).names.length (strs (madeF b kd).names) ∧ Reads wx wx.heap.size 1 V (madeF b kd).vals.length (strs (madeF b kd).vals) ∧ (∀ a, N = some a → w.heap.size + 1 + 1 + 1 < a.block) ∧ (∀ a, V = some a → w.heap.size + 1 + 1 + 1 < a.block) ∧ Below w.heap.size w wx
set_option maxRecDepth 100000 in
set_option maxHeartbeats 8000000 in
theorem pMade (n : Int) (r : ReqP) (host : ByteArray) (FA : Option Addr) (fn fc : Nat) (w : World) (h1 : -9223372036854775808 ≤ n) (h2 : n ≤ 9223372036854775807) (hp : r.path.length ≤ 9223372036854775807) (hq : r.query.length ≤ 9223372036854775807) (hb : r.body.length ≤ 9223372036854775807) :
    Calls Tryd.prog 25 #[.int .i64 n, reqV r host FA fn fc] w (MadePost w) := by
  have cM := fun X => Mod_any n 1048576 X h1 h2 (by omega) (by omega)
  have CM := Lib.hid cM
  clear cM
  obtain ⟨meth, path, query, body⟩ := r
  unfold reqV
  simp only at *
  have zp := bs_size path
  have zq := bs_size query
  have zb := bs_size body
  go_enter Tryd.func25, Tryd.ntmps25
  go_wp2_with fail
  (with_reducible refine (CM.out _).mono ?_); rintro e w1 ⟨R, hr0, hr1, rfl, rfl⟩
  obtain ⟨K, rfl⟩ : ∃ K : Nat, R = K := ⟨R.toNat, by omega⟩
  have t6 : ((K : Int)).tmod 6 = ((K % 6 : Nat) : Int) := (Int.ofNat_tmod K 6).symm
  have d6 : ((K : Int)).tdiv 6 = ((K / 6 : Nat) : Int) := (Int.ofNat_tdiv K 6).symm
  have d24 : ((K : Int)).tdiv 24 = ((K / 24 : Nat) : Int) := (Int.ofNat_tdiv K 24).symm
  have t64 : (((K / 6 : Nat) : Int)).tmod 4 = ((K / 6 % 4 : Nat) : Int) := (Int.ofNat_tmod (K / 6) 4).symm
  have t244 : (((K / 24 : Nat) : Int)).tmod 4 = ((K / 24 % 4 : Nat) : Int) := (Int.ofNat_tmod (K / 24) 4).symm
  have hd6K : K / 6 ≤ K := Nat.div_le_self _ _
  have hd24K : K / 24 ≤ K := Nat.div_le_self _ _
  obtain ⟨a, ha⟩ : ∃ a, K % 6 = a := ⟨_, rfl⟩
  obtain ⟨c, hc⟩ : ∃ c, K / 6 % 4 = c := ⟨_, rfl⟩
  obtain ⟨m, hm⟩ : ∃ m, K / 24 % 4 = m := ⟨_, rfl⟩
  have hc4 : c < 4 := by omega
  have hm4 : m < 4 := by omega
  rw [ha] at t6
  rw [hc] at t64
  rw [hm] at t244
  obtain ⟨e6, he6⟩ : ∃ e6, K / 6 = e6 := ⟨_, rfl⟩
  obtain ⟨e24, he24⟩ : ∃ e24, K / 24 = e24 := ⟨_, rfl⟩
  rw [he6] at t64 d6 hd6K
  rw [he24] at t244 d24 hd24K
  have w6 : IntKind.i64.wrap (e6 : Int) = (e6 : Int) := by rw [IntKind.wrap_i64]; omega
  have w24 : IntKind.i64.wrap (e24 : Int) = (e24 : Int) := by rw [IntKind.wrap_i64]; omega
  have wc : IntKind.i64.wrap (1 + (c : Int)) = 1 + (c : Int) := by rw [IntKind.wrap_i64]; omega
  clear ha hc hm he6 he24 hd6K hd24K hr0 hr1
  go_upto_if 16 with (fail)
  go_cut [7] (fun v wx => v = .pointer (some ⟨w.heap.size + 1 + 1 + 1, 0, none⟩) ∧ Hid (MadeCut w #[.string (bs meth), .string (bs path), .string (bs query), .string host, .slice FA fn fc, .string (bs body)] wx))
  case first =>
    by_cases ha0 : a = 0
    · subst ha0
      have bW : Below w.heap.size w ((((w.alloc (.cells #[.string (bs meth), .string (bs path), .string (bs query), .string host, .slice FA fn fc, .string (bs body)] 50)).alloc (.cells #[.bool false, .slice none 0 0, .int .i64 0, .string ⟨#[]⟩, .slice none 0 0, .slice none 0 0, .string ⟨#[]⟩] 55)).alloc (.cells #[.string ⟨#[]⟩, .string ⟨#[]⟩, .string ⟨#[]⟩, .string ⟨#[]⟩, .slice none 0 0, .string ⟨#[]⟩] 50)).alloc (.cells #[.bool false, .slice none 0 0, .int .i64 0, .string ⟨#[]⟩, .slice none 0 0, .slice none 0 0, .string ⟨#[]⟩] 55)) := ((((Below.refl _ _).alloc (Nat.le_refl _) _).alloc (by simp <;> omega) _).alloc (by simp <;> omega) _).alloc (by simp <;> omega) _
      have k0 : Blk ((((w.alloc (.cells #[.string (bs meth), .string (bs path), .string (bs query), .string host, .slice FA fn fc, .string (bs body)] 50)).alloc (.cells #[.bool false, .slice none 0 0, .int .i64 0, .string ⟨#[]⟩, .slice none 0 0, .slice none 0 0, .string ⟨#[]⟩] 55)).alloc (.cells #[.string ⟨#[]⟩, .string ⟨#[]⟩, .string ⟨#[]⟩, .string ⟨#[]⟩, .slice none 0 0, .string ⟨#[]⟩] 50)).alloc (.cells #[.bool false, .slice none 0 0, .int .i64 0, .string ⟨#[]⟩, .slice none 0 0, .slice none 0 0, .string ⟨#[]⟩] 55)) (w.heap.size) 50 #[.string (bs meth), .string (bs path), .string (bs query), .string host, .slice FA fn fc, .string (bs body)] := by
        have := (((Blk.new w 50 #[.string (bs meth), .string (bs path), .string (bs query), .string host, .slice FA fn fc, .string (bs body)]).alloc (.cells #[.bool false, .slice none 0 0, .int .i64 0, .string ⟨#[]⟩, .slice none 0 0, .slice none 0 0, .string ⟨#[]⟩] 55)).alloc (.cells #[.string ⟨#[]⟩, .string ⟨#[]⟩, .string ⟨#[]⟩, .string ⟨#[]⟩, .slice none 0 0, .string ⟨#[]⟩] 50)).alloc (.cells #[.bool false, .slice none 0 0, .int .i64 0, .string ⟨#[]⟩, .slice none 0 0, .slice none 0 0, .string ⟨#[]⟩] 55)
        exact this
      have k1 : Blk ((((w.alloc (.cells #[.string (bs meth), .string (bs path), .string (bs query), .string host, .slice FA fn fc, .string (bs body)] 50)).alloc (.cells #[.bool false, .slice none 0 0, .int .i64 0, .string ⟨#[]⟩, .slice none 0 0, .slice none 0 0, .string ⟨#[]⟩] 55)).alloc (.cells #[.string ⟨#[]⟩, .string ⟨#[]⟩, .string ⟨#[]⟩, .string ⟨#[]⟩, .slice none 0 0, .string ⟨#[]⟩] 50)).alloc (.cells #[.bool false, .slice none 0 0, .int .i64 0, .string ⟨#[]⟩, .slice none 0 0, .slice none 0 0, .string ⟨#[]⟩] 55)) (w.heap.size + 1) 55 #[.bool false, .slice none 0 0, .int .i64 0, .string ⟨#[]⟩, .slice none 0 0, .slice none 0 0, .string ⟨#[]⟩] := by
        have := ((Blk.new (w.alloc (.cells #[.string (bs meth), .string (bs path), .string (bs query), .string host, .slice FA fn fc, .string (bs body)] 50)) 55 #[.bool false, .slice none 0 0, .int .i64 0, .string ⟨#[]⟩, .slice none 0 0, .slice none 0 0, .string ⟨#[]⟩]).alloc (.cells #[.string ⟨#[]⟩, .string ⟨#[]⟩, .string ⟨#[]⟩, .string ⟨#[]⟩, .slice none 0 0, .string ⟨#[]⟩] 50)).alloc (.cells #[.bool false, .slice none 0 0, .int .i64 0, .string ⟨#[]⟩, .slice none 0 0, .slice none 0 0, .string ⟨#[]⟩] 55)
        rw [show (w.alloc (.cells #[.string (bs meth), .string (bs path), .string (bs query), .string host, .slice FA fn fc, .string (bs body)] 50)).heap.size = w.heap.size + 1 by simp] at this
        exact this
      have k2 : Blk ((((w.alloc (.cells #[.string (bs meth), .string (bs path), .string (bs query), .string host, .slice FA fn fc, .string (bs body)] 50)).alloc (.cells #[.bool false, .slice none 0 0, .int .i64 0, .string ⟨#[]⟩, .slice none 0 0, .slice none 0 0, .string ⟨#[]⟩] 55)).alloc (.cells #[.string ⟨#[]⟩, .string ⟨#[]⟩, .string ⟨#[]⟩, .string ⟨#[]⟩, .slice none 0 0, .string ⟨#[]⟩] 50)).alloc (.cells #[.bool false, .slice none 0 0, .int .i64 0, .string ⟨#[]⟩, .slice none 0 0, .slice none 0 0, .string ⟨#[]⟩] 55)) (w.heap.size + 1 + 1) 50 #[.string ⟨#[]⟩, .string ⟨#[]⟩, .string ⟨#[]⟩, .string ⟨#[]⟩, .slice none 0 0, .string ⟨#[]⟩] := by
        have := (Blk.new ((w.alloc (.cells #[.string (bs meth), .string (bs path), .string (bs query), .string host, .slice FA fn fc, .string (bs body)] 50)).alloc (.cells #[.bool false, .slice none 0 0, .int .i64 0, .string ⟨#[]⟩, .slice none 0 0, .slice none 0 0, .string ⟨#[]⟩] 55)) 50 #[.string ⟨#[]⟩, .string ⟨#[]⟩, .string ⟨#[]⟩, .string ⟨#[]⟩, .slice none 0 0, .string ⟨#[]⟩]).alloc (.cells #[.bool false, .slice none 0 0, .int .i64 0, .string ⟨#[]⟩, .slice none 0 0, .slice none 0 0, .string ⟨#[]⟩] 55)
        rw [show ((w.alloc (.cells #[.string (bs meth), .string (bs path), .string (bs query), .string host, .slice FA fn fc, .string (bs body)] 50)).alloc (.cells #[.bool false, .slice none 0 0, .int .i64 0, .string ⟨#[]⟩, .slice none 0 0, .slice none 0 0, .string ⟨#[]⟩] 55)).heap.size = w.heap.size + 1 + 1 by simp] at this
        exact this
      have k3 : Blk ((((w.alloc (.cells #[.string (bs meth), .string (bs path), .string (bs query), .string host, .slice FA fn fc, .string (bs body)] 50)).alloc (.cells #[.bool false, .slice none 0 0, .int .i64 0, .string ⟨#[]⟩, .slice none 0 0, .slice none 0 0, .string ⟨#[]⟩] 55)).alloc (.cells #[.string ⟨#[]⟩, .string ⟨#[]⟩, .string ⟨#[]⟩, .string ⟨#[]⟩, .slice none 0 0, .string ⟨#[]⟩] 50)).alloc (.cells #[.bool false, .slice none 0 0, .int .i64 0, .string ⟨#[]⟩, .slice none 0 0, .slice none 0 0, .string ⟨#[]⟩] 55)) (w.heap.size + 1 + 1 + 1) 55 #[.bool false, .slice none 0 0, .int .i64 0, .string ⟨#[]⟩, .slice none 0 0, .slice none 0 0, .string ⟨#[]⟩] := by
        have := Blk.new (((w.alloc (.cells #[.string (bs meth), .string (bs path), .string (bs query), .string host, .slice FA fn fc, .string (bs body)] 50)).alloc (.cells #[.bool false, .slice none 0 0, .int .i64 0, .string ⟨#[]⟩, .slice none 0 0, .slice none 0 0, .string ⟨#[]⟩] 55)).alloc (.cells #[.string ⟨#[]⟩, .string ⟨#[]⟩, .string ⟨#[]⟩, .string ⟨#[]⟩, .slice none 0 0, .string ⟨#[]⟩] 50)) 55 #[.bool false, .slice none 0 0, .int .i64 0, .string ⟨#[]⟩, .slice none 0 0, .slice none 0 0, .string ⟨#[]⟩]
        rw [show (((w.alloc (.cells #[.string (bs meth), .string (bs path), .string (bs query), .string host, .slice FA fn fc, .string (bs body)] 50)).alloc (.cells #[.bool false, .slice none 0 0, .int .i64 0, .string ⟨#[]⟩, .slice none 0 0, .slice none 0 0, .string ⟨#[]⟩] 55)).alloc (.cells #[.string ⟨#[]⟩, .string ⟨#[]⟩, .string ⟨#[]⟩, .string ⟨#[]⟩, .slice none 0 0, .string ⟨#[]⟩] 50)).heap.size = w.heap.size + 1 + 1 + 1 by simp] at this
        exact this
      have HX := Lib.hid (show MadeCut w #[.string (bs meth), .string (bs path), .string (bs query), .string host, .slice FA fn fc, .string (bs body)] ((((w.alloc (.cells #[.string (bs meth), .string (bs path), .string (bs query), .string host, .slice FA fn fc, .string (bs body)] 50)).alloc (.cells #[.bool false, .slice none 0 0, .int .i64 0, .string ⟨#[]⟩, .slice none 0 0, .slice none 0 0, .string ⟨#[]⟩] 55)).alloc (.cells #[.string ⟨#[]⟩, .string ⟨#[]⟩, .string ⟨#[]⟩, .string ⟨#[]⟩, .slice none 0 0, .string ⟨#[]⟩] 50)).alloc (.cells #[.bool false, .slice none 0 0, .int .i64 0, .string ⟨#[]⟩, .slice none 0 0, .slice none 0 0, .string ⟨#[]⟩] 55)) from ⟨false, 1, none, none, 0, 0, by omega, by omega, k0, k1, k2, k3, Reads.none_, Reads.none_, (fun a e => by cases e), (fun a e => by cases e), bW⟩)
      clear bW k0 k1 k2 k3
      go_wp2_with fail
      go_meet
      exact ⟨rfl, HX⟩
    · have ha1 : (0 : Int) < (a : Int) := by omega
      have ha2 : 0 < a := by omega
      have bW : Below w.heap.size w ((((((w.alloc (.cells #[.string (bs meth), .string (bs path), .string (bs query), .string host, .slice FA fn fc, .string (bs body)] 50)).alloc (.cells #[.bool false, .slice none 0 0, .int .i64 0, .string ⟨#[]⟩, .slice none 0 0, .slice none 0 0, .string ⟨#[]⟩] 55)).alloc (.cells #[.string ⟨#[]⟩, .string ⟨#[]⟩, .string ⟨#[]⟩, .string ⟨#[]⟩, .slice none 0 0, .string ⟨#[]⟩] 50)).alloc (.cells #[.bool true, .slice none 0 0, .int .i64 (1 + (c : Int)), .string ⟨#[47, 115, 114, 118]⟩, .slice (some ⟨w.heap.size + 1 + 1 + 1 + 1, 0, none⟩) 1 1, .slice (some ⟨w.heap.size + 1 + 1 + 1 + 1 + 1, 0, none⟩) 1 1, .string ⟨#[99, 47, 100]⟩] 55)).alloc (.cells #[.string ⟨#[120]⟩] 9)).alloc (.cells #[.string ⟨#[97, 13, 10, 98]⟩] 9)) := ((((((Below.refl _ _).alloc (Nat.le_refl _) _).alloc (by simp <;> omega) _).alloc (by simp <;> omega) _).alloc (by simp <;> omega) _).alloc (by simp <;> omega) _).alloc (by simp <;> omega) _
      have k0 : Blk ((((((w.alloc (.cells #[.string (bs meth), .string (bs path), .string (bs query), .string host, .slice FA fn fc, .string (bs body)] 50)).alloc (.cells #[.bool false, .slice none 0 0, .int .i64 0, .string ⟨#[]⟩, .slice none 0 0, .slice none 0 0, .string ⟨#[]⟩] 55)).alloc (.cells #[.string ⟨#[]⟩, .string ⟨#[]⟩, .string ⟨#[]⟩, .string ⟨#[]⟩, .slice none 0 0, .string ⟨#[]⟩] 50)).alloc (.cells #[.bool true, .slice none 0 0, .int .i64 (1 + (c : Int)), .string ⟨#[47, 115, 114, 118]⟩, .slice (some ⟨w.heap.size + 1 + 1 + 1 + 1, 0, none⟩) 1 1, .slice (some ⟨w.heap.size + 1 + 1 + 1 + 1 + 1, 0, none⟩) 1 1, .string ⟨#[99, 47, 100]⟩] 55)).alloc (.cells #[.string ⟨#[120]⟩] 9)).alloc (.cells #[.string ⟨#[97, 13, 10, 98]⟩] 9)) (w.heap.size) 50 #[.string (bs meth), .string (bs path), .string (bs query), .string host, .slice FA fn fc, .string (bs body)] := by
        have := (((((Blk.new w 50 #[.string (bs meth), .string (bs path), .string (bs query), .string host, .slice FA fn fc, .string (bs body)]).alloc (.cells #[.bool false, .slice none 0 0, .int .i64 0, .string ⟨#[]⟩, .slice none 0 0, .slice none 0 0, .string ⟨#[]⟩] 55)).alloc (.cells #[.string ⟨#[]⟩, .string ⟨#[]⟩, .string ⟨#[]⟩, .string ⟨#[]⟩, .slice none 0 0, .string ⟨#[]⟩] 50)).alloc (.cells #[.bool true, .slice none 0 0, .int .i64 (1 + (c : Int)), .string ⟨#[47, 115, 114, 118]⟩, .slice (some ⟨w.heap.size + 1 + 1 + 1 + 1, 0, none⟩) 1 1, .slice (some ⟨w.heap.size + 1 + 1 + 1 + 1 + 1, 0, none⟩) 1 1, .string ⟨#[99, 47, 100]⟩] 55)).alloc (.cells #[.string ⟨#[120]⟩] 9)).alloc (.cells #[.string ⟨#[97, 13, 10, 98]⟩] 9)
        exact this
      have k1 : Blk ((((((w.alloc (.cells #[.string (bs meth), .string (bs path), .string (bs query), .string host, .slice FA fn fc, .string (bs body)] 50)).alloc (.cells #[.bool false, .slice none 0 0, .int .i64 0, .string ⟨#[]⟩, .slice none 0 0, .slice none 0 0, .string ⟨#[]⟩] 55)).alloc (.cells #[.string ⟨#[]⟩, .string ⟨#[]⟩, .string ⟨#[]⟩, .string ⟨#[]⟩, .slice none 0 0, .string ⟨#[]⟩] 50)).alloc (.cells #[.bool true, .slice none 0 0, .int .i64 (1 + (c : Int)), .string ⟨#[47, 115, 114, 118]⟩, .slice (some ⟨w.heap.size + 1 + 1 + 1 + 1, 0, none⟩) 1 1, .slice (some ⟨w.heap.size + 1 + 1 + 1 + 1 + 1, 0, none⟩) 1 1, .string ⟨#[99, 47, 100]⟩] 55)).alloc (.cells #[.string ⟨#[120]⟩] 9)).alloc (.cells #[.string ⟨#[97, 13, 10, 98]⟩] 9)) (w.heap.size + 1) 55 #[.bool false, .slice none 0 0, .int .i64 0, .string ⟨#[]⟩, .slice none 0 0, .slice none 0 0, .string ⟨#[]⟩] := by
        have := ((((Blk.new (w.alloc (.cells #[.string (bs meth), .string (bs path), .string (bs query), .string host, .slice FA fn fc, .string (bs body)] 50)) 55 #[.bool false, .slice none 0 0, .int .i64 0, .string ⟨#[]⟩, .slice none 0 0, .slice none 0 0, .string ⟨#[]⟩]).alloc (.cells #[.string ⟨#[]⟩, .string ⟨#[]⟩, .string ⟨#[]⟩, .string ⟨#[]⟩, .slice none 0 0, .string ⟨#[]⟩] 50)).alloc (.cells #[.bool true, .slice none 0 0, .int .i64 (1 + (c : Int)), .string ⟨#[47, 115, 114, 118]⟩, .slice (some ⟨w.heap.size + 1 + 1 + 1 + 1, 0, none⟩) 1 1, .slice (some ⟨w.heap.size + 1 + 1 + 1 + 1 + 1, 0, none⟩) 1 1, .string ⟨#[99, 47, 100]⟩] 55)).alloc (.cells #[.string ⟨#[120]⟩] 9)).alloc (.cells #[.string ⟨#[97, 13, 10, 98]⟩] 9)
        rw [show (w.alloc (.cells #[.string (bs meth), .string (bs path), .string (bs query), .string host, .slice FA fn fc, .string (bs body)] 50)).heap.size = w.heap.size + 1 by simp] at this
        exact this
      have k2 : Blk ((((((w.alloc (.cells #[.string (bs meth), .string (bs path), .string (bs query), .string host, .slice FA fn fc, .string (bs body)] 50)).alloc (.cells #[.bool false, .slice none 0 0, .int .i64 0, .string ⟨#[]⟩, .slice none 0 0, .slice none 0 0, .string ⟨#[]⟩] 55)).alloc (.cells #[.string ⟨#[]⟩, .string ⟨#[]⟩, .string ⟨#[]⟩, .string ⟨#[]⟩, .slice none 0 0, .string ⟨#[]⟩] 50)).alloc (.cells #[.bool true, .slice none 0 0, .int .i64 (1 + (c : Int)), .string ⟨#[47, 115, 114, 118]⟩, .slice (some ⟨w.heap.size + 1 + 1 + 1 + 1, 0, none⟩) 1 1, .slice (some ⟨w.heap.size + 1 + 1 + 1 + 1 + 1, 0, none⟩) 1 1, .string ⟨#[99, 47, 100]⟩] 55)).alloc (.cells #[.string ⟨#[120]⟩] 9)).alloc (.cells #[.string ⟨#[97, 13, 10, 98]⟩] 9)) (w.heap.size + 1 + 1) 50 #[.string ⟨#[]⟩, .string ⟨#[]⟩, .string ⟨#[]⟩, .string ⟨#[]⟩, .slice none 0 0, .string ⟨#[]⟩] := by
        have := (((Blk.new ((w.alloc (.cells #[.string (bs meth), .string (bs path), .string (bs query), .string host, .slice FA fn fc, .string (bs body)] 50)).alloc (.cells #[.bool false, .slice none 0 0, .int .i64 0, .string ⟨#[]⟩, .slice none 0 0, .slice none 0 0, .string ⟨#[]⟩] 55)) 50 #[.string ⟨#[]⟩, .string ⟨#[]⟩, .string ⟨#[]⟩, .string ⟨#[]⟩, .slice none 0 0, .string ⟨#[]⟩]).alloc (.cells #[.bool true, .slice none 0 0, .int .i64 (1 + (c : Int)), .string ⟨#[47, 115, 114, 118]⟩, .slice (some ⟨w.heap.size + 1 + 1 + 1 + 1, 0, none⟩) 1 1, .slice (some ⟨w.heap.size + 1 + 1 + 1 + 1 + 1, 0, none⟩) 1 1, .string ⟨#[99, 47, 100]⟩] 55)).alloc (.cells #[.string ⟨#[120]⟩] 9)).alloc (.cells #[.string ⟨#[97, 13, 10, 98]⟩] 9)
        rw [show ((w.alloc (.cells #[.string (bs meth), .string (bs path), .string (bs query), .string host, .slice FA fn fc, .string (bs body)] 50)).alloc (.cells #[.bool false, .slice none 0 0, .int .i64 0, .string ⟨#[]⟩, .slice none 0 0, .slice none 0 0, .string ⟨#[]⟩] 55)).heap.size = w.heap.size + 1 + 1 by simp] at this
        exact this
      have k3 : Blk ((((((w.alloc (.cells #[.string (bs meth), .string (bs path), .string (bs query), .string host, .slice FA fn fc, .string (bs body)] 50)).alloc (.cells #[.bool false, .slice none 0 0, .int .i64 0, .string ⟨#[]⟩, .slice none 0 0, .slice none 0 0, .string ⟨#[]⟩] 55)).alloc (.cells #[.string ⟨#[]⟩, .string ⟨#[]⟩, .string ⟨#[]⟩, .string ⟨#[]⟩, .slice none 0 0, .string ⟨#[]⟩] 50)).alloc (.cells #[.bool true, .slice none 0 0, .int .i64 (1 + (c : Int)), .string ⟨#[47, 115, 114, 118]⟩, .slice (some ⟨w.heap.size + 1 + 1 + 1 + 1, 0, none⟩) 1 1, .slice (some ⟨w.heap.size + 1 + 1 + 1 + 1 + 1, 0, none⟩) 1 1, .string ⟨#[99, 47, 100]⟩] 55)).alloc (.cells #[.string ⟨#[120]⟩] 9)).alloc (.cells #[.string ⟨#[97, 13, 10, 98]⟩] 9)) (w.heap.size + 1 + 1 + 1) 55 #[.bool true, .slice none 0 0, .int .i64 (1 + (c : Int)), .string ⟨#[47, 115, 114, 118]⟩, .slice (some ⟨w.heap.size + 1 + 1 + 1 + 1, 0, none⟩) 1 1, .slice (some ⟨w.heap.size + 1 + 1 + 1 + 1 + 1, 0, none⟩) 1 1, .string ⟨#[99, 47, 100]⟩] := by
        have := ((Blk.new (((w.alloc (.cells #[.string (bs meth), .string (bs path), .string (bs query), .string host, .slice FA fn fc, .string (bs body)] 50)).alloc (.cells #[.bool false, .slice none 0 0, .int .i64 0, .string ⟨#[]⟩, .slice none 0 0, .slice none 0 0, .string ⟨#[]⟩] 55)).alloc (.cells #[.string ⟨#[]⟩, .string ⟨#[]⟩, .string ⟨#[]⟩, .string ⟨#[]⟩, .slice none 0 0, .string ⟨#[]⟩] 50)) 55 #[.bool true, .slice none 0 0, .int .i64 (1 + (c : Int)), .string ⟨#[47, 115, 114, 118]⟩, .slice (some ⟨w.heap.size + 1 + 1 + 1 + 1, 0, none⟩) 1 1, .slice (some ⟨w.heap.size + 1 + 1 + 1 + 1 + 1, 0, none⟩) 1 1, .string ⟨#[99, 47, 100]⟩]).alloc (.cells #[.string ⟨#[120]⟩] 9)).alloc (.cells #[.string ⟨#[97, 13, 10, 98]⟩] 9)
        rw [show (((w.alloc (.cells #[.string (bs meth), .string (bs path), .string (bs query), .string host, .slice FA fn fc, .string (bs body)] 50)).alloc (.cells #[.bool false, .slice none 0 0, .int .i64 0, .string ⟨#[]⟩, .slice none 0 0, .slice none 0 0, .string ⟨#[]⟩] 55)).alloc (.cells #[.string ⟨#[]⟩, .string ⟨#[]⟩, .string ⟨#[]⟩, .string ⟨#[]⟩, .slice none 0 0, .string ⟨#[]⟩] 50)).heap.size = w.heap.size + 1 + 1 + 1 by simp] at this
        exact this
      have k4 : Blk ((((((w.alloc (.cells #[.string (bs meth), .string (bs path), .string (bs query), .string host, .slice FA fn fc, .string (bs body)] 50)).alloc (.cells #[.bool false, .slice none 0 0, .int .i64 0, .string ⟨#[]⟩, .slice none 0 0, .slice none 0 0, .string ⟨#[]⟩] 55)).alloc (.cells #[.string ⟨#[]⟩, .string ⟨#[]⟩, .string ⟨#[]⟩, .string ⟨#[]⟩, .slice none 0 0, .string ⟨#[]⟩] 50)).alloc (.cells #[.bool true, .slice none 0 0, .int .i64 (1 + (c : Int)), .string ⟨#[47, 115, 114, 118]⟩, .slice (some ⟨w.heap.size + 1 + 1 + 1 + 1, 0, none⟩) 1 1, .slice (some ⟨w.heap.size + 1 + 1 + 1 + 1 + 1, 0, none⟩) 1 1, .string ⟨#[99, 47, 100]⟩] 55)).alloc (.cells #[.string ⟨#[120]⟩] 9)).alloc (.cells #[.string ⟨#[97, 13, 10, 98]⟩] 9)) (w.heap.size + 1 + 1 + 1 + 1) 9 #[.string ⟨#[120]⟩] := by
        have := (Blk.new ((((w.alloc (.cells #[.string (bs meth), .string (bs path), .string (bs query), .string host, .slice FA fn fc, .string (bs body)] 50)).alloc (.cells #[.bool false, .slice none 0 0, .int .i64 0, .string ⟨#[]⟩, .slice none 0 0, .slice none 0 0, .string ⟨#[]⟩] 55)).alloc (.cells #[.string ⟨#[]⟩, .string ⟨#[]⟩, .string ⟨#[]⟩, .string ⟨#[]⟩, .slice none 0 0, .string ⟨#[]⟩] 50)).alloc (.cells #[.bool true, .slice none 0 0, .int .i64 (1 + (c : Int)), .string ⟨#[47, 115, 114, 118]⟩, .slice (some ⟨w.heap.size + 1 + 1 + 1 + 1, 0, none⟩) 1 1, .slice (some ⟨w.heap.size + 1 + 1 + 1 + 1 + 1, 0, none⟩) 1 1, .string ⟨#[99, 47, 100]⟩] 55)) 9 #[.string ⟨#[120]⟩]).alloc (.cells #[.string ⟨#[97, 13, 10, 98]⟩] 9)
        rw [show ((((w.alloc (.cells #[.string (bs meth), .string (bs path), .string (bs query), .string host, .slice FA fn fc, .string (bs body)] 50)).alloc (.cells #[.bool false, .slice none 0 0, .int .i64 0, .string ⟨#[]⟩, .slice none 0 0, .slice none 0 0, .string ⟨#[]⟩] 55)).alloc (.cells #[.string ⟨#[]⟩, .string ⟨#[]⟩, .string ⟨#[]⟩, .string ⟨#[]⟩, .slice none 0 0, .string ⟨#[]⟩] 50)).alloc (.cells #[.bool true, .slice none 0 0, .int .i64 (1 + (c : Int)), .string ⟨#[47, 115, 114, 118]⟩, .slice (some ⟨w.heap.size + 1 + 1 + 1 + 1, 0, none⟩) 1 1, .slice (some ⟨w.heap.size + 1 + 1 + 1 + 1 + 1, 0, none⟩) 1 1, .string ⟨#[99, 47, 100]⟩] 55)).heap.size = w.heap.size + 1 + 1 + 1 + 1 by simp] at this
        exact this
      have k5 : Blk ((((((w.alloc (.cells #[.string (bs meth), .string (bs path), .string (bs query), .string host, .slice FA fn fc, .string (bs body)] 50)).alloc (.cells #[.bool false, .slice none 0 0, .int .i64 0, .string ⟨#[]⟩, .slice none 0 0, .slice none 0 0, .string ⟨#[]⟩] 55)).alloc (.cells #[.string ⟨#[]⟩, .string ⟨#[]⟩, .string ⟨#[]⟩, .string ⟨#[]⟩, .slice none 0 0, .string ⟨#[]⟩] 50)).alloc (.cells #[.bool true, .slice none 0 0, .int .i64 (1 + (c : Int)), .string ⟨#[47, 115, 114, 118]⟩, .slice (some ⟨w.heap.size + 1 + 1 + 1 + 1, 0, none⟩) 1 1, .slice (some ⟨w.heap.size + 1 + 1 + 1 + 1 + 1, 0, none⟩) 1 1, .string ⟨#[99, 47, 100]⟩] 55)).alloc (.cells #[.string ⟨#[120]⟩] 9)).alloc (.cells #[.string ⟨#[97, 13, 10, 98]⟩] 9)) (w.heap.size + 1 + 1 + 1 + 1 + 1) 9 #[.string ⟨#[97, 13, 10, 98]⟩] := by
        have := Blk.new (((((w.alloc (.cells #[.string (bs meth), .string (bs path), .string (bs query), .string host, .slice FA fn fc, .string (bs body)] 50)).alloc (.cells #[.bool false, .slice none 0 0, .int .i64 0, .string ⟨#[]⟩, .slice none 0 0, .slice none 0 0, .string ⟨#[]⟩] 55)).alloc (.cells #[.string ⟨#[]⟩, .string ⟨#[]⟩, .string ⟨#[]⟩, .string ⟨#[]⟩, .slice none 0 0, .string ⟨#[]⟩] 50)).alloc (.cells #[.bool true, .slice none 0 0, .int .i64 (1 + (c : Int)), .string ⟨#[47, 115, 114, 118]⟩, .slice (some ⟨w.heap.size + 1 + 1 + 1 + 1, 0, none⟩) 1 1, .slice (some ⟨w.heap.size + 1 + 1 + 1 + 1 + 1, 0, none⟩) 1 1, .string ⟨#[99, 47, 100]⟩] 55)).alloc (.cells #[.string ⟨#[120]⟩] 9)) 9 #[.string ⟨#[97, 13, 10, 98]⟩]
        rw [show (((((w.alloc (.cells #[.string (bs meth), .string (bs path), .string (bs query), .string host, .slice FA fn fc, .string (bs body)] 50)).alloc (.cells #[.bool false, .slice none 0 0, .int .i64 0, .string ⟨#[]⟩, .slice none 0 0, .slice none 0 0, .string ⟨#[]⟩] 55)).alloc (.cells #[.string ⟨#[]⟩, .string ⟨#[]⟩, .string ⟨#[]⟩, .string ⟨#[]⟩, .slice none 0 0, .string ⟨#[]⟩] 50)).alloc (.cells #[.bool true, .slice none 0 0, .int .i64 (1 + (c : Int)), .string ⟨#[47, 115, 114, 118]⟩, .slice (some ⟨w.heap.size + 1 + 1 + 1 + 1, 0, none⟩) 1 1, .slice (some ⟨w.heap.size + 1 + 1 + 1 + 1 + 1, 0, none⟩) 1 1, .string ⟨#[99, 47, 100]⟩] 55)).alloc (.cells #[.string ⟨#[120]⟩] 9)).heap.size = w.heap.size + 1 + 1 + 1 + 1 + 1 by simp] at this
        exact this
      have HX := Lib.hid (show MadeCut w #[.string (bs meth), .string (bs path), .string (bs query), .string host, .slice FA fn fc, .string (bs body)] ((((((w.alloc (.cells #[.string (bs meth), .string (bs path), .string (bs query), .string host, .slice FA fn fc, .string (bs body)] 50)).alloc (.cells #[.bool false, .slice none 0 0, .int .i64 0, .string ⟨#[]⟩, .slice none 0 0, .slice none 0 0, .string ⟨#[]⟩] 55)).alloc (.cells #[.string ⟨#[]⟩, .string ⟨#[]⟩, .string ⟨#[]⟩, .string ⟨#[]⟩, .slice none 0 0, .string ⟨#[]⟩] 50)).alloc (.cells #[.bool true, .slice none 0 0, .int .i64 (1 + (c : Int)), .string ⟨#[47, 115, 114, 118]⟩, .slice (some ⟨w.heap.size + 1 + 1 + 1 + 1, 0, none⟩) 1 1, .slice (some ⟨w.heap.size + 1 + 1 + 1 + 1 + 1, 0, none⟩) 1 1, .string ⟨#[99, 47, 100]⟩] 55)).alloc (.cells #[.string ⟨#[120]⟩] 9)).alloc (.cells #[.string ⟨#[97, 13, 10, 98]⟩] 9)) from ⟨true, 1 + (c : Int), some ⟨w.heap.size + 1 + 1 + 1 + 1, 0, none⟩, some ⟨w.heap.size + 1 + 1 + 1 + 1 + 1, 0, none⟩, 1, 1, by omega, by omega, k0, k1, k2, k3, readsS (s := [120]) k4, readsS (s := [97, 13, 10, 98]) k5, (fun a e => by cases e; show w.heap.size + 1 + 1 + 1 < w.heap.size + 1 + 1 + 1 + 1; omega), (fun a e => by cases e; show w.heap.size + 1 + 1 + 1 < w.heap.size + 1 + 1 + 1 + 1 + 1; omega), bW⟩)
      clear bW k0 k1 k2 k3 k4 k5
      go_wp2_with fail
      go_meet
      exact ⟨rfl, HX⟩
  case rest =>
    obtain ⟨rfl, hM⟩ := hcut
    rename World => wx
    obtain ⟨b, kd, N, V, cn, cv, hk1, hk2, k0, k1, k2, k3, rN, rV, pN, pV, bW⟩ := hM.out
    have hHx : w.heap.size + 1 + 1 + 1 < wx.heap.size := k3.lt
    have k6 := Blk.new wx 9 #[.string ⟨#[71, 69, 84]⟩, .string ⟨#[72, 69, 65, 68]⟩, .string ⟨#[80, 79, 83, 84]⟩, .string ⟨#[80, 85, 84]⟩]
    have j0 := k0.alloc (.cells #[.string ⟨#[71, 69, 84]⟩, .string ⟨#[72, 69, 65, 68]⟩, .string ⟨#[80, 79, 83, 84]⟩, .string ⟨#[80, 85, 84]⟩] 9)
    have j1 := k1.alloc (.cells #[.string ⟨#[71, 69, 84]⟩, .string ⟨#[72, 69, 65, 68]⟩, .string ⟨#[80, 79, 83, 84]⟩, .string ⟨#[80, 85, 84]⟩] 9)
    have j2 := k2.alloc (.cells #[.string ⟨#[71, 69, 84]⟩, .string ⟨#[72, 69, 65, 68]⟩, .string ⟨#[80, 79, 83, 84]⟩, .string ⟨#[80, 85, 84]⟩] 9)
    have j3 := k3.alloc (.cells #[.string ⟨#[71, 69, 84]⟩, .string ⟨#[72, 69, 65, 68]⟩, .string ⟨#[80, 79, 83, 84]⟩, .string ⟨#[80, 85, 84]⟩] 9)
    have jW := bW.alloc bW.size (.cells #[.string ⟨#[71, 69, 84]⟩, .string ⟨#[72, 69, 65, 68]⟩, .string ⟨#[80, 79, 83, 84]⟩, .string ⟨#[80, 85, 84]⟩] 9)
    have jX := (Below.refl wx.heap.size wx).alloc (Nat.le_refl _) (.cells #[.string ⟨#[71, 69, 84]⟩, .string ⟨#[72, 69, 65, 68]⟩, .string ⟨#[80, 79, 83, 84]⟩, .string ⟨#[80, 85, 84]⟩] 9)
    have jN := (rN.below jX).more jX.size
    have jV := (rV.below jX).more jX.size
    clear k0 k1 k2 k3 bW rN rV hM jX
    obtain ⟨f, hf⟩ : ∃ f, madeF b kd = f := ⟨_, rfl⟩
    rw [hf] at j3 jN jV
    have HF := Lib.hid hf
    clear hf
    obtain ⟨M, hM, hMc⟩ := four_meth m hm4
    go_upto_region 8 with (fail)
    generalize wx.alloc (.cells #[.string ⟨#[71, 69, 84]⟩, .string ⟨#[72, 69, 65, 68]⟩, .string ⟨#[80, 79, 83, 84]⟩, .string ⟨#[80, 85, 84]⟩] 9) = W at k6 j0 j1 j2 j3 jN jV jW ⊢
    have im0 : (0 : Int) ≤ (m : Int) := by omega
    have im1 : (m : Int) < 4 := by omega
    have cM : W.cell? ⟨wx.heap.size, m, none⟩ = some (.string (bs M)) := (k6.cell m).trans hMc
    have cB1 : W.cell? ⟨w.heap.size, 1, none⟩ = some (.string (bs path)) := j0.cell 1
    have cB2 : W.cell? ⟨w.heap.size, 2, none⟩ = some (.string (bs query)) := j0.cell 2
    have cB5 : W.cell? ⟨w.heap.size, 5, none⟩ = some (.string (bs body)) := j0.cell 5
    have cL0 : W.cell? ⟨w.heap.size + 1 + 1 + 1, 0, none⟩ = some (.bool f.ok) := j3.cell 0
    have cL1 : W.cell? ⟨w.heap.size + 1 + 1 + 1, 1, none⟩ = some (.slice none f.segs.length 0) := j3.cell 1
    have cL2 : W.cell? ⟨w.heap.size + 1 + 1 + 1, 2, none⟩ = some (.int .i64 f.kind) := j3.cell 2
    have cL3 : W.cell? ⟨w.heap.size + 1 + 1 + 1, 3, none⟩ = some (.string (bs f.text)) := j3.cell 3
    have cL4 : W.cell? ⟨w.heap.size + 1 + 1 + 1, 4, none⟩ = some (.slice N f.names.length cn) := j3.cell 4
    have cL5 : W.cell? ⟨w.heap.size + 1 + 1 + 1, 5, none⟩ = some (.slice V f.vals.length cv) := j3.cell 5
    have cL6 : W.cell? ⟨w.heap.size + 1 + 1 + 1, 6, none⟩ = some (.string (bs f.rest)) := j3.cell 6
    have fF0 := j1.frozen 0
    have cF0 : W.cell? ⟨w.heap.size + 1, 0, none⟩ = some (.bool false) := j1.cell 0
    have fF1 := j1.frozen 1
    have cF1 : W.cell? ⟨w.heap.size + 1, 1, none⟩ = some (.slice none 0 0) := j1.cell 1
    have fF2 := j1.frozen 2
    have cF2 : W.cell? ⟨w.heap.size + 1, 2, none⟩ = some (.int .i64 0) := j1.cell 2
    have fF3 := j1.frozen 3
    have cF3 : W.cell? ⟨w.heap.size + 1, 3, none⟩ = some (.string ⟨#[]⟩) := j1.cell 3
    have fF4 := j1.frozen 4
    have cF4 : W.cell? ⟨w.heap.size + 1, 4, none⟩ = some (.slice none 0 0) := j1.cell 4
    have fF5 := j1.frozen 5
    have cF5 : W.cell? ⟨w.heap.size + 1, 5, none⟩ = some (.slice none 0 0) := j1.cell 5
    have fF6 := j1.frozen 6
    have cF6 : W.cell? ⟨w.heap.size + 1, 6, none⟩ = some (.string ⟨#[]⟩) := j1.cell 6
    have fR0 := j2.frozen 0
    have cR0 : W.cell? ⟨w.heap.size + 1 + 1, 0, none⟩ = some (.string ⟨#[]⟩) := j2.cell 0
    have fR1 := j2.frozen 1
    have cR1 : W.cell? ⟨w.heap.size + 1 + 1, 1, none⟩ = some (.string ⟨#[]⟩) := j2.cell 1
    have fR2 := j2.frozen 2
    have cR2 : W.cell? ⟨w.heap.size + 1 + 1, 2, none⟩ = some (.string ⟨#[]⟩) := j2.cell 2
    have fR3 := j2.frozen 3
    have cR3 : W.cell? ⟨w.heap.size + 1 + 1, 3, none⟩ = some (.string ⟨#[]⟩) := j2.cell 3
    have fR4 := j2.frozen 4
    have cR4 : W.cell? ⟨w.heap.size + 1 + 1, 4, none⟩ = some (.slice none 0 0) := j2.cell 4
    have fR5 := j2.frozen 5
    have cR5 : W.cell? ⟨w.heap.size + 1 + 1, 5, none⟩ = some (.string ⟨#[]⟩) := j2.cell 5
    obtain ⟨lp, hlp⟩ : ∃ l, min path.length 40 = l := ⟨_, rfl⟩
    have mlp : min (path.length : Int) 40 = (lp : Int) := by omega
    have alp : (0 : Int) ≤ (lp : Int) := by omega
    have blp : (lp : Int) ≤ (path.length : Int) := by omega
    have xlp := cutL path lp
    have ylp : (path.take lp).length ≤ 40 := by rw [List.length_take]; omega
    obtain ⟨lq, hlq⟩ : ∃ l, min query.length 40 = l := ⟨_, rfl⟩
    have mlq : min (query.length : Int) 40 = (lq : Int) := by omega
    have alq : (0 : Int) ≤ (lq : Int) := by omega
    have blq : (lq : Int) ≤ (query.length : Int) := by omega
    have xlq := cutL query lq
    have ylq : (query.take lq).length ≤ 40 := by rw [List.length_take]; omega
    obtain ⟨lb, hlb⟩ : ∃ l, min body.length 60 = l := ⟨_, rfl⟩
    have mlb : min (body.length : Int) 60 = (lb : Int) := by omega
    have alb : (0 : Int) ≤ (lb : Int) := by omega
    have blb : (lb : Int) ≤ (body.length : Int) := by omega
    have xlb := cutL body lb
    have ylb : (body.take lb).length ≤ 60 := by rw [List.length_take]; omega
    obtain ⟨PP, hPP⟩ : ∃ l, path.take lp = l := ⟨_, rfl⟩
    rw [hPP] at xlp ylp
    obtain ⟨QQ, hQQ⟩ : ∃ l, query.take lq = l := ⟨_, rfl⟩
    rw [hQQ] at xlq ylq
    obtain ⟨BB, hBB⟩ : ∃ l, body.take lb = l := ⟨_, rfl⟩
    rw [hBB] at xlb ylb
    have zP := bs_size PP
    have sP : ¬ 9223372036854775807 < 1 + PP.length := by omega
    have sP2 : ¬ 9223372036854775806 < PP.length := by omega
    have HPP : (⟨#[47]⟩ : ByteArray) ++ bs PP = bs (47 :: PP) := by rw [show (⟨#[47]⟩ : ByteArray) = bs [47] from rfl, bs_app]; rfl
    obtain ⟨SP, hSP⟩ : ∃ SP, (⟨#[47]⟩ : ByteArray) ++ bs PP = SP := ⟨_, rfl⟩
    have HSP := Lib.hid (hSP.symm.trans HPP)
    have FIN := Lib.hid (fin67 (B := w.heap.size) (V := w) j1 j2 (by omega) jW (by omega) (by omega) (.bool f.ok) (.slice none f.segs.length 0) (.int .i64 f.kind) (.string (bs f.text)) (.slice N f.names.length cn) (.slice V f.vals.length cv) (.string (bs f.rest)) (.string (bs M)) (.string SP) (.string (bs QQ)) (.string ⟨#[]⟩) (.slice none 0 0) (.string (bs BB)))
    have qN := reads67 jN (g := w.heap.size + 1) (k := w.heap.size + 1 + 1) (fun a e => by have := pN a e; omega) (fun a e => by have := pN a e; omega) (.bool f.ok) (.slice none f.segs.length 0) (.int .i64 f.kind) (.string (bs f.text)) (.slice N f.names.length cn) (.slice V f.vals.length cv) (.string (bs f.rest)) (.string (bs M)) (.string SP) (.string (bs QQ)) (.string ⟨#[]⟩) (.slice none 0 0) (.string (bs BB))
    have qV := reads67 jV (g := w.heap.size + 1) (k := w.heap.size + 1 + 1) (fun a e => by have := pV a e; omega) (fun a e => by have := pV a e; omega) (.bool f.ok) (.slice none f.segs.length 0) (.int .i64 f.kind) (.string (bs f.text)) (.slice N f.names.length cn) (.slice V f.vals.length cv) (.string (bs f.rest)) (.string (bs M)) (.string SP) (.string (bs QQ)) (.string ⟨#[]⟩) (.slice none 0 0) (.string (bs BB))
    unfold set6 set7 at qN qV
    have HNV := Lib.hid (And.intro qN qV)
    clear qN qV pN pV
    have HY := Lib.hid (And.intro hM (And.intro ylp (And.intro ylq ylb)))
    have SA : (set7 W (w.heap.size + 1) (.bool f.ok) (.slice none f.segs.length 0) (.int .i64 f.kind) (.string (bs f.text)) (.slice N f.names.length cn) (.slice V f.vals.length cv) (.string (bs f.rest))).drew.cell? ⟨wx.heap.size, m, none⟩ = some (.string (bs M)) ∧ (set7 W (w.heap.size + 1) (.bool f.ok) (.slice none f.segs.length 0) (.int .i64 f.kind) (.string (bs f.text)) (.slice N f.names.length cn) (.slice V f.vals.length cv) (.string (bs f.rest))).drew.cell? ⟨w.heap.size, 1, none⟩ = some (.string (bs path)) ∧ (set7 W (w.heap.size + 1) (.bool f.ok) (.slice none f.segs.length 0) (.int .i64 f.kind) (.string (bs f.text)) (.slice N f.names.length cn) (.slice V f.vals.length cv) (.string (bs f.rest))).drew.cell? ⟨w.heap.size, 2, none⟩ = some (.string (bs query)) ∧ (set7 W (w.heap.size + 1) (.bool f.ok) (.slice none f.segs.length 0) (.int .i64 f.kind) (.string (bs f.text)) (.slice N f.names.length cn) (.slice V f.vals.length cv) (.string (bs f.rest))).drew.cell? ⟨w.heap.size, 5, none⟩ = some (.string (bs body)) ∧ (set7 W (w.heap.size + 1) (.bool f.ok) (.slice none f.segs.length 0) (.int .i64 f.kind) (.string (bs f.text)) (.slice N f.names.length cn) (.slice V f.vals.length cv) (.string (bs f.rest))).drew.cell? ⟨w.heap.size + 1 + 1 + 1, 0, none⟩ = some (.bool f.ok) ∧ (set7 W (w.heap.size + 1) (.bool f.ok) (.slice none f.segs.length 0) (.int .i64 f.kind) (.string (bs f.text)) (.slice N f.names.length cn) (.slice V f.vals.length cv) (.string (bs f.rest))).drew.cell? ⟨w.heap.size + 1 + 1 + 1, 1, none⟩ = some (.slice none f.segs.length 0) ∧ (set7 W (w.heap.size + 1) (.bool f.ok) (.slice none f.segs.length 0) (.int .i64 f.kind) (.string (bs f.text)) (.slice N f.names.length cn) (.slice V f.vals.length cv) (.string (bs f.rest))).drew.cell? ⟨w.heap.size + 1 + 1 + 1, 2, none⟩ = some (.int .i64 f.kind) ∧ (set7 W (w.heap.size + 1) (.bool f.ok) (.slice none f.segs.length 0) (.int .i64 f.kind) (.string (bs f.text)) (.slice N f.names.length cn) (.slice V f.vals.length cv) (.string (bs f.rest))).drew.cell? ⟨w.heap.size + 1 + 1 + 1, 3, none⟩ = some (.string (bs f.text)) ∧ (set7 W (w.heap.size + 1) (.bool f.ok) (.slice none f.segs.length 0) (.int .i64 f.kind) (.string (bs f.text)) (.slice N f.names.length cn) (.slice V f.vals.length cv) (.string (bs f.rest))).drew.cell? ⟨w.heap.size + 1 + 1 + 1, 4, none⟩ = some (.slice N f.names.length cn) ∧ (set7 W (w.heap.size + 1) (.bool f.ok) (.slice none f.segs.length 0) (.int .i64 f.kind) (.string (bs f.text)) (.slice N f.names.length cn) (.slice V f.vals.length cv) (.string (bs f.rest))).drew.cell? ⟨w.heap.size + 1 + 1 + 1, 5, none⟩ = some (.slice V f.vals.length cv) ∧ (set7 W (w.heap.size + 1) (.bool f.ok) (.slice none f.segs.length 0) (.int .i64 f.kind) (.string (bs f.text)) (.slice N f.names.length cn) (.slice V f.vals.length cv) (.string (bs f.rest))).drew.cell? ⟨w.heap.size + 1 + 1 + 1, 6, none⟩ = some (.string (bs f.rest)) := ⟨((far7 k6 (g := w.heap.size + 1) (by omega) (.bool f.ok) (.slice none f.segs.length 0) (.int .i64 f.kind) (.string (bs f.text)) (.slice N f.names.length cn) (.slice V f.vals.length cv) (.string (bs f.rest))).drew.cell m).trans hMc, (far7 j0 (g := w.heap.size + 1) (by omega) (.bool f.ok) (.slice none f.segs.length 0) (.int .i64 f.kind) (.string (bs f.text)) (.slice N f.names.length cn) (.slice V f.vals.length cv) (.string (bs f.rest))).drew.cell 1, (far7 j0 (g := w.heap.size + 1) (by omega) (.bool f.ok) (.slice none f.segs.length 0) (.int .i64 f.kind) (.string (bs f.text)) (.slice N f.names.length cn) (.slice V f.vals.length cv) (.string (bs f.rest))).drew.cell 2, (far7 j0 (g := w.heap.size + 1) (by omega) (.bool f.ok) (.slice none f.segs.length 0) (.int .i64 f.kind) (.string (bs f.text)) (.slice N f.names.length cn) (.slice V f.vals.length cv) (.string (bs f.rest))).drew.cell 5, (far7 j3 (g := w.heap.size + 1) (by omega) (.bool f.ok) (.slice none f.segs.length 0) (.int .i64 f.kind) (.string (bs f.text)) (.slice N f.names.length cn) (.slice V f.vals.length cv) (.string (bs f.rest))).drew.cell 0, (far7 j3 (g := w.heap.size + 1) (by omega) (.bool f.ok) (.slice none f.segs.length 0) (.int .i64 f.kind) (.string (bs f.text)) (.slice N f.names.length cn) (.slice V f.vals.length cv) (.string (bs f.rest))).drew.cell 1, (far7 j3 (g := w.heap.size + 1) (by omega) (.bool f.ok) (.slice none f.segs.length 0) (.int .i64 f.kind) (.string (bs f.text)) (.slice N f.names.length cn) (.slice V f.vals.length cv) (.string (bs f.rest))).drew.cell 2, (far7 j3 (g := w.heap.size + 1) (by omega) (.bool f.ok) (.slice none f.segs.length 0) (.int .i64 f.kind) (.string (bs f.text)) (.slice N f.names.length cn) (.slice V f.vals.length cv) (.string (bs f.rest))).drew.cell 3, (far7 j3 (g := w.heap.size + 1) (by omega) (.bool f.ok) (.slice none f.segs.length 0) (.int .i64 f.kind) (.string (bs f.text)) (.slice N f.names.length cn) (.slice V f.vals.length cv) (.string (bs f.rest))).drew.cell 4, (far7 j3 (g := w.heap.size + 1) (by omega) (.bool f.ok) (.slice none f.segs.length 0) (.int .i64 f.kind) (.string (bs f.text)) (.slice N f.names.length cn) (.slice V f.vals.length cv) (.string (bs f.rest))).drew.cell 5, (far7 j3 (g := w.heap.size + 1) (by omega) (.bool f.ok) (.slice none f.segs.length 0) (.int .i64 f.kind) (.string (bs f.text)) (.slice N f.names.length cn) (.slice V f.vals.length cv) (.string (bs f.rest))).drew.cell 6⟩
    have SB : (set6 W (w.heap.size + 1 + 1) (.string (bs M)) (.string SP) (.string (bs QQ)) (.string ⟨#[]⟩) (.slice none 0 0) (.string (bs BB))).drew.cell? ⟨wx.heap.size, m, none⟩ = some (.string (bs M)) ∧ (set6 W (w.heap.size + 1 + 1) (.string (bs M)) (.string SP) (.string (bs QQ)) (.string ⟨#[]⟩) (.slice none 0 0) (.string (bs BB))).drew.cell? ⟨w.heap.size, 1, none⟩ = some (.string (bs path)) ∧ (set6 W (w.heap.size + 1 + 1) (.string (bs M)) (.string SP) (.string (bs QQ)) (.string ⟨#[]⟩) (.slice none 0 0) (.string (bs BB))).drew.cell? ⟨w.heap.size, 2, none⟩ = some (.string (bs query)) ∧ (set6 W (w.heap.size + 1 + 1) (.string (bs M)) (.string SP) (.string (bs QQ)) (.string ⟨#[]⟩) (.slice none 0 0) (.string (bs BB))).drew.cell? ⟨w.heap.size, 5, none⟩ = some (.string (bs body)) ∧ (set6 W (w.heap.size + 1 + 1) (.string (bs M)) (.string SP) (.string (bs QQ)) (.string ⟨#[]⟩) (.slice none 0 0) (.string (bs BB))).drew.cell? ⟨w.heap.size + 1 + 1 + 1, 0, none⟩ = some (.bool f.ok) ∧ (set6 W (w.heap.size + 1 + 1) (.string (bs M)) (.string SP) (.string (bs QQ)) (.string ⟨#[]⟩) (.slice none 0 0) (.string (bs BB))).drew.cell? ⟨w.heap.size + 1 + 1 + 1, 1, none⟩ = some (.slice none f.segs.length 0) ∧ (set6 W (w.heap.size + 1 + 1) (.string (bs M)) (.string SP) (.string (bs QQ)) (.string ⟨#[]⟩) (.slice none 0 0) (.string (bs BB))).drew.cell? ⟨w.heap.size + 1 + 1 + 1, 2, none⟩ = some (.int .i64 f.kind) ∧ (set6 W (w.heap.size + 1 + 1) (.string (bs M)) (.string SP) (.string (bs QQ)) (.string ⟨#[]⟩) (.slice none 0 0) (.string (bs BB))).drew.cell? ⟨w.heap.size + 1 + 1 + 1, 3, none⟩ = some (.string (bs f.text)) ∧ (set6 W (w.heap.size + 1 + 1) (.string (bs M)) (.string SP) (.string (bs QQ)) (.string ⟨#[]⟩) (.slice none 0 0) (.string (bs BB))).drew.cell? ⟨w.heap.size + 1 + 1 + 1, 4, none⟩ = some (.slice N f.names.length cn) ∧ (set6 W (w.heap.size + 1 + 1) (.string (bs M)) (.string SP) (.string (bs QQ)) (.string ⟨#[]⟩) (.slice none 0 0) (.string (bs BB))).drew.cell? ⟨w.heap.size + 1 + 1 + 1, 5, none⟩ = some (.slice V f.vals.length cv) ∧ (set6 W (w.heap.size + 1 + 1) (.string (bs M)) (.string SP) (.string (bs QQ)) (.string ⟨#[]⟩) (.slice none 0 0) (.string (bs BB))).drew.cell? ⟨w.heap.size + 1 + 1 + 1, 6, none⟩ = some (.string (bs f.rest)) := ⟨((far6 k6 (g := w.heap.size + 1 + 1) (by omega) (.string (bs M)) (.string SP) (.string (bs QQ)) (.string ⟨#[]⟩) (.slice none 0 0) (.string (bs BB))).drew.cell m).trans hMc, (far6 j0 (g := w.heap.size + 1 + 1) (by omega) (.string (bs M)) (.string SP) (.string (bs QQ)) (.string ⟨#[]⟩) (.slice none 0 0) (.string (bs BB))).drew.cell 1, (far6 j0 (g := w.heap.size + 1 + 1) (by omega) (.string (bs M)) (.string SP) (.string (bs QQ)) (.string ⟨#[]⟩) (.slice none 0 0) (.string (bs BB))).drew.cell 2, (far6 j0 (g := w.heap.size + 1 + 1) (by omega) (.string (bs M)) (.string SP) (.string (bs QQ)) (.string ⟨#[]⟩) (.slice none 0 0) (.string (bs BB))).drew.cell 5, (far6 j3 (g := w.heap.size + 1 + 1) (by omega) (.string (bs M)) (.string SP) (.string (bs QQ)) (.string ⟨#[]⟩) (.slice none 0 0) (.string (bs BB))).drew.cell 0, (far6 j3 (g := w.heap.size + 1 + 1) (by omega) (.string (bs M)) (.string SP) (.string (bs QQ)) (.string ⟨#[]⟩) (.slice none 0 0) (.string (bs BB))).drew.cell 1, (far6 j3 (g := w.heap.size + 1 + 1) (by omega) (.string (bs M)) (.string SP) (.string (bs QQ)) (.string ⟨#[]⟩) (.slice none 0 0) (.string (bs BB))).drew.cell 2, (far6 j3 (g := w.heap.size + 1 + 1) (by omega) (.string (bs M)) (.string SP) (.string (bs QQ)) (.string ⟨#[]⟩) (.slice none 0 0) (.string (bs BB))).drew.cell 3, (far6 j3 (g := w.heap.size + 1 + 1) (by omega) (.string (bs M)) (.string SP) (.string (bs QQ)) (.string ⟨#[]⟩) (.slice none 0 0) (.string (bs BB))).drew.cell 4, (far6 j3 (g := w.heap.size + 1 + 1) (by omega) (.string (bs M)) (.string SP) (.string (bs QQ)) (.string ⟨#[]⟩) (.slice none 0 0) (.string (bs BB))).drew.cell 5, (far6 j3 (g := w.heap.size + 1 + 1) (by omega) (.string (bs M)) (.string SP) (.string (bs QQ)) (.string ⟨#[]⟩) (.slice none 0 0) (.string (bs BB))).drew.cell 6⟩
    have SAB : (set6 (set7 W (w.heap.size + 1) (.bool f.ok) (.slice none f.segs.length 0) (.int .i64 f.kind) (.string (bs f.text)) (.slice N f.names.length cn) (.slice V f.vals.length cv) (.string (bs f.rest))) (w.heap.size + 1 + 1) (.string (bs M)) (.string SP) (.string (bs QQ)) (.string ⟨#[]⟩) (.slice none 0 0) (.string (bs BB))).drew.cell? ⟨wx.heap.size, m, none⟩ = some (.string (bs M)) ∧ (set6 (set7 W (w.heap.size + 1) (.bool f.ok) (.slice none f.segs.length 0) (.int .i64 f.kind) (.string (bs f.text)) (.slice N f.names.length cn) (.slice V f.vals.length cv) (.string (bs f.rest))) (w.heap.size + 1 + 1) (.string (bs M)) (.string SP) (.string (bs QQ)) (.string ⟨#[]⟩) (.slice none 0 0) (.string (bs BB))).drew.cell? ⟨w.heap.size, 1, none⟩ = some (.string (bs path)) ∧ (set6 (set7 W (w.heap.size + 1) (.bool f.ok) (.slice none f.segs.length 0) (.int .i64 f.kind) (.string (bs f.text)) (.slice N f.names.length cn) (.slice V f.vals.length cv) (.string (bs f.rest))) (w.heap.size + 1 + 1) (.string (bs M)) (.string SP) (.string (bs QQ)) (.string ⟨#[]⟩) (.slice none 0 0) (.string (bs BB))).drew.cell? ⟨w.heap.size, 2, none⟩ = some (.string (bs query)) ∧ (set6 (set7 W (w.heap.size + 1) (.bool f.ok) (.slice none f.segs.length 0) (.int .i64 f.kind) (.string (bs f.text)) (.slice N f.names.length cn) (.slice V f.vals.length cv) (.string (bs f.rest))) (w.heap.size + 1 + 1) (.string (bs M)) (.string SP) (.string (bs QQ)) (.string ⟨#[]⟩) (.slice none 0 0) (.string (bs BB))).drew.cell? ⟨w.heap.size, 5, none⟩ = some (.string (bs body)) ∧ (set6 (set7 W (w.heap.size + 1) (.bool f.ok) (.slice none f.segs.length 0) (.int .i64 f.kind) (.string (bs f.text)) (.slice N f.names.length cn) (.slice V f.vals.length cv) (.string (bs f.rest))) (w.heap.size + 1 + 1) (.string (bs M)) (.string SP) (.string (bs QQ)) (.string ⟨#[]⟩) (.slice none 0 0) (.string (bs BB))).drew.cell? ⟨w.heap.size + 1 + 1 + 1, 0, none⟩ = some (.bool f.ok) ∧ (set6 (set7 W (w.heap.size + 1) (.bool f.ok) (.slice none f.segs.length 0) (.int .i64 f.kind) (.string (bs f.text)) (.slice N f.names.length cn) (.slice V f.vals.length cv) (.string (bs f.rest))) (w.heap.size + 1 + 1) (.string (bs M)) (.string SP) (.string (bs QQ)) (.string ⟨#[]⟩) (.slice none 0 0) (.string (bs BB))).drew.cell? ⟨w.heap.size + 1 + 1 + 1, 1, none⟩ = some (.slice none f.segs.length 0) ∧ (set6 (set7 W (w.heap.size + 1) (.bool f.ok) (.slice none f.segs.length 0) (.int .i64 f.kind) (.string (bs f.text)) (.slice N f.names.length cn) (.slice V f.vals.length cv) (.string (bs f.rest))) (w.heap.size + 1 + 1) (.string (bs M)) (.string SP) (.string (bs QQ)) (.string ⟨#[]⟩) (.slice none 0 0) (.string (bs BB))).drew.cell? ⟨w.heap.size + 1 + 1 + 1, 2, none⟩ = some (.int .i64 f.kind) ∧ (set6 (set7 W (w.heap.size + 1) (.bool f.ok) (.slice none f.segs.length 0) (.int .i64 f.kind) (.string (bs f.text)) (.slice N f.names.length cn) (.slice V f.vals.length cv) (.string (bs f.rest))) (w.heap.size + 1 + 1) (.string (bs M)) (.string SP) (.string (bs QQ)) (.string ⟨#[]⟩) (.slice none 0 0) (.string (bs BB))).drew.cell? ⟨w.heap.size + 1 + 1 + 1, 3, none⟩ = some (.string (bs f.text)) ∧ (set6 (set7 W (w.heap.size + 1) (.bool f.ok) (.slice none f.segs.length 0) (.int .i64 f.kind) (.string (bs f.text)) (.slice N f.names.length cn) (.slice V f.vals.length cv) (.string (bs f.rest))) (w.heap.size + 1 + 1) (.string (bs M)) (.string SP) (.string (bs QQ)) (.string ⟨#[]⟩) (.slice none 0 0) (.string (bs BB))).drew.cell? ⟨w.heap.size + 1 + 1 + 1, 4, none⟩ = some (.slice N f.names.length cn) ∧ (set6 (set7 W (w.heap.size + 1) (.bool f.ok) (.slice none f.segs.length 0) (.int .i64 f.kind) (.string (bs f.text)) (.slice N f.names.length cn) (.slice V f.vals.length cv) (.string (bs f.rest))) (w.heap.size + 1 + 1) (.string (bs M)) (.string SP) (.string (bs QQ)) (.string ⟨#[]⟩) (.slice none 0 0) (.string (bs BB))).drew.cell? ⟨w.heap.size + 1 + 1 + 1, 5, none⟩ = some (.slice V f.vals.length cv) ∧ (set6 (set7 W (w.heap.size + 1) (.bool f.ok) (.slice none f.segs.length 0) (.int .i64 f.kind) (.string (bs f.text)) (.slice N f.names.length cn) (.slice V f.vals.length cv) (.string (bs f.rest))) (w.heap.size + 1 + 1) (.string (bs M)) (.string SP) (.string (bs QQ)) (.string ⟨#[]⟩) (.slice none 0 0) (.string (bs BB))).drew.cell? ⟨w.heap.size + 1 + 1 + 1, 6, none⟩ = some (.string (bs f.rest)) := ⟨((far6 (far7 k6 (g := w.heap.size + 1) (by omega) (.bool f.ok) (.slice none f.segs.length 0) (.int .i64 f.kind) (.string (bs f.text)) (.slice N f.names.length cn) (.slice V f.vals.length cv) (.string (bs f.rest))) (g := w.heap.size + 1 + 1) (by omega) (.string (bs M)) (.string SP) (.string (bs QQ)) (.string ⟨#[]⟩) (.slice none 0 0) (.string (bs BB))).drew.cell m).trans hMc, (far6 (far7 j0 (g := w.heap.size + 1) (by omega) (.bool f.ok) (.slice none f.segs.length 0) (.int .i64 f.kind) (.string (bs f.text)) (.slice N f.names.length cn) (.slice V f.vals.length cv) (.string (bs f.rest))) (g := w.heap.size + 1 + 1) (by omega) (.string (bs M)) (.string SP) (.string (bs QQ)) (.string ⟨#[]⟩) (.slice none 0 0) (.string (bs BB))).drew.cell 1, (far6 (far7 j0 (g := w.heap.size + 1) (by omega) (.bool f.ok) (.slice none f.segs.length 0) (.int .i64 f.kind) (.string (bs f.text)) (.slice N f.names.length cn) (.slice V f.vals.length cv) (.string (bs f.rest))) (g := w.heap.size + 1 + 1) (by omega) (.string (bs M)) (.string SP) (.string (bs QQ)) (.string ⟨#[]⟩) (.slice none 0 0) (.string (bs BB))).drew.cell 2, (far6 (far7 j0 (g := w.heap.size + 1) (by omega) (.bool f.ok) (.slice none f.segs.length 0) (.int .i64 f.kind) (.string (bs f.text)) (.slice N f.names.length cn) (.slice V f.vals.length cv) (.string (bs f.rest))) (g := w.heap.size + 1 + 1) (by omega) (.string (bs M)) (.string SP) (.string (bs QQ)) (.string ⟨#[]⟩) (.slice none 0 0) (.string (bs BB))).drew.cell 5, (far6 (far7 j3 (g := w.heap.size + 1) (by omega) (.bool f.ok) (.slice none f.segs.length 0) (.int .i64 f.kind) (.string (bs f.text)) (.slice N f.names.length cn) (.slice V f.vals.length cv) (.string (bs f.rest))) (g := w.heap.size + 1 + 1) (by omega) (.string (bs M)) (.string SP) (.string (bs QQ)) (.string ⟨#[]⟩) (.slice none 0 0) (.string (bs BB))).drew.cell 0, (far6 (far7 j3 (g := w.heap.size + 1) (by omega) (.bool f.ok) (.slice none f.segs.length 0) (.int .i64 f.kind) (.string (bs f.text)) (.slice N f.names.length cn) (.slice V f.vals.length cv) (.string (bs f.rest))) (g := w.heap.size + 1 + 1) (by omega) (.string (bs M)) (.string SP) (.string (bs QQ)) (.string ⟨#[]⟩) (.slice none 0 0) (.string (bs BB))).drew.cell 1, (far6 (far7 j3 (g := w.heap.size + 1) (by omega) (.bool f.ok) (.slice none f.segs.length 0) (.int .i64 f.kind) (.string (bs f.text)) (.slice N f.names.length cn) (.slice V f.vals.length cv) (.string (bs f.rest))) (g := w.heap.size + 1 + 1) (by omega) (.string (bs M)) (.string SP) (.string (bs QQ)) (.string ⟨#[]⟩) (.slice none 0 0) (.string (bs BB))).drew.cell 2, (far6 (far7 j3 (g := w.heap.size + 1) (by omega) (.bool f.ok) (.slice none f.segs.length 0) (.int .i64 f.kind) (.string (bs f.text)) (.slice N f.names.length cn) (.slice V f.vals.length cv) (.string (bs f.rest))) (g := w.heap.size + 1 + 1) (by omega) (.string (bs M)) (.string SP) (.string (bs QQ)) (.string ⟨#[]⟩) (.slice none 0 0) (.string (bs BB))).drew.cell 3, (far6 (far7 j3 (g := w.heap.size + 1) (by omega) (.bool f.ok) (.slice none f.segs.length 0) (.int .i64 f.kind) (.string (bs f.text)) (.slice N f.names.length cn) (.slice V f.vals.length cv) (.string (bs f.rest))) (g := w.heap.size + 1 + 1) (by omega) (.string (bs M)) (.string SP) (.string (bs QQ)) (.string ⟨#[]⟩) (.slice none 0 0) (.string (bs BB))).drew.cell 4, (far6 (far7 j3 (g := w.heap.size + 1) (by omega) (.bool f.ok) (.slice none f.segs.length 0) (.int .i64 f.kind) (.string (bs f.text)) (.slice N f.names.length cn) (.slice V f.vals.length cv) (.string (bs f.rest))) (g := w.heap.size + 1 + 1) (by omega) (.string (bs M)) (.string SP) (.string (bs QQ)) (.string ⟨#[]⟩) (.slice none 0 0) (.string (bs BB))).drew.cell 5, (far6 (far7 j3 (g := w.heap.size + 1) (by omega) (.bool f.ok) (.slice none f.segs.length 0) (.int .i64 f.kind) (.string (bs f.text)) (.slice N f.names.length cn) (.slice V f.vals.length cv) (.string (bs f.rest))) (g := w.heap.size + 1 + 1) (by omega) (.string (bs M)) (.string SP) (.string (bs QQ)) (.string ⟨#[]⟩) (.slice none 0 0) (.string (bs BB))).drew.cell 6⟩
    have SBA : (set7 (set6 W (w.heap.size + 1 + 1) (.string (bs M)) (.string SP) (.string (bs QQ)) (.string ⟨#[]⟩) (.slice none 0 0) (.string (bs BB))) (w.heap.size + 1) (.bool f.ok) (.slice none f.segs.length 0) (.int .i64 f.kind) (.string (bs f.text)) (.slice N f.names.length cn) (.slice V f.vals.length cv) (.string (bs f.rest))).drew.cell? ⟨wx.heap.size, m, none⟩ = some (.string (bs M)) ∧ (set7 (set6 W (w.heap.size + 1 + 1) (.string (bs M)) (.string SP) (.string (bs QQ)) (.string ⟨#[]⟩) (.slice none 0 0) (.string (bs BB))) (w.heap.size + 1) (.bool f.ok) (.slice none f.segs.length 0) (.int .i64 f.kind) (.string (bs f.text)) (.slice N f.names.length cn) (.slice V f.vals.length cv) (.string (bs f.rest))).drew.cell? ⟨w.heap.size, 1, none⟩ = some (.string (bs path)) ∧ (set7 (set6 W (w.heap.size + 1 + 1) (.string (bs M)) (.string SP) (.string (bs QQ)) (.string ⟨#[]⟩) (.slice none 0 0) (.string (bs BB))) (w.heap.size + 1) (.bool f.ok) (.slice none f.segs.length 0) (.int .i64 f.kind) (.string (bs f.text)) (.slice N f.names.length cn) (.slice V f.vals.length cv) (.string (bs f.rest))).drew.cell? ⟨w.heap.size, 2, none⟩ = some (.string (bs query)) ∧ (set7 (set6 W (w.heap.size + 1 + 1) (.string (bs M)) (.string SP) (.string (bs QQ)) (.string ⟨#[]⟩) (.slice none 0 0) (.string (bs BB))) (w.heap.size + 1) (.bool f.ok) (.slice none f.segs.length 0) (.int .i64 f.kind) (.string (bs f.text)) (.slice N f.names.length cn) (.slice V f.vals.length cv) (.string (bs f.rest))).drew.cell? ⟨w.heap.size, 5, none⟩ = some (.string (bs body)) ∧ (set7 (set6 W (w.heap.size + 1 + 1) (.string (bs M)) (.string SP) (.string (bs QQ)) (.string ⟨#[]⟩) (.slice none 0 0) (.string (bs BB))) (w.heap.size + 1) (.bool f.ok) (.slice none f.segs.length 0) (.int .i64 f.kind) (.string (bs f.text)) (.slice N f.names.length cn) (.slice V f.vals.length cv) (.string (bs f.rest))).drew.cell? ⟨w.heap.size + 1 + 1 + 1, 0, none⟩ = some (.bool f.ok) ∧ (set7 (set6 W (w.heap.size + 1 + 1) (.string (bs M)) (.string SP) (.string (bs QQ)) (.string ⟨#[]⟩) (.slice none 0 0) (.string (bs BB))) (w.heap.size + 1) (.bool f.ok) (.slice none f.segs.length 0) (.int .i64 f.kind) (.string (bs f.text)) (.slice N f.names.length cn) (.slice V f.vals.length cv) (.string (bs f.rest))).drew.cell? ⟨w.heap.size + 1 + 1 + 1, 1, none⟩ = some (.slice none f.segs.length 0) ∧ (set7 (set6 W (w.heap.size + 1 + 1) (.string (bs M)) (.string SP) (.string (bs QQ)) (.string ⟨#[]⟩) (.slice none 0 0) (.string (bs BB))) (w.heap.size + 1) (.bool f.ok) (.slice none f.segs.length 0) (.int .i64 f.kind) (.string (bs f.text)) (.slice N f.names.length cn) (.slice V f.vals.length cv) (.string (bs f.rest))).drew.cell? ⟨w.heap.size + 1 + 1 + 1, 2, none⟩ = some (.int .i64 f.kind) ∧ (set7 (set6 W (w.heap.size + 1 + 1) (.string (bs M)) (.string SP) (.string (bs QQ)) (.string ⟨#[]⟩) (.slice none 0 0) (.string (bs BB))) (w.heap.size + 1) (.bool f.ok) (.slice none f.segs.length 0) (.int .i64 f.kind) (.string (bs f.text)) (.slice N f.names.length cn) (.slice V f.vals.length cv) (.string (bs f.rest))).drew.cell? ⟨w.heap.size + 1 + 1 + 1, 3, none⟩ = some (.string (bs f.text)) ∧ (set7 (set6 W (w.heap.size + 1 + 1) (.string (bs M)) (.string SP) (.string (bs QQ)) (.string ⟨#[]⟩) (.slice none 0 0) (.string (bs BB))) (w.heap.size + 1) (.bool f.ok) (.slice none f.segs.length 0) (.int .i64 f.kind) (.string (bs f.text)) (.slice N f.names.length cn) (.slice V f.vals.length cv) (.string (bs f.rest))).drew.cell? ⟨w.heap.size + 1 + 1 + 1, 4, none⟩ = some (.slice N f.names.length cn) ∧ (set7 (set6 W (w.heap.size + 1 + 1) (.string (bs M)) (.string SP) (.string (bs QQ)) (.string ⟨#[]⟩) (.slice none 0 0) (.string (bs BB))) (w.heap.size + 1) (.bool f.ok) (.slice none f.segs.length 0) (.int .i64 f.kind) (.string (bs f.text)) (.slice N f.names.length cn) (.slice V f.vals.length cv) (.string (bs f.rest))).drew.cell? ⟨w.heap.size + 1 + 1 + 1, 5, none⟩ = some (.slice V f.vals.length cv) ∧ (set7 (set6 W (w.heap.size + 1 + 1) (.string (bs M)) (.string SP) (.string (bs QQ)) (.string ⟨#[]⟩) (.slice none 0 0) (.string (bs BB))) (w.heap.size + 1) (.bool f.ok) (.slice none f.segs.length 0) (.int .i64 f.kind) (.string (bs f.text)) (.slice N f.names.length cn) (.slice V f.vals.length cv) (.string (bs f.rest))).drew.cell? ⟨w.heap.size + 1 + 1 + 1, 6, none⟩ = some (.string (bs f.rest)) := ⟨((far7 (far6 k6 (g := w.heap.size + 1 + 1) (by omega) (.string (bs M)) (.string SP) (.string (bs QQ)) (.string ⟨#[]⟩) (.slice none 0 0) (.string (bs BB))) (g := w.heap.size + 1) (by omega) (.bool f.ok) (.slice none f.segs.length 0) (.int .i64 f.kind) (.string (bs f.text)) (.slice N f.names.length cn) (.slice V f.vals.length cv) (.string (bs f.rest))).drew.cell m).trans hMc, (far7 (far6 j0 (g := w.heap.size + 1 + 1) (by omega) (.string (bs M)) (.string SP) (.string (bs QQ)) (.string ⟨#[]⟩) (.slice none 0 0) (.string (bs BB))) (g := w.heap.size + 1) (by omega) (.bool f.ok) (.slice none f.segs.length 0) (.int .i64 f.kind) (.string (bs f.text)) (.slice N f.names.length cn) (.slice V f.vals.length cv) (.string (bs f.rest))).drew.cell 1, (far7 (far6 j0 (g := w.heap.size + 1 + 1) (by omega) (.string (bs M)) (.string SP) (.string (bs QQ)) (.string ⟨#[]⟩) (.slice none 0 0) (.string (bs BB))) (g := w.heap.size + 1) (by omega) (.bool f.ok) (.slice none f.segs.length 0) (.int .i64 f.kind) (.string (bs f.text)) (.slice N f.names.length cn) (.slice V f.vals.length cv) (.string (bs f.rest))).drew.cell 2, (far7 (far6 j0 (g := w.heap.size + 1 + 1) (by omega) (.string (bs M)) (.string SP) (.string (bs QQ)) (.string ⟨#[]⟩) (.slice none 0 0) (.string (bs BB))) (g := w.heap.size + 1) (by omega) (.bool f.ok) (.slice none f.segs.length 0) (.int .i64 f.kind) (.string (bs f.text)) (.slice N f.names.length cn) (.slice V f.vals.length cv) (.string (bs f.rest))).drew.cell 5, (far7 (far6 j3 (g := w.heap.size + 1 + 1) (by omega) (.string (bs M)) (.string SP) (.string (bs QQ)) (.string ⟨#[]⟩) (.slice none 0 0) (.string (bs BB))) (g := w.heap.size + 1) (by omega) (.bool f.ok) (.slice none f.segs.length 0) (.int .i64 f.kind) (.string (bs f.text)) (.slice N f.names.length cn) (.slice V f.vals.length cv) (.string (bs f.rest))).drew.cell 0, (far7 (far6 j3 (g := w.heap.size + 1 + 1) (by omega) (.string (bs M)) (.string SP) (.string (bs QQ)) (.string ⟨#[]⟩) (.slice none 0 0) (.string (bs BB))) (g := w.heap.size + 1) (by omega) (.bool f.ok) (.slice none f.segs.length 0) (.int .i64 f.kind) (.string (bs f.text)) (.slice N f.names.length cn) (.slice V f.vals.length cv) (.string (bs f.rest))).drew.cell 1, (far7 (far6 j3 (g := w.heap.size + 1 + 1) (by omega) (.string (bs M)) (.string SP) (.string (bs QQ)) (.string ⟨#[]⟩) (.slice none 0 0) (.string (bs BB))) (g := w.heap.size + 1) (by omega) (.bool f.ok) (.slice none f.segs.length 0) (.int .i64 f.kind) (.string (bs f.text)) (.slice N f.names.length cn) (.slice V f.vals.length cv) (.string (bs f.rest))).drew.cell 2, (far7 (far6 j3 (g := w.heap.size + 1 + 1) (by omega) (.string (bs M)) (.string SP) (.string (bs QQ)) (.string ⟨#[]⟩) (.slice none 0 0) (.string (bs BB))) (g := w.heap.size + 1) (by omega) (.bool f.ok) (.slice none f.segs.length 0) (.int .i64 f.kind) (.string (bs f.text)) (.slice N f.names.length cn) (.slice V f.vals.length cv) (.string (bs f.rest))).drew.cell 3, (far7 (far6 j3 (g := w.heap.size + 1 + 1) (by omega) (.string (bs M)) (.string SP) (.string (bs QQ)) (.string ⟨#[]⟩) (.slice none 0 0) (.string (bs BB))) (g := w.heap.size + 1) (by omega) (.bool f.ok) (.slice none f.segs.length 0) (.int .i64 f.kind) (.string (bs f.text)) (.slice N f.names.length cn) (.slice V f.vals.length cv) (.string (bs f.rest))).drew.cell 4, (far7 (far6 j3 (g := w.heap.size + 1 + 1) (by omega) (.string (bs M)) (.string SP) (.string (bs QQ)) (.string ⟨#[]⟩) (.slice none 0 0) (.string (bs BB))) (g := w.heap.size + 1) (by omega) (.bool f.ok) (.slice none f.segs.length 0) (.int .i64 f.kind) (.string (bs f.text)) (.slice N f.names.length cn) (.slice V f.vals.length cv) (.string (bs f.rest))).drew.cell 5, (far7 (far6 j3 (g := w.heap.size + 1 + 1) (by omega) (.string (bs M)) (.string SP) (.string (bs QQ)) (.string ⟨#[]⟩) (.slice none 0 0) (.string (bs BB))) (g := w.heap.size + 1) (by omega) (.bool f.ok) (.slice none f.segs.length 0) (.int .i64 f.kind) (.string (bs f.text)) (.slice N f.names.length cn) (.slice V f.vals.length cv) (.string (bs f.rest))).drew.cell 6⟩
    unfold set7 at SA
    unfold set6 at SB
    unfold set6 set7 at SAB SBA FIN
    have TA := Lib.hid SA
    have TB := Lib.hid SB
    have TAB := Lib.hid SAB
    have TBA := Lib.hid SBA
    clear SA SB SAB SBA
    clear k6 j0 j1 j2 j3 jN jV jW hM hMc hlp hlq hlb hPP hQQ hBB HPP ylp ylq ylb CM hm4
    have S0 : W.drew.cell? ⟨wx.heap.size, m, none⟩ = some (.string (bs M)) ∧ W.drew.cell? ⟨w.heap.size, 1, none⟩ = some (.string (bs path)) ∧ W.drew.cell? ⟨w.heap.size, 2, none⟩ = some (.string (bs query)) ∧ W.drew.cell? ⟨w.heap.size, 5, none⟩ = some (.string (bs body)) ∧ W.drew.cell? ⟨w.heap.size + 1 + 1 + 1, 0, none⟩ = some (.bool f.ok) ∧ W.drew.cell? ⟨w.heap.size + 1 + 1 + 1, 1, none⟩ = some (.slice none f.segs.length 0) ∧ W.drew.cell? ⟨w.heap.size + 1 + 1 + 1, 2, none⟩ = some (.int .i64 f.kind) ∧ W.drew.cell? ⟨w.heap.size + 1 + 1 + 1, 3, none⟩ = some (.string (bs f.text)) ∧ W.drew.cell? ⟨w.heap.size + 1 + 1 + 1, 4, none⟩ = some (.slice N f.names.length cn) ∧ W.drew.cell? ⟨w.heap.size + 1 + 1 + 1, 5, none⟩ = some (.slice V f.vals.length cv) ∧ W.drew.cell? ⟨w.heap.size + 1 + 1 + 1, 6, none⟩ = some (.string (bs f.rest)) := ⟨cM, cB1, cB2, cB5, cL0, cL1, cL2, cL3, cL4, cL5, cL6⟩
    refine wp_region_noPanic ?_
    refine wp_region_held_drew (S := (fun X => X.cell? ⟨wx.heap.size, m, none⟩ = some (.string (bs M)) ∧ X.cell? ⟨w.heap.size, 1, none⟩ = some (.string (bs path)) ∧ X.cell? ⟨w.heap.size, 2, none⟩ = some (.string (bs query)) ∧ X.cell? ⟨w.heap.size, 5, none⟩ = some (.string (bs body)) ∧ X.cell? ⟨w.heap.size + 1 + 1 + 1, 0, none⟩ = some (.bool f.ok) ∧ X.cell? ⟨w.heap.size + 1 + 1 + 1, 1, none⟩ = some (.slice none f.segs.length 0) ∧ X.cell? ⟨w.heap.size + 1 + 1 + 1, 2, none⟩ = some (.int .i64 f.kind) ∧ X.cell? ⟨w.heap.size + 1 + 1 + 1, 3, none⟩ = some (.string (bs f.text)) ∧ X.cell? ⟨w.heap.size + 1 + 1 + 1, 4, none⟩ = some (.slice N f.names.length cn) ∧ X.cell? ⟨w.heap.size + 1 + 1 + 1, 5, none⟩ = some (.slice V f.vals.length cv) ∧ X.cell? ⟨w.heap.size + 1 + 1 + 1, 6, none⟩ = some (.string (bs f.rest)))) (by kernel_rfl) S0 (fun hHeld => ?_)
    refine wpAnyH_take (i := 0) (oi := _) (v := ?_) rfl (by kernel_rfl) (by kernel_rfl) (by kernel_rfl) (fun _ _ _ h => h) (Or.inl ⟨by rfl, ?_⟩) (by assumption) ?_
    rotate_left
    · intro w' hSw; (try dsimp only at hSw); go_simp; (try with_reducible rfl)
    try simp only [List.getElem_toArray, List.getElem_cons_zero, Act.put, List.setIfInBounds_toArray, List.set_cons_zero, List.set_cons_succ]
    refine wpAnyH_take (i := 1) (oi := _) (v := ?_) rfl (by kernel_rfl) (by kernel_rfl) (by kernel_rfl) (fun _ _ _ h => h) (Or.inl ⟨by rfl, ?_⟩) (by assumption) ?_
    rotate_left
    · intro w' hSw; (try dsimp only at hSw); go_simp; (try with_reducible rfl)
    try simp only [List.getElem_toArray, List.getElem_cons_succ, List.getElem_cons_zero, Act.put, List.setIfInBounds_toArray, List.set_cons_zero, List.set_cons_succ]
    refine wpAnyH_take (i := 2) (oi := _) (v := ?_) rfl (by kernel_rfl) (by kernel_rfl) (by kernel_rfl) (fun _ _ _ h => h) (Or.inl ⟨by rfl, ?_⟩) (by assumption) ?_
    rotate_left
    · intro w' hSw; (try dsimp only at hSw); go_simp; (try with_reducible rfl)
    try simp only [List.getElem_toArray, List.getElem_cons_succ, List.getElem_cons_zero, Act.put, List.setIfInBounds_toArray, List.set_cons_zero, List.set_cons_succ]
    refine wpAnyH_take (i := 3) (oi := _) (v := ?_) rfl (by kernel_rfl) (by kernel_rfl) (by kernel_rfl) (fun _ _ _ h => h) (Or.inl ⟨by rfl, ?_⟩) (by assumption) ?_
    rotate_left
    · intro w' hSw; (try dsimp only at hSw); go_simp; (try with_reducible rfl)
    try simp only [List.getElem_toArray, List.getElem_cons_succ, List.getElem_cons_zero, Act.put, List.setIfInBounds_toArray, List.set_cons_zero, List.set_cons_succ]
    refine wpAnyH_take (i := 4) (oi := _) (v := ?_) rfl (by kernel_rfl) (by kernel_rfl) (by kernel_rfl) (fun _ _ _ h => h) (Or.inl ⟨by rfl, ?_⟩) (by assumption) ?_
    rotate_left
    · intro w' hSw; (try dsimp only at hSw); go_simp; (try with_reducible rfl)
    try simp only [List.getElem_toArray, List.getElem_cons_succ, List.getElem_cons_zero, Act.put, List.setIfInBounds_toArray, List.set_cons_zero, List.set_cons_succ]
    refine wpAnyH_take (i := 5) (oi := _) (v := ?_) rfl (by kernel_rfl) (by kernel_rfl) (by kernel_rfl) (fun _ _ _ h => h) (Or.inl ⟨by rfl, ?_⟩) (by assumption) ?_
    rotate_left
    · intro w' hSw; (try dsimp only at hSw); go_simp; (try with_reducible rfl)
    try simp only [List.getElem_toArray, List.getElem_cons_succ, List.getElem_cons_zero, Act.put, List.setIfInBounds_toArray, List.set_cons_zero, List.set_cons_succ]
    refine wpAnyH_take (i := 6) (oi := _) (v := ?_) rfl (by kernel_rfl) (by kernel_rfl) (by kernel_rfl) (fun _ _ _ h => h) (Or.inl ⟨by rfl, ?_⟩) (by assumption) ?_
    rotate_left
    · intro w' hSw; (try dsimp only at hSw); go_simp; (try with_reducible rfl)
    try simp only [List.getElem_toArray, List.getElem_cons_succ, List.getElem_cons_zero, Act.put, List.setIfInBounds_toArray, List.set_cons_zero, List.set_cons_succ]
    refine wpAnyH_take (i := 7) (oi := _) (v := ?_) rfl (by kernel_rfl) (by kernel_rfl) (by kernel_rfl) (fun _ _ _ h => h) (Or.inl ⟨by rfl, ?_⟩) (by assumption) ?_
    rotate_left
    · intro w' hSw; (try dsimp only at hSw); go_simp; (try with_reducible rfl)
    try simp only [List.getElem_toArray, List.getElem_cons_succ, List.getElem_cons_zero, Act.put, List.setIfInBounds_toArray, List.set_cons_zero, List.set_cons_succ]
    refine wpAnyH_take (i := 8) (oi := _) (v := ?_) rfl (by kernel_rfl) (by kernel_rfl) (by kernel_rfl) (fun _ _ _ h => h) (Or.inl ⟨by rfl, ?_⟩) (by assumption) ?_
    rotate_left
    · intro w' hSw; (try dsimp only at hSw); go_simp; (try with_reducible rfl)
    try simp only [List.getElem_toArray, List.getElem_cons_succ, List.getElem_cons_zero, Act.put, List.setIfInBounds_toArray, List.set_cons_zero, List.set_cons_succ]
    refine wpAnyH_take (i := 9) (oi := _) (v := ?_) rfl (by kernel_rfl) (by kernel_rfl) (by kernel_rfl) (fun _ _ _ h => h) (Or.inl ⟨by rfl, ?_⟩) (by assumption) ?_
    rotate_left
    · intro w' hSw; (try dsimp only at hSw); go_simp; (try with_reducible rfl)
    try simp only [List.getElem_toArray, List.getElem_cons_succ, List.getElem_cons_zero, Act.put, List.setIfInBounds_toArray, List.set_cons_zero, List.set_cons_succ]
    refine wpAnyH_take (i := 10) (oi := _) (v := ?_) rfl (by kernel_rfl) (by kernel_rfl) (by kernel_rfl) (fun _ _ _ h => h) (Or.inl ⟨by rfl, ?_⟩) (by assumption) ?_
    rotate_left
    · intro w' hSw; (try dsimp only at hSw); go_simp; (try with_reducible rfl)
    try simp only [List.getElem_toArray, List.getElem_cons_succ, List.getElem_cons_zero, Act.put, List.setIfInBounds_toArray, List.set_cons_zero, List.set_cons_succ]
    refine wpAnyH_take (i := 11) (oi := _) (v := ?_) rfl (by kernel_rfl) (by kernel_rfl) (by kernel_rfl) (fun _ _ _ h => h) (Or.inl ⟨by rfl, ?_⟩) (by assumption) ?_
    rotate_left
    · intro w' hSw; (try dsimp only at hSw); go_simp; (try with_reducible rfl)
    try simp only [List.getElem_toArray, List.getElem_cons_succ, List.getElem_cons_zero, Act.put, List.setIfInBounds_toArray, List.set_cons_zero, List.set_cons_succ]
    refine wpAnyH_take (i := 12) (oi := _) (v := ?_) rfl (by kernel_rfl) (by kernel_rfl) (by kernel_rfl) (fun _ _ _ h => h) (Or.inl ⟨by rfl, ?_⟩) (by assumption) ?_
    rotate_left
    · intro w' hSw; (try dsimp only at hSw); go_simp; (try with_reducible rfl)
    try simp only [List.getElem_toArray, List.getElem_cons_succ, List.getElem_cons_zero, Act.put, List.setIfInBounds_toArray, List.set_cons_zero, List.set_cons_succ]
    refine wpAnyH_take (i := 13) (oi := _) (v := ?_) rfl (by kernel_rfl) (by kernel_rfl) (by kernel_rfl) (fun _ _ _ h => h) (Or.inl ⟨by rfl, ?_⟩) (by assumption) ?_
    rotate_left
    · intro w' hSw; (try dsimp only at hSw); go_simp; (try with_reducible rfl)
    try simp only [List.getElem_toArray, List.getElem_cons_succ, List.getElem_cons_zero, Act.put, List.setIfInBounds_toArray, List.set_cons_zero, List.set_cons_succ]
    refine wpAnyH_take (i := 14) (oi := _) (v := ?_) rfl (by kernel_rfl) (by kernel_rfl) (by kernel_rfl) (fun _ _ _ h => h) (Or.inl ⟨by rfl, ?_⟩) (by assumption) ?_
    rotate_left
    · intro w' hSw; (try dsimp only at hSw); go_simp; (try with_reducible rfl)
    try simp only [List.getElem_toArray, List.getElem_cons_succ, List.getElem_cons_zero, Act.put, List.setIfInBounds_toArray, List.set_cons_zero, List.set_cons_succ]
    refine wpAnyH_take (i := 15) (oi := _) (v := ?_) rfl (by kernel_rfl) (by kernel_rfl) (by kernel_rfl) (fun _ _ _ h => h) (Or.inl ⟨by rfl, ?_⟩) (by assumption) ?_
    rotate_left
    · intro w' hSw; (try dsimp only at hSw); go_simp; (try with_reducible rfl)
    try simp only [List.getElem_toArray, List.getElem_cons_succ, List.getElem_cons_zero, Act.put, List.setIfInBounds_toArray, List.set_cons_zero, List.set_cons_succ]
    refine wpAnyH_take (i := 16) (oi := _) (v := ?_) rfl (by kernel_rfl) (by kernel_rfl) (by kernel_rfl) (fun _ _ _ h => h) (Or.inl ⟨by rfl, ?_⟩) (by assumption) ?_
    rotate_left
    · intro w' hSw; (try dsimp only at hSw); go_simp; (try with_reducible rfl)
    try simp only [List.getElem_toArray, List.getElem_cons_succ, List.getElem_cons_zero, Act.put, List.setIfInBounds_toArray, List.set_cons_zero, List.set_cons_succ]
    refine wpAnyH_take (i := 17) (oi := _) (v := ?_) rfl (by kernel_rfl) (by kernel_rfl) (by kernel_rfl) (fun _ _ _ h => h) (Or.inl ⟨by rfl, ?_⟩) (by assumption) ?_
    rotate_left
    · intro w' hSw; (try dsimp only at hSw); go_simp; (try with_reducible rfl)
    try simp only [List.getElem_toArray, List.getElem_cons_succ, List.getElem_cons_zero, Act.put, List.setIfInBounds_toArray, List.set_cons_zero, List.set_cons_succ]
    refine wpAnyH_take (i := 18) (oi := _) (v := ?_) rfl (by kernel_rfl) (by kernel_rfl) (by kernel_rfl) (fun _ _ _ h => h) (Or.inl ⟨by rfl, ?_⟩) (by assumption) ?_
    rotate_left
    · intro w' hSw; (try dsimp only at hSw); go_simp; (try with_reducible rfl)
    try simp only [List.getElem_toArray, List.getElem_cons_succ, List.getElem_cons_zero, Act.put, List.setIfInBounds_toArray, List.set_cons_zero, List.set_cons_succ]
    refine wpAnyH_take (i := 19) (oi := _) (v := ?_) rfl (by kernel_rfl) (by kernel_rfl) (by kernel_rfl) (fun _ _ _ h => h) (Or.inl ⟨by rfl, ?_⟩) (by assumption) ?_
    rotate_left
    · intro w' hSw; (try dsimp only at hSw); go_simp; (try with_reducible rfl)
    try simp only [List.getElem_toArray, List.getElem_cons_succ, List.getElem_cons_zero, Act.put, List.setIfInBounds_toArray, List.set_cons_zero, List.set_cons_succ]
    refine wpAnyH_take (i := 20) (oi := _) (v := ?_) rfl (by kernel_rfl) (by kernel_rfl) (by kernel_rfl) (fun _ _ _ h => h) (Or.inl ⟨by rfl, ?_⟩) (by assumption) ?_
    rotate_left
    · intro w' hSw; (try dsimp only at hSw); go_simp; (try with_reducible rfl)
    try simp only [List.getElem_toArray, List.getElem_cons_succ, List.getElem_cons_zero, Act.put, List.setIfInBounds_toArray, List.set_cons_zero, List.set_cons_succ]
    refine wpAnyH_take (i := 21) (oi := _) (v := ?_) rfl (by kernel_rfl) (by kernel_rfl) (by kernel_rfl) (fun _ _ _ h => h) (Or.inl ⟨by rfl, ?_⟩) (by assumption) ?_
    rotate_left
    · intro w' hSw; (try dsimp only at hSw); go_simp; (try with_reducible rfl)
    try simp only [List.getElem_toArray, List.getElem_cons_succ, List.getElem_cons_zero, Act.put, List.setIfInBounds_toArray, List.set_cons_zero, List.set_cons_succ]
    refine wpAnyH_take (i := 22) (oi := _) (v := ?_) rfl (by kernel_rfl) (by kernel_rfl) (by kernel_rfl) (fun _ _ _ h => h) (Or.inl ⟨by rfl, ?_⟩) (by assumption) ?_
    rotate_left
    · intro w' hSw; (try dsimp only at hSw); go_simp; (try with_reducible rfl)
    try simp only [List.getElem_toArray, List.getElem_cons_succ, List.getElem_cons_zero, Act.put, List.setIfInBounds_toArray, List.set_cons_zero, List.set_cons_succ]
    refine wpAnyH_take (i := 23) (oi := _) (v := ?_) rfl (by kernel_rfl) (by kernel_rfl) (by kernel_rfl) (fun _ _ _ h => h) (Or.inl ⟨by rfl, ?_⟩) (by assumption) ?_
    rotate_left
    · intro w' hSw; (try dsimp only at hSw); go_simp; (try with_reducible rfl)
    try simp only [List.getElem_toArray, List.getElem_cons_succ, List.getElem_cons_zero, Act.put, List.setIfInBounds_toArray, List.set_cons_zero, List.set_cons_succ]
    refine wpAnyH_take (i := 24) (oi := _) (v := ?_) rfl (by kernel_rfl) (by kernel_rfl) (by kernel_rfl) (fun _ _ _ h => h) (Or.inl ⟨by rfl, ?_⟩) (by assumption) ?_
    rotate_left
    · intro w' hSw; (try dsimp only at hSw); go_simp; (try with_reducible rfl)
    try simp only [List.getElem_toArray, List.getElem_cons_succ, List.getElem_cons_zero, Act.put, List.setIfInBounds_toArray, List.set_cons_zero, List.set_cons_succ]
    refine wpAnyH_take (i := 25) (oi := _) (v := ?_) rfl (by kernel_rfl) (by kernel_rfl) (by kernel_rfl) (fun _ _ _ h => h) (Or.inl ⟨by rfl, ?_⟩) (by assumption) ?_
    rotate_left
    · intro w' hSw; (try dsimp only at hSw); go_simp; (try with_reducible rfl)
    try simp only [List.getElem_toArray, List.getElem_cons_succ, List.getElem_cons_zero, Act.put, List.setIfInBounds_toArray, List.set_cons_zero, List.set_cons_succ]
    refine wpAnyH_take (i := 26) (oi := _) (v := ?_) rfl (by kernel_rfl) (by kernel_rfl) (by kernel_rfl) (fun _ _ _ h => h) (Or.inl ⟨by rfl, ?_⟩) (by assumption) ?_
    rotate_left
    · intro w' hSw; (try dsimp only at hSw); go_simp; (try with_reducible rfl)
    try simp only [List.getElem_toArray, List.getElem_cons_succ, List.getElem_cons_zero, Act.put, List.setIfInBounds_toArray, List.set_cons_zero, List.set_cons_succ]
    refine wpAnyH_take (i := 27) (oi := _) (v := ?_) rfl (by kernel_rfl) (by kernel_rfl) (by kernel_rfl) (fun _ _ _ h => h) (Or.inl ⟨by rfl, ?_⟩) (by assumption) ?_
    rotate_left
    · intro w' hSw; (try dsimp only at hSw); go_simp; (try with_reducible rfl)
    try simp only [List.getElem_toArray, List.getElem_cons_succ, List.getElem_cons_zero, Act.put, List.setIfInBounds_toArray, List.set_cons_zero, List.set_cons_succ]
    refine wpAnyH_take (i := 28) (oi := _) (v := ?_) rfl (by kernel_rfl) (by kernel_rfl) (by kernel_rfl) (fun _ _ _ h => h) (Or.inl ⟨by rfl, ?_⟩) (by assumption) ?_
    rotate_left
    · intro w' hSw; (try dsimp only at hSw); go_simp; (try with_reducible rfl)
    try simp only [List.getElem_toArray, List.getElem_cons_succ, List.getElem_cons_zero, Act.put, List.setIfInBounds_toArray, List.set_cons_zero, List.set_cons_succ]
    refine wpAnyH_take (i := 29) (oi := _) (v := ?_) rfl (by kernel_rfl) (by kernel_rfl) (by kernel_rfl) (fun _ _ _ h => h) (Or.inl ⟨by rfl, ?_⟩) (by assumption) ?_
    rotate_left
    · intro w' hSw; (try dsimp only at hSw); go_simp; (try with_reducible rfl)
    try simp only [List.getElem_toArray, List.getElem_cons_succ, List.getElem_cons_zero, Act.put, List.setIfInBounds_toArray, List.set_cons_zero, List.set_cons_succ]
    refine wpAnyH_ready (rs := [30]) (by kernel_rfl) (by simp) ?_
    refine AllReadyH.cons (o := _) rfl (fun K' hK => ?_) AllReadyH.nil
    go_simp
    refine hK.out _ _ ?_ (fun hHeld2 => ?_)
    · (try dsimp only); with_reducible exact TA.out
    clear hK K'
    try simp only [List.getElem_toArray, List.getElem_cons_succ, List.getElem_cons_zero, Act.put, List.setIfInBounds_toArray, List.set_cons_zero, List.set_cons_succ]
    refine wpAnyH_ready (rs := [31]) (by kernel_rfl) (by simp) ?_
    refine AllReadyH.cons (o := _) rfl (fun K' hK => ?_) AllReadyH.nil
    go_simp
    refine hK.out _ _ ?_ (fun hHeld3 => ?_)
    · (try dsimp only); with_reducible exact TAB.out
    clear hK K'
    try simp only [List.getElem_toArray, List.getElem_cons_succ, List.getElem_cons_zero, Act.put, List.setIfInBounds_toArray, List.set_cons_zero, List.set_cons_succ]
    refine wpAnyH_done (by kernel_rfl) ?_ _
    refine NoPanic.normal ?_
    clear hHeld hHeld2 hHeld3
    go_wp2_with fail
    obtain ⟨⟨E1, E2, E3⟩, _⟩ := FIN.out
    refine bodyPost_ret (results_cell_cell (p := 4) (q := 5) (ty := 55) (ty2 := 50) (by kernel_rfl) _ _ (w.heap.size + 1) (w.heap.size + 1 + 1) _ _ rfl (ld7 E1.drew rfl) rfl (ld6R E2.drew rfl)) rfl ?_
    obtain ⟨hM4, hpp, hqq, hbb⟩ := HY.out
    have hf := HF.out
    subst hf
    refine ⟨b, kd, M, PP, QQ, BB, N, V, cn, cv, hk1, hk2, hM4, hpp, hqq, hbb, ?_, ?_, ?_, E3.drew⟩
    · rw [HSP.out]; rfl
    · exact HNV.out.1
    · exact HNV.out.2
end

section
open Go.RowKit

/-- a list of fields does not lie in a block that nowhere holds its first field -/
theorem reads_not {w : World} {B n g : Nat} {A : Option Addr} {x : Fld} {l : List Fld} {t : TypeId} {cs : Array Value} (h : Reads w B 2 A n (fldsC (x :: l))) (k : Blk w g t cs) (hcs : ∀ i : Nat, cs[i]? = some (.string (bs x.1)) → cs[i + 1]? = some (.string (bs x.2)) → False) : ∀ ad, A = some ad → ad.block ≠ g := by
  intro ad e hb
  obtain ⟨b, o, e2, _, h0, h1⟩ := h.fld 0 (by simp)
  rw [e2] at e
  injection e with e
  subst e
  simp only at hb
  subst hb
  rw [k.cell] at h0 h1
  simp only [Nat.zero_mul, Nat.add_zero, List.getElem_cons_zero] at h0 h1
  exact hcs o h0 h1
theorem bs_inj {a b : List UInt8} (h : bs a = bs b) : a = b := by rw [← bs_list a, h, bs_list]
/-- a request made nowhere holds the first field of an answer -/
theorem req_apart {M p q bo : List UInt8} (hM : fourM M) {x : Fld} (hx : x = (locN, hsecT) ∨ x = textF) : ∀ i : Nat, (#[.string (bs M), .string (bs (47 :: p)), .string (bs q), .string ⟨#[]⟩, .slice none 0 0, .string (bs bo)] : Array Value)[i]? = some (.string (bs x.1)) → (#[.string (bs M), .string (bs (47 :: p)), .string (bs q), .string ⟨#[]⟩, .slice none 0 0, .string (bs bo)] : Array Value)[i + 1]? = some (.string (bs x.2)) → False := by
  intro i h1 h2
  have hx1 : x.1 = locN ∨ x.1 = textF.1 := by rcases hx with rfl | rfl; exact .inl rfl; exact .inr rfl
  have hx2 : x.2 ≠ [] := by rcases hx with rfl | rfl <;> decide
  match i with
  | 0 =>
    simp only [List.getElem?_toArray, List.getElem?_cons_zero, Option.some.injEq, Value.string.injEq] at h1
    have := bs_inj h1
    rcases hx1 with e | e <;> rw [e] at this <;> rcases hM with rfl | rfl | rfl | rfl <;> revert this <;> decide
  | 1 =>
    simp only [List.getElem?_toArray, List.getElem?_cons_succ, List.getElem?_cons_zero, Option.some.injEq, Value.string.injEq] at h1
    have := bs_inj h1
    rcases hx1 with e | e <;> rw [e] at this <;> injection this with e1 <;> revert e1 <;> decide
  | 2 =>
    simp only [List.getElem?_toArray, List.getElem?_cons_succ, List.getElem?_cons_zero, Option.some.injEq, Value.string.injEq] at h2
    exact hx2 (bs_inj (a := []) h2).symm
  | 3 =>
    simp only [List.getElem?_toArray, List.getElem?_cons_succ, List.getElem?_cons_zero, Option.some.injEq, Value.string.injEq] at h1
    have := bs_inj (a := []) h1
    rcases hx1 with e | e <;> rw [e] at this <;> cases this
  | 4 => simp at h1
  | 5 => simp at h2
  | i + 6 => simp at h1
theorem hid_first {m : List UInt8} {k c : Int} {close : Bool} : ∃ (C : Int) (x : Fld) (l : List Fld) (Bd : List UInt8) (hd : Bool), hidR m k c (if k = 2 then hsecT else []) close = ⟨C, x :: l, Bd, close, hd⟩ ∧ (x = (locN, hsecT) ∨ x = textF) ∧ (x :: l).length ≤ 2 := by
  unfold hidR
  by_cases h : k = 2
  · rw [if_pos h, if_pos h]
    exact ⟨_, _, _, _, _, rfl, .inl rfl, by simp⟩
  · rw [if_neg h]
    exact ⟨_, _, _, _, _, rfl, .inr rfl, by simp⟩
theorem light_f00 {r : ReqP} (hm : r.method.length ≤ 4) (hp : r.path.length ≤ 41) (hq : r.query.length ≤ 40) (hbo : r.body.length ≤ 60) : LightF f00 r := light_made (b := false) (kd := 1) hm hp hq hbo
set_option maxRecDepth 100000 in
set_option maxHeartbeats 8000000 in
theorem HandlerHides_true (n m : Int) (r : ReqP) (host : ByteArray) (FA : Option Addr) (fn fc : Nat) (w : World) (h1 : -9223372036854775808 ≤ n ∧ n ≤ 9223372036854775807) (h2 : -9223372036854775808 ≤ m ∧ m ≤ 9223372036854775807) (hp : r.path.length ≤ 9223372036854775807) (hq : r.query.length ≤ 9223372036854775807) (hb : r.body.length ≤ 9223372036854775807) (hT : Tab42 w) (hSp : Spaces w) :
    Calls Tryd.prog 7 #[.int .i64 n, .int .i64 m, reqV r host FA fn fc] w fun e w' => e = .returned (.bool true) ∧ Below w.heap.size w w' := by
  have HT := Lib.hid (show ∀ X, Below w.heap.size w X → Tab42 X ∧ Spaces X from fun X hX => ⟨hT.below hX, hSp.below hX⟩)
  have CK := Lib.hid (fun X (hX : Below w.heap.size w X) => pKnown42 X (HT.out X hX).1 (HT.out X hX).2)
  have cM := fun X => pMade n r host FA fn fc X h1.1 h1.2 hp hq hb
  unfold MadePost fndV reqV at cM
  unfold reqV
  have CM := Lib.hid cM
  have cO := fun X => pOutcome m X h2.1 h2.2
  unfold OutPost at cO
  have CO := Lib.hid cO
  have B0 := Lib.hid ((Below.refl w.heap.size w).alloc (Nat.le_refl _) (.cells #[.string (bs r.method), .string (bs r.path), .string (bs r.query), .string host, .slice FA fn fc, .string (bs r.body)] 50))
  have K0 := Lib.hid (Blk.new w 50 #[.string (bs r.method), .string (bs r.path), .string (bs r.query), .string host, .slice FA fn fc, .string (bs r.body)])
  clear hT hSp cM cO h1 h2 hp hq hb
  go_enter Tryd.func7, Tryd.ntmps7
  go_wp2_with fail
  (with_reducible refine (CK.out _ B0.out).mono ?_); rintro e w1 ⟨rfl, g1⟩
  have G1 := Lib.hid (B0.out.trans (g1.mono B0.out.size))
  have K1 := Lib.hid (K0.out.below g1 K0.out.lt)
  clear g1 B0 K0 CK
  have c0 : w1.cell? ⟨w.heap.size, 0, none⟩ = some (.string (bs r.method)) := K1.out.cell 0
  have c1 : w1.cell? ⟨w.heap.size, 1, none⟩ = some (.string (bs r.path)) := K1.out.cell 1
  have c2 : w1.cell? ⟨w.heap.size, 2, none⟩ = some (.string (bs r.query)) := K1.out.cell 2
  have c3 : w1.cell? ⟨w.heap.size, 3, none⟩ = some (.string host) := K1.out.cell 3
  have c4 : w1.cell? ⟨w.heap.size, 4, none⟩ = some (.slice FA fn fc) := K1.out.cell 4
  have c5 : w1.cell? ⟨w.heap.size, 5, none⟩ = some (.string (bs r.body)) := K1.out.cell 5
  go_wp2_with fail
  (with_reducible refine (CM.out _).mono ?_); rintro e w2 ⟨b, kd0, M, p, q, bo, N, V, cn, cv, hk1, hk2, h4, hpp, hqq, hbb, rfl, rN, rV, g2⟩
  have hck := check_made b kd0 hk1 hk2
  have hlm := light_made (b := b) (kd := kd0) (r := ⟨M, 47 :: p, q, bo⟩) (four_len h4) (by simp; omega) hqq hbb
  obtain ⟨f, hf⟩ : ∃ f, madeF b kd0 = f := ⟨_, rfl⟩
  rw [hf] at rN rV hck hlm ⊢
  clear hf hk1 hk2
  have bX : Below w2.heap.size w2 ((w2.alloc (.cells #[.bool f.ok, .slice none f.segs.length 0, .int .i64 f.kind, .string (bs f.text), .slice N f.names.length cn, .slice V f.vals.length cv, .string (bs f.rest)] 55)).alloc (.cells #[.string (bs M), .string (bs (47 :: p)), .string (bs q), .string ⟨#[]⟩, .slice none 0 0, .string (bs bo)] 50)) := ((Below.refl _ _).alloc (Nat.le_refl _) _).alloc (by simp) _
  have kF := (Blk.new w2 55 #[.bool f.ok, .slice none f.segs.length 0, .int .i64 f.kind, .string (bs f.text), .slice N f.names.length cn, .slice V f.vals.length cv, .string (bs f.rest)]).alloc (.cells #[.string (bs M), .string (bs (47 :: p)), .string (bs q), .string ⟨#[]⟩, .slice none 0 0, .string (bs bo)] 50)
  have kQ := Blk.new (w2.alloc (.cells #[.bool f.ok, .slice none f.segs.length 0, .int .i64 f.kind, .string (bs f.text), .slice N f.names.length cn, .slice V f.vals.length cv, .string (bs f.rest)] 55)) 50 #[.string (bs M), .string (bs (47 :: p)), .string (bs q), .string ⟨#[]⟩, .slice none 0 0, .string (bs bo)]
  rw [show (w2.alloc (.cells #[.bool f.ok, .slice none f.segs.length 0, .int .i64 f.kind, .string (bs f.text), .slice N f.names.length cn, .slice V f.vals.length cv, .string (bs f.rest)] 55)).heap.size = w2.heap.size + 1 by simp] at kQ
  have KF := Lib.hid kF
  have KQ := Lib.hid kQ
  have G2 := Lib.hid ((G1.out.trans (g2.mono G1.out.size)).trans (bX.mono (G1.out.trans (g2.mono G1.out.size)).size))
  have RN := Lib.hid ((rN.below bX).more bX.size)
  have RV := Lib.hid ((rV.below bX).more bX.size)
  have HG := Lib.hid (show w.heap.size ≤ w2.heap.size from (G1.out.trans (g2.mono G1.out.size)).size)
  have HH := Lib.hid (And.intro hck (And.intro hlm (And.intro h4 (And.intro hpp (And.intro hqq hbb)))))
  clear bX kF kQ g2 rN rV hck hlm h4 hpp hqq hbb G1 K1 CM c0 c1 c2 c3 c4 c5
  go_wp2_with fail
  (with_reducible refine (CO.out _).mono ?_); rintro e w3 ⟨kd, c, why, ho1, ho2, ho3, rfl, g3⟩
  obtain ⟨loc, hloc⟩ : ∃ loc, (if kd = 2 then hsecT else []) = loc := ⟨_, rfl⟩
  rw [hloc]
  have bX : Below w3.heap.size w3 (w3.alloc (.cells #[.int .i64 kd, .string secT, .string ⟨#[]⟩, .int .i64 c, .string (bs loc), .int .i64 why] 64)) := (Below.refl _ _).alloc (Nat.le_refl _) _
  have KF3 := Lib.hid ((KF.out.below g3 KF.out.lt).alloc (.cells #[.int .i64 kd, .string secT, .string ⟨#[]⟩, .int .i64 c, .string (bs loc), .int .i64 why] 64))
  have KQ3 := Lib.hid ((KQ.out.below g3 KQ.out.lt).alloc (.cells #[.int .i64 kd, .string secT, .string ⟨#[]⟩, .int .i64 c, .string (bs loc), .int .i64 why] 64))
  have KO3 := Lib.hid (Blk.new w3 64 #[.int .i64 kd, .string secT, .string ⟨#[]⟩, .int .i64 c, .string (bs loc), .int .i64 why])
  have G3 := Lib.hid ((G2.out.trans (g3.mono G2.out.size)).trans (bX.mono (G2.out.trans (g3.mono G2.out.size)).size))
  have RN3 := Lib.hid (((RN.out.below g3).more g3.size |>.below bX).more bX.size)
  have RV3 := Lib.hid (((RV.out.below g3).more g3.size |>.below bX).more bX.size)
  clear bX g3 KF KQ G2 RN RV CO
  go_upto_region 4 with (fail)
  generalize w3.alloc (.cells #[.int .i64 kd, .string secT, .string ⟨#[]⟩, .int .i64 c, .string (bs loc), .int .i64 why] 64) = Z3 at KF3 KQ3 KO3 G3 RN3 RV3 ⊢
  have o0 : Z3.cell? ⟨w3.heap.size, 0, none⟩ = some (.int .i64 kd) := KO3.out.cell 0
  have o1 : Z3.cell? ⟨w3.heap.size, 1, none⟩ = some (.string secT) := KO3.out.cell 1
  have o2 : Z3.cell? ⟨w3.heap.size, 2, none⟩ = some (.string ⟨#[]⟩) := KO3.out.cell 2
  have o3 : Z3.cell? ⟨w3.heap.size, 3, none⟩ = some (.int .i64 c) := KO3.out.cell 3
  have o4 : Z3.cell? ⟨w3.heap.size, 4, none⟩ = some (.string (bs loc)) := KO3.out.cell 4
  have o5 : Z3.cell? ⟨w3.heap.size, 5, none⟩ = some (.int .i64 why) := KO3.out.cell 5
  by_cases hk1 : kd = 1
  · subst hk1
    clear ho3
    go_wp2_with fail
    go_ret
    exact ⟨rfl, G3.out⟩
  have hk1e : (kd == 1) = false := by rw [beq_eq_false_iff_ne]; exact hk1
  obtain ⟨C, x, l, Bd, hd, hR, hx, hl2⟩ := hid_first (m := M) (k := kd) (c := c) (close := false)
  rw [hloc] at hR
  have hC : C ≠ 200 := by have := hid_code (m := M) (loc := loc) (close := false) ho3; rw [hR] at this; exact this
  have hA : ∀ (f' : FoundP) (r' : ReqP), checkF f' = 0 → r'.method = M → answerT r' kd c loc f' false = (⟨C, x :: l, Bd, false, hd⟩, 0) := fun f' r' hf' hr' => by
    rw [ans_hid r' false (by omega) ho2 (fun e => ⟨ho3 e, by rw [← hloc, if_pos e]; exact hsec_may⟩) hf', hr', hR]
  obtain ⟨FL, hFL⟩ : ∃ FL, x :: l = FL := ⟨_, rfl⟩
  rw [hFL] at hA hl2
  have hlo : loc.length ≤ 100000 := by rw [← hloc]; split <;> decide
  have HA := Lib.hid hA
  have HX := Lib.hid (And.intro hx hFL)
  have HLO := Lib.hid hlo
  have hCe : (C == 200) = false := by rw [beq_eq_false_iff_ne]; exact hC
  have hCe2 : (C != 200) = true := by rw [bne_iff_ne]; exact hC
  clear hk1 ho1 ho2 ho3 hloc hR hx hFL hA hlo hC
  have T3 := HT.out Z3 G3.out
  have cA := pAnswer f ⟨M, 47 :: p, q, bo⟩ ⟨kd, secT, ⟨#[]⟩, c, loc, why⟩ none N V none 0 cn cv 0 0 ⟨#[]⟩ false Z3 HH.out.2.1 HLO.out RN3.out RV3.out T3.1 T3.2
  rw [ans_ok (HA.out f ⟨M, 47 :: p, q, bo⟩ HH.out.1 rfl)] at cA
  unfold reqV outV fndV at cA
  simp only at cA
  have CA := Lib.hid cA
  clear cA T3
  have f0 : Z3.cell? ⟨w2.heap.size, 0, none⟩ = some (.bool f.ok) := KF3.out.cell 0
  have f1 : Z3.cell? ⟨w2.heap.size, 1, none⟩ = some (.slice none f.segs.length 0) := KF3.out.cell 1
  have f2 : Z3.cell? ⟨w2.heap.size, 2, none⟩ = some (.int .i64 f.kind) := KF3.out.cell 2
  have f3 : Z3.cell? ⟨w2.heap.size, 3, none⟩ = some (.string (bs f.text)) := KF3.out.cell 3
  have f4 : Z3.cell? ⟨w2.heap.size, 4, none⟩ = some (.slice N f.names.length cn) := KF3.out.cell 4
  have f5 : Z3.cell? ⟨w2.heap.size, 5, none⟩ = some (.slice V f.vals.length cv) := KF3.out.cell 5
  have f6 : Z3.cell? ⟨w2.heap.size, 6, none⟩ = some (.string (bs f.rest)) := KF3.out.cell 6
  have q0 : Z3.cell? ⟨w2.heap.size + 1, 0, none⟩ = some (.string (bs M)) := KQ3.out.cell 0
  have q1 : Z3.cell? ⟨w2.heap.size + 1, 1, none⟩ = some (.string (bs (47 :: p))) := KQ3.out.cell 1
  have q2 : Z3.cell? ⟨w2.heap.size + 1, 2, none⟩ = some (.string (bs q)) := KQ3.out.cell 2
  have q3 : Z3.cell? ⟨w2.heap.size + 1, 3, none⟩ = some (.string ⟨#[]⟩) := KQ3.out.cell 3
  have q4 : Z3.cell? ⟨w2.heap.size + 1, 4, none⟩ = some (.slice none 0 0) := KQ3.out.cell 4
  have q5 : Z3.cell? ⟨w2.heap.size + 1, 5, none⟩ = some (.string (bs bo)) := KQ3.out.cell 5
  go_wp2_with fail
  (with_reducible refine (CA.out).mono ?_); rintro e w4 ⟨A1, c1, rfl, ra, g⟩
  have bX : Below w4.heap.size w4 (w4.alloc (.cells #[.int .i64 C, .slice A1 FL.length c1, .string (bs Bd), .bool false, .bool hd] 24)) := (Below.refl _ _).alloc (Nat.le_refl _) _
  have KQ4 := Lib.hid ((KQ3.out.below g KQ3.out.lt).alloc (.cells #[.int .i64 C, .slice A1 FL.length c1, .string (bs Bd), .bool false, .bool hd] 24))
  have KO4 := Lib.hid ((KO3.out.below g KO3.out.lt).alloc (.cells #[.int .i64 C, .slice A1 FL.length c1, .string (bs Bd), .bool false, .bool hd] 24))
  have KA4 := Lib.hid (Blk.new w4 24 #[.int .i64 C, .slice A1 FL.length c1, .string (bs Bd), .bool false, .bool hd])
  have RA4 := Lib.hid ((ra.below bX).more bX.size)
  have G4 := Lib.hid ((G3.out.trans (g.mono G3.out.size)).trans (bX.mono (G3.out.trans (g.mono G3.out.size)).size))
  clear bX g ra CA KF3 KQ3 KO3 G3 RN3 RV3 o0 o1 o2 o3 o4 o5 f0 f1 f2 f3 f4 f5 f6 q0 q1 q2 q3 q4 q5
  go_upto_region 7 with (fail)
  generalize w4.alloc (.cells #[.int .i64 C, .slice A1 FL.length c1, .string (bs Bd), .bool false, .bool hd] 24) = Z4 at KQ4 KO4 KA4 RA4 G4 ⊢
  have T4 := HT.out Z4 G4.out
  have cA := pAnswer f00 ⟨M, 47 :: p, q, bo⟩ ⟨kd, secT, ⟨#[]⟩, c, loc, why⟩ none none none none 0 0 0 0 0 ⟨#[]⟩ false Z4 (light_f00 (four_len HH.out.2.2.1) (by simp; have := HH.out.2.2.2.1; omega) HH.out.2.2.2.2.1 HH.out.2.2.2.2.2) HLO.out Reads.none_ Reads.none_ T4.1 T4.2
  rw [ans_ok (HA.out f00 ⟨M, 47 :: p, q, bo⟩ check_f00 rfl)] at cA
  unfold reqV outV fndV f00 at cA
  simp only at cA
  have CA2 := Lib.hid (show Calls Tryd.prog 27 #[.agg #[.string (bs M), .string (bs (47 :: p)), .string (bs q), .string ⟨#[]⟩, .slice none 0 0, .string (bs bo)], .agg #[.int .i64 kd, .string secT, .string ⟨#[]⟩, .int .i64 c, .string (bs loc), .int .i64 why], .agg #[.bool false, .slice none 0 0, .int .i64 0, .string ⟨#[]⟩, .slice none 0 0, .slice none 0 0, .string ⟨#[]⟩], .bool false] Z4 (fun e w' => ∃ A c, e = .returned (.tuple #[.agg #[.int .i64 C, .slice A FL.length c, .string (bs Bd), .bool false, .bool hd], .int .i64 0]) ∧ Reads w' w'.heap.size 2 A FL.length (fldsC FL) ∧ Below Z4.heap.size Z4 w') from cA)
  clear cA T4
  have q0 : Z4.cell? ⟨w2.heap.size + 1, 0, none⟩ = some (.string (bs M)) := KQ4.out.cell 0
  have q1 : Z4.cell? ⟨w2.heap.size + 1, 1, none⟩ = some (.string (bs (47 :: p))) := KQ4.out.cell 1
  have q2 : Z4.cell? ⟨w2.heap.size + 1, 2, none⟩ = some (.string (bs q)) := KQ4.out.cell 2
  have q3 : Z4.cell? ⟨w2.heap.size + 1, 3, none⟩ = some (.string ⟨#[]⟩) := KQ4.out.cell 3
  have q4 : Z4.cell? ⟨w2.heap.size + 1, 4, none⟩ = some (.slice none 0 0) := KQ4.out.cell 4
  have q5 : Z4.cell? ⟨w2.heap.size + 1, 5, none⟩ = some (.string (bs bo)) := KQ4.out.cell 5
  have o0 : Z4.cell? ⟨w3.heap.size, 0, none⟩ = some (.int .i64 kd) := KO4.out.cell 0
  have o1 : Z4.cell? ⟨w3.heap.size, 1, none⟩ = some (.string secT) := KO4.out.cell 1
  have o2 : Z4.cell? ⟨w3.heap.size, 2, none⟩ = some (.string ⟨#[]⟩) := KO4.out.cell 2
  have o3 : Z4.cell? ⟨w3.heap.size, 3, none⟩ = some (.int .i64 c) := KO4.out.cell 3
  have o4 : Z4.cell? ⟨w3.heap.size, 4, none⟩ = some (.string (bs loc)) := KO4.out.cell 4
  have o5 : Z4.cell? ⟨w3.heap.size, 5, none⟩ = some (.int .i64 why) := KO4.out.cell 5
  go_wp2_with fail
  (with_reducible refine (CA2.out).mono ?_); rintro e w5 ⟨A2, c2, rfl, ra, g⟩
  have bX : Below w5.heap.size w5 (w5.alloc (.cells #[.int .i64 C, .slice A2 FL.length c2, .string (bs Bd), .bool false, .bool hd] 24)) := (Below.refl _ _).alloc (Nat.le_refl _) _
  have KQ5 := Lib.hid ((KQ4.out.below g KQ4.out.lt).alloc (.cells #[.int .i64 C, .slice A2 FL.length c2, .string (bs Bd), .bool false, .bool hd] 24))
  have KO5 := Lib.hid ((KO4.out.below g KO4.out.lt).alloc (.cells #[.int .i64 C, .slice A2 FL.length c2, .string (bs Bd), .bool false, .bool hd] 24))
  have KA5 := Lib.hid ((KA4.out.below g KA4.out.lt).alloc (.cells #[.int .i64 C, .slice A2 FL.length c2, .string (bs Bd), .bool false, .bool hd] 24))
  have RA5 := Lib.hid (((RA4.out.below g).more g.size |>.below bX).more bX.size)
  have KB5 := Lib.hid (Blk.new w5 24 #[.int .i64 C, .slice A2 FL.length c2, .string (bs Bd), .bool false, .bool hd])
  have RB5 := Lib.hid ((ra.below bX).more bX.size)
  have G5 := Lib.hid ((G4.out.trans (g.mono G4.out.size)).trans (bX.mono (G4.out.trans (g.mono G4.out.size)).size))
  clear bX g ra CA2 KQ4 KO4 KA4 RA4 G4 o0 o1 o2 o3 o4 o5 q0 q1 q2 q3 q4 q5
  go_upto_region 8 with (fail)
  generalize w5.alloc (.cells #[.int .i64 C, .slice A2 FL.length c2, .string (bs Bd), .bool false, .bool hd] 24) = Z5 at KQ5 KO5 KA5 RA5 KB5 RB5 G5 ⊢
  have nA : ∀ ad, A1 = some ad → ad.block ≠ w2.heap.size + 1 := by
    have h := RA5.out
    rw [← HX.out.2] at h
    exact reads_not h KQ5.out (req_apart HH.out.2.2.1 HX.out.1)
  have nB : ∀ ad, A2 = some ad → ad.block ≠ w2.heap.size + 1 := by
    have h := RB5.out
    rw [← HX.out.2] at h
    exact reads_not h KQ5.out (req_apart HH.out.2.2.1 HX.out.1)
  have nO : w3.heap.size ≠ w2.heap.size + 1 := KO5.out.ne_ KQ5.out (by decide)
  have nKA : w4.heap.size ≠ w2.heap.size + 1 := KA5.out.ne_ KQ5.out (by decide)
  have nKB : w5.heap.size ≠ w2.heap.size + 1 := KB5.out.ne_ KQ5.out (by decide)
  have kq := ((KQ5.out.set_ 5 (.string ⟨#[]⟩)).set_ 1 (.string ⟨#[47]⟩)).set_ 2 (.string ⟨#[]⟩)
  have eq6 : (((#[.string (bs M), .string (bs (47 :: p)), .string (bs q), .string ⟨#[]⟩, .slice none 0 0, .string (bs bo)] : Array Value).setIfInBounds 5 (.string ⟨#[]⟩)).setIfInBounds 1 (.string ⟨#[47]⟩)).setIfInBounds 2 (.string ⟨#[]⟩) = #[.string (bs M), .string ⟨#[47]⟩, .string ⟨#[]⟩, .string ⟨#[]⟩, .slice none 0 0, .string ⟨#[]⟩] := by simp
  rw [eq6] at kq
  have KQ6 := Lib.hid kq
  have KO6 := Lib.hid (((KO5.out.far (p := ⟨w2.heap.size + 1, 5, none⟩) nO (.string ⟨#[]⟩)).far (p := ⟨w2.heap.size + 1, 1, none⟩) nO (.string ⟨#[47]⟩)).far (p := ⟨w2.heap.size + 1, 2, none⟩) nO (.string ⟨#[]⟩))
  have KA6 := Lib.hid (((KA5.out.far (p := ⟨w2.heap.size + 1, 5, none⟩) nKA (.string ⟨#[]⟩)).far (p := ⟨w2.heap.size + 1, 1, none⟩) nKA (.string ⟨#[47]⟩)).far (p := ⟨w2.heap.size + 1, 2, none⟩) nKA (.string ⟨#[]⟩))
  have KB6 := Lib.hid (((KB5.out.far (p := ⟨w2.heap.size + 1, 5, none⟩) nKB (.string ⟨#[]⟩)).far (p := ⟨w2.heap.size + 1, 1, none⟩) nKB (.string ⟨#[47]⟩)).far (p := ⟨w2.heap.size + 1, 2, none⟩) nKB (.string ⟨#[]⟩))
  have bS := (((Below.refl 0 Z5).setCell (p := ⟨w2.heap.size + 1, 5, none⟩) (Nat.zero_le _) (.string ⟨#[]⟩)).setCell (p := ⟨w2.heap.size + 1, 1, none⟩) (Nat.zero_le _) (.string ⟨#[47]⟩)).setCell (p := ⟨w2.heap.size + 1, 2, none⟩) (Nat.zero_le _) (.string ⟨#[]⟩)
  have hQw : w.heap.size ≤ w2.heap.size + 1 := by have := KQ5.out.lt; have := HG.out; omega
  have G6 := Lib.hid (((G5.out.setCell (p := ⟨w2.heap.size + 1, 5, none⟩) hQw (.string ⟨#[]⟩)).setCell (p := ⟨w2.heap.size + 1, 1, none⟩) hQw (.string ⟨#[47]⟩)).setCell (p := ⟨w2.heap.size + 1, 2, none⟩) hQw (.string ⟨#[]⟩))
  have RA6 := Lib.hid ((far1 (i := 2) (far1 (i := 1) (far1 (i := 5) RA5.out nA (.string ⟨#[]⟩)) nA (.string ⟨#[47]⟩)) nA (.string ⟨#[]⟩)).more bS.size)
  have RB6 := Lib.hid ((far1 (i := 2) (far1 (i := 1) (far1 (i := 5) RB5.out nB (.string ⟨#[]⟩)) nB (.string ⟨#[47]⟩)) nB (.string ⟨#[]⟩)).more bS.size)
  have q0 : Z5.cell? ⟨w2.heap.size + 1, 0, none⟩ = some (.string (bs M)) := KQ5.out.cell 0
  have q1 : Z5.cell? ⟨w2.heap.size + 1, 1, none⟩ = some (.string (bs (47 :: p))) := KQ5.out.cell 1
  have q2 : Z5.cell? ⟨w2.heap.size + 1, 2, none⟩ = some (.string (bs q)) := KQ5.out.cell 2
  have q3 : Z5.cell? ⟨w2.heap.size + 1, 3, none⟩ = some (.string ⟨#[]⟩) := KQ5.out.cell 3
  have q4 : Z5.cell? ⟨w2.heap.size + 1, 4, none⟩ = some (.slice none 0 0) := KQ5.out.cell 4
  have q5 : Z5.cell? ⟨w2.heap.size + 1, 5, none⟩ = some (.string (bs bo)) := KQ5.out.cell 5
  have z1 := KQ5.out.frozen 1
  have z2 := KQ5.out.frozen 2
  have z5 := KQ5.out.frozen 5
  clear nA nB nO nKA nKB kq eq6 bS KQ5 KO5 KA5 KB5 RA5 RB5 G5
  go_upto_region 9 with (fail)
  generalize ((Z5.setCell ⟨w2.heap.size + 1, 5, none⟩ (.string ⟨#[]⟩)).setCell ⟨w2.heap.size + 1, 1, none⟩ (.string ⟨#[47]⟩)).setCell ⟨w2.heap.size + 1, 2, none⟩ (.string ⟨#[]⟩) = Z6 at KQ6 KO6 KA6 KB6 RA6 RB6 G6 ⊢
  clear q0 q1 q2 q3 q4 q5 z1 z2 z5
  have T6 := HT.out Z6 G6.out
  have cA := pAnswer f00 ⟨M, [47], [], []⟩ ⟨kd, secT, ⟨#[]⟩, c, loc, why⟩ none none none none 0 0 0 0 0 ⟨#[]⟩ false Z6 (light_f00 (four_len HH.out.2.2.1) (by simp) (by simp) (by simp)) HLO.out Reads.none_ Reads.none_ T6.1 T6.2
  rw [ans_ok (HA.out f00 ⟨M, [47], [], []⟩ check_f00 rfl)] at cA
  unfold reqV outV fndV f00 at cA
  simp only at cA
  have CA3 := Lib.hid (show Calls Tryd.prog 27 #[.agg #[.string (bs M), .string ⟨#[47]⟩, .string ⟨#[]⟩, .string ⟨#[]⟩, .slice none 0 0, .string ⟨#[]⟩], .agg #[.int .i64 kd, .string secT, .string ⟨#[]⟩, .int .i64 c, .string (bs loc), .int .i64 why], .agg #[.bool false, .slice none 0 0, .int .i64 0, .string ⟨#[]⟩, .slice none 0 0, .slice none 0 0, .string ⟨#[]⟩], .bool false] Z6 (fun e w' => ∃ A c, e = .returned (.tuple #[.agg #[.int .i64 C, .slice A FL.length c, .string (bs Bd), .bool false, .bool hd], .int .i64 0]) ∧ Reads w' w'.heap.size 2 A FL.length (fldsC FL) ∧ Below Z6.heap.size Z6 w') from cA)
  clear cA T6
  have q0 : Z6.cell? ⟨w2.heap.size + 1, 0, none⟩ = some (.string (bs M)) := KQ6.out.cell 0
  have q1 : Z6.cell? ⟨w2.heap.size + 1, 1, none⟩ = some (.string ⟨#[47]⟩) := KQ6.out.cell 1
  have q2 : Z6.cell? ⟨w2.heap.size + 1, 2, none⟩ = some (.string ⟨#[]⟩) := KQ6.out.cell 2
  have q3 : Z6.cell? ⟨w2.heap.size + 1, 3, none⟩ = some (.string ⟨#[]⟩) := KQ6.out.cell 3
  have q4 : Z6.cell? ⟨w2.heap.size + 1, 4, none⟩ = some (.slice none 0 0) := KQ6.out.cell 4
  have q5 : Z6.cell? ⟨w2.heap.size + 1, 5, none⟩ = some (.string ⟨#[]⟩) := KQ6.out.cell 5
  have o0 : Z6.cell? ⟨w3.heap.size, 0, none⟩ = some (.int .i64 kd) := KO6.out.cell 0
  have o1 : Z6.cell? ⟨w3.heap.size, 1, none⟩ = some (.string secT) := KO6.out.cell 1
  have o2 : Z6.cell? ⟨w3.heap.size, 2, none⟩ = some (.string ⟨#[]⟩) := KO6.out.cell 2
  have o3 : Z6.cell? ⟨w3.heap.size, 3, none⟩ = some (.int .i64 c) := KO6.out.cell 3
  have o4 : Z6.cell? ⟨w3.heap.size, 4, none⟩ = some (.string (bs loc)) := KO6.out.cell 4
  have o5 : Z6.cell? ⟨w3.heap.size, 5, none⟩ = some (.int .i64 why) := KO6.out.cell 5
  go_wp2_with fail
  (with_reducible refine (CA3.out).mono ?_); rintro e w7 ⟨A3, c3, rfl, ra, g⟩
  have bX : Below w7.heap.size w7 (w7.alloc (.cells #[.int .i64 C, .slice A3 FL.length c3, .string (bs Bd), .bool false, .bool hd] 24)) := (Below.refl _ _).alloc (Nat.le_refl _) _
  have KA7 := Lib.hid ((KA6.out.below g KA6.out.lt).alloc (.cells #[.int .i64 C, .slice A3 FL.length c3, .string (bs Bd), .bool false, .bool hd] 24))
  have KB7 := Lib.hid ((KB6.out.below g KB6.out.lt).alloc (.cells #[.int .i64 C, .slice A3 FL.length c3, .string (bs Bd), .bool false, .bool hd] 24))
  have RA7 := Lib.hid (((RA6.out.below g).more g.size |>.below bX).more bX.size)
  have RB7 := Lib.hid (((RB6.out.below g).more g.size |>.below bX).more bX.size)
  have KC7 := Lib.hid (Blk.new w7 24 #[.int .i64 C, .slice A3 FL.length c3, .string (bs Bd), .bool false, .bool hd])
  have RC7 := Lib.hid ((ra.below bX).more bX.size)
  have G7 := Lib.hid ((G6.out.trans (g.mono G6.out.size)).trans (bX.mono (G6.out.trans (g.mono G6.out.size)).size))
  clear bX g ra CA3 KQ6 KO6 KA6 KB6 RA6 RB6 G6 o0 o1 o2 o3 o4 o5 q0 q1 q2 q3 q4 q5
  go_upto_region 10 with (fail)
  generalize w7.alloc (.cells #[.int .i64 C, .slice A3 FL.length c3, .string (bs Bd), .bool false, .bool hd] 24) = Z7 at KA7 KB7 KC7 RA7 RB7 RC7 G7 ⊢
  have cS := pSame42 ⟨C, FL, Bd, false, hd⟩ A1 A2 FL.length FL.length c1 c2 Z7 RA7.out RB7.out (by omega)
  unfold rspV at cS
  simp only at cS
  have CS := Lib.hid cS
  clear cS
  have a0 : Z7.cell? ⟨w4.heap.size, 0, none⟩ = some (.int .i64 C) := KA7.out.cell 0
  have a1 : Z7.cell? ⟨w4.heap.size, 1, none⟩ = some (.slice A1 FL.length c1) := KA7.out.cell 1
  have a2 : Z7.cell? ⟨w4.heap.size, 2, none⟩ = some (.string (bs Bd)) := KA7.out.cell 2
  have a3 : Z7.cell? ⟨w4.heap.size, 3, none⟩ = some (.bool false) := KA7.out.cell 3
  have a4 : Z7.cell? ⟨w4.heap.size, 4, none⟩ = some (.bool hd) := KA7.out.cell 4
  have b0 : Z7.cell? ⟨w5.heap.size, 0, none⟩ = some (.int .i64 C) := KB7.out.cell 0
  have b1 : Z7.cell? ⟨w5.heap.size, 1, none⟩ = some (.slice A2 FL.length c2) := KB7.out.cell 1
  have b2 : Z7.cell? ⟨w5.heap.size, 2, none⟩ = some (.string (bs Bd)) := KB7.out.cell 2
  have b3 : Z7.cell? ⟨w5.heap.size, 3, none⟩ = some (.bool false) := KB7.out.cell 3
  have b4 : Z7.cell? ⟨w5.heap.size, 4, none⟩ = some (.bool hd) := KB7.out.cell 4
  go_wp2_with fail
  (with_reducible refine (CS.out).mono ?_); rintro e w8 ⟨rfl, g⟩
  have KA8 := Lib.hid (KA7.out.below g KA7.out.lt)
  have KB8 := Lib.hid (KB7.out.below g KB7.out.lt)
  have KC8 := Lib.hid (KC7.out.below g KC7.out.lt)
  have cS := pSame42 ⟨C, FL, Bd, false, hd⟩ A2 A3 FL.length FL.length c2 c3 w8 ((RB7.out.below g).more g.size) ((RC7.out.below g).more g.size) (by omega)
  unfold rspV at cS
  simp only at cS
  have CS2 := Lib.hid cS
  have G8 := Lib.hid (G7.out.trans (g.mono G7.out.size))
  clear cS CS g KA7 KB7 KC7 RA7 RB7 RC7 G7 a0 a1 a2 a3 a4 b0 b1 b2 b3 b4
  have b0 : w8.cell? ⟨w5.heap.size, 0, none⟩ = some (.int .i64 C) := KB8.out.cell 0
  have b1 : w8.cell? ⟨w5.heap.size, 1, none⟩ = some (.slice A2 FL.length c2) := KB8.out.cell 1
  have b2 : w8.cell? ⟨w5.heap.size, 2, none⟩ = some (.string (bs Bd)) := KB8.out.cell 2
  have b3 : w8.cell? ⟨w5.heap.size, 3, none⟩ = some (.bool false) := KB8.out.cell 3
  have b4 : w8.cell? ⟨w5.heap.size, 4, none⟩ = some (.bool hd) := KB8.out.cell 4
  have d0 : w8.cell? ⟨w7.heap.size, 0, none⟩ = some (.int .i64 C) := KC8.out.cell 0
  have d1 : w8.cell? ⟨w7.heap.size, 1, none⟩ = some (.slice A3 FL.length c3) := KC8.out.cell 1
  have d2 : w8.cell? ⟨w7.heap.size, 2, none⟩ = some (.string (bs Bd)) := KC8.out.cell 2
  have d3 : w8.cell? ⟨w7.heap.size, 3, none⟩ = some (.bool false) := KC8.out.cell 3
  have d4 : w8.cell? ⟨w7.heap.size, 4, none⟩ = some (.bool hd) := KC8.out.cell 4
  go_wp2_with fail
  (with_reducible refine (CS2.out).mono ?_); rintro e w9 ⟨rfl, g⟩
  have KA9 := KA8.out.below g KA8.out.lt
  have a0 : w9.cell? ⟨w4.heap.size, 0, none⟩ = some (.int .i64 C) := KA9.cell 0
  have G9 := Lib.hid (G8.out.trans (g.mono G8.out.size))
  clear CS2 g KA8 KB8 KC8 KA9 b0 b1 b2 b3 b4 d0 d1 d2 d3 d4
  go_wp2_with fail
  go_ret
  exact ⟨rfl, G9.out⟩
end
end Go.Proofs.YthhlnpfcpgfcfaaDoor
