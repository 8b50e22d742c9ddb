/-
  Words for memory that the walks of this seat use: a slice that reads as a list, a block that is known whole, append with any source, frames behind draws. Lemmas of no program. A loop over an iterator that keeps a state of its own in cells of the heap: the law, over a word (St) for the iterator's own steps between two rounds. Lemmas of no program. Rows that a call owns: kept by what leaves old memory alone; one element more. Lemmas of no program. Plain facts on sets of bytes as four words. No program in sight. Plain facts on texts: cutting at one byte, trimming blanks at both ends. No program in sight. The contracts of package byteset that tokens want: Has, Of, Union. The contracts of package byteset that tokens want: Not, Common, All. The contract of byteset.All: are all bytes of a text in a set. The contract of byteset.Ranges, where no range is empty. Sets as maps of bools that the call makes: the look-up, the length.
-/
import Derived.WalkKit
import Derived.WalkSpells
import Derived.WalkLawsBesides
import Derived.Below
import Derived.Laws.OwnMore
import Derived.Laws.Rows
import Derived.Deep.AppendLies
import Derived.Deep.Draws
import Derived.Deep.OwnRows
import Derived.Maps.AppendAt
import Derived.RegionTactic
import Derived.OwnWalk
import Derived.Laws.AppendOwn
import Derived.ChangeSame
import Derived.Lib.Hide
import Derived.Laws.IdiomStrings
import Derived.RangeFuncBox
import Derived.RangeFuncLeaves
import Derived.Scope
import Derived.WalkMore
import Derived.OwnWalkIn
import Derived.Lib.SplitLaws
import Derived.Lib.SlTrimSet
import Derived.Test.YtencphfhpnljlaaGreatDoorProg
import Derived.Outline
import Derived.Handy
import Derived.Laws.Bits64b
import Derived.Laws.Bits64
import Derived.BigRegion
import Derived.Laws.BitsAllLaws
import Derived.Deep.QuietTactic
import Derived.BigQuiet
import Derived.Deep.RegionHeld3
import Derived.Laws.StructEq
import Derived.Laws.ResultCell
import Derived.Deep.RegionWith
import Derived.Maps.OwnSet
namespace Go.Proofs.YtencphfhpnljlaaGreatDoor

section
open Go.RowKit Go.WideShapes Go.ChangeShapes

theorem ret_int {k : IntKind} {a b : Int} (h : a = b) : Ending.returned (.int k a) = .returned (.int k b) := by rw [h]
theorem ret_int2 {k k' : IntKind} {a b a' b' : Int} (h : a = a') (h' : b = b') : Ending.returned (.tuple #[.int k a, .int k' b]) = .returned (.tuple #[.int k a', .int k' b']) := by rw [h, h']
theorem ret_bool {a b : Bool} (h : a = b) : Ending.returned (.bool a) = .returned (.bool b) := by rw [h]
theorem ret_str {a b : ByteArray} (h : a = b) : Ending.returned (.string a) = .returned (.string b) := by rw [h]
theorem block_of_add (a : Addr) (n : Nat) : (a.add n).block = a.block := by unfold Addr.add; split <;> rfl
theorem add_of_add (a : Addr) (i j : Nat) : (a.add i).add j = a.add (i + j) := by
  unfold Addr.add
  by_cases hi : i = 0 <;> by_cases hj : j = 0 <;> simp [hi, hj, Nat.add_assoc]

def Reads (w : World) (B size : Nat) (A : Option Addr) (n : Nat) (xs : List Value) : Prop :=
  xs.length = n * size ∧ (0 < n → ∃ ad, A = some ad ∧ ad.block < B ∧ ∀ j u, xs[j]? = some u → w.cell? (ad.add j) = some u)

section
variable {w w' : World} {B B' size n : Nat} {A : Option Addr} {xs : List Value}
theorem Reads.none_ : Reads w B size A 0 [] := ⟨by simp, fun h => absurd h (by omega)⟩
theorem Reads.at_ {k : Nat} (h : Reads w B 1 A n xs) (hk : k < n) : ∃ ad u, A = some ad ∧ ad.block < B ∧ xs[k]? = some u ∧ w.cell? (ad.add k) = some u := by
  obtain ⟨ad, e, hb, hc⟩ := h.2 (by omega)
  have hl : k < xs.length := by have := h.1; omega
  exact ⟨ad, xs[k], e, hb, List.getElem?_eq_getElem hl, hc k _ (List.getElem?_eq_getElem hl)⟩
theorem Reads.keep (h : Reads w B size A n xs) (hk : ∀ p : Addr, p.block < B → w'.cell? p = w.cell? p) : Reads w' B size A n xs :=
  ⟨h.1, fun hn => by
    obtain ⟨ad, e, hb, hc⟩ := h.2 hn
    exact ⟨ad, e, hb, fun j u hu => (hk _ (by rw [block_of_add]; exact hb)).trans (hc j u hu)⟩⟩
theorem Reads.more (h : Reads w B size A n xs) (hB : B ≤ B') : Reads w B' size A n xs :=
  ⟨h.1, fun hn => by
    obtain ⟨ad, e, hb, hc⟩ := h.2 hn
    exact ⟨ad, e, by omega, hc⟩⟩
theorem Reads.below (h : Reads w B size A n xs) (hb : Below B w w') : Reads w' B size A n xs := h.keep fun _ hp => hb.cell hp
theorem Reads.drew (h : Reads w B size A n xs) : Reads w.drew B size A n xs := h
theorem Reads.drewN (h : Reads w B size A n xs) (k : Nat) : Reads (w.drewN k) B size A n xs := h
theorem Reads.alloc (h : Reads w B size A n xs) (hB : B ≤ w.heap.size) (o : Obj) : Reads (w.alloc o) B size A n xs := h.keep fun p hp => World.cell?_alloc_lt w o p (by omega)
theorem Reads.setCell (h : Reads w B size A n xs) {p : Addr} (hB : B ≤ p.block) (u : Value) : Reads (w.setCell p u) B size A n xs :=
  h.keep fun q hq => World.cell?_setCell_other w p q u (fun e => by subst e; omega)
theorem Reads.grown (h : Reads w B size A n xs) {row : Option Nat} (hg : w.grownBy w' row) (hB : B ≤ w.heap.size) (hr : ∀ g, row = some g → B ≤ g) : Reads w' B size A n xs :=
  h.keep fun p hp => World.cell?_of_block (hg.block p.block (by omega) (fun e => by have := hr _ e.symm; omega))
theorem Reads.cut (h : Reads w B size A n xs) {k cap : Nat} (hk : k ≤ n) (hc : n ≤ cap) :
    Reads w B size (if cap = k then A else A.map (·.add (k * size))) (n - k) (xs.drop (k * size)) := by
  refine ⟨by rw [List.length_drop, h.1, Nat.sub_mul], fun hn => ?_⟩
  obtain ⟨ad, rfl, hb, hcell⟩ := h.2 (by omega)
  rw [if_neg (by omega)]
  refine ⟨ad.add (k * size), rfl, by rw [block_of_add]; exact hb, fun j u hu => ?_⟩
  rw [add_of_add]
  exact hcell _ u (by rw [← hu, List.getElem?_drop])
theorem Reads.of_own {base : Nat} {e : TypeId} {c : Nat} (h : w.ownsRow base e size (.slice A n c) n xs) : Reads w w.heap.size size A n xs := by
  refine ⟨h.1, fun hn => ?_⟩
  obtain ⟨g, cap, hv, _, hlt⟩ := h.form hn
  have hA : A = some ⟨g, 0, none⟩ := by injection hv
  subst hA
  exact ⟨_, rfl, hlt, h.cells (g := g) rfl⟩
end

def Blk (w : World) (g : Nat) (t : TypeId) (cs : Array Value) : Prop := w.heap[g]? = some (.cells cs t (0, 0))

section
variable {w w' : World} {g : Nat} {t : TypeId} {cs : Array Value}
theorem Blk.lt (h : Blk w g t cs) : g < w.heap.size := by
  rcases Nat.lt_or_ge g w.heap.size with hlt | hge
  · exact hlt
  · unfold Blk at h; rw [Array.getElem?_eq_none hge] at h; cases h
theorem Blk.cell (h : Blk w g t cs) (i : Nat) : w.cell? ⟨g, i, none⟩ = cs[i]? := cell_of_row w g i cs t (0, 0) h
theorem Blk.frozen (h : Blk w g t cs) (i : Nat) : w.frozen? ⟨g, i, none⟩ = false := by
  unfold Blk at h
  simp [World.frozen?, h]
theorem Blk.new (w : World) (t : TypeId) (cs : Array Value) : Blk (w.alloc (.cells cs t)) w.heap.size t cs := heap_alloc_new w _
theorem Blk.drew (h : Blk w g t cs) : Blk w.drew g t cs := h
theorem Blk.drewN (h : Blk w g t cs) (n : Nat) : Blk (w.drewN n) g t cs := h
theorem Blk.alloc (h : Blk w g t cs) (o : Obj) : Blk (w.alloc o) g t cs := (Below.heap_alloc w o g h.lt).trans h
theorem Blk.set_ (h : Blk w g t cs) (i : Nat) (u : Value) : Blk (w.setCell ⟨g, i, none⟩ u) g t (cs.setIfInBounds i u) := by
  unfold Blk at h ⊢
  simp [World.setCell, Array.getElem?_modify, h]
theorem Blk.far (h : Blk w g t cs) {p : Addr} (hp : g ≠ p.block) (u : Value) : Blk (w.setCell p u) g t cs := (Below.heap_setCell w p u g hp).trans h
theorem Blk.below {B : Nat} (h : Blk w g t cs) (hb : Below B w w') (hg : g < B) : Blk w' g t cs := (hb.block g hg).trans h
theorem Blk.grown {row : Option Nat} (h : Blk w g t cs) (hb : w.grownBy w' row) (hg : some g ≠ row) : Blk w' g t cs := (hb.block g h.lt hg).trans h
theorem Blk.ne_ {g' : Nat} {t' : TypeId} {cs' : Array Value} (h : Blk w g t cs) (h' : Blk w g' t' cs') (hne : t ≠ t') : g ≠ g' := by
  rintro rfl
  unfold Blk at h h'
  rw [h] at h'
  injection h' with h'
  injection h' with _ ht
  exact hne ht
theorem own_blk_ne {base : Nat} {e : TypeId} {size n : Nat} {v : Value} {xs : List Value} (h : w.ownsRow base e size v n xs) (hg : Blk w g t cs) (hne : e ≠ t) : v.ownBlock ≠ some g := by
  rcases h.2 with ⟨rfl, _⟩ | ⟨g', cap, cur, rfl, _, hh, _⟩
  · simp [Value.ownBlock]
  · intro he
    have : g' = g := by simpa [Value.ownBlock] using he
    subst this
    exact Blk.ne_ (t := e) hh hg hne rfl
end

section
variable {P : Program} (w : World)

theorem run_append_of_nil (base : Nat) (t ty e : TypeId) (i : TypeInfo) (size : Nat) (ht : P.underlying t = some (.slice e)) (hi : P.info? e = some i)
    (v : Value) (n : Nat) (xs : List Value) (hown : w.ownsRow base e size v n xs) (c : Nat) : (Builtin.append_ #[t, t] ty #[v, .slice none 0 c]).run P w = .ok v w := by
  rcases hown.2 with ⟨rfl, rfl⟩ | ⟨g, cap, cur, rfl, _, _, hnc, _⟩
  · simp [Builtin.append_, run_underlying ht, sizeOf, typeInfo, hi, Builtin.lenOf, Builtin.firstCells]
  · simp [Builtin.append_, run_underlying ht, sizeOf, typeInfo, hi, Builtin.lenOf, Builtin.firstCells, hnc, storeCells]

theorem run_append_any (base : Nat) (t ty e : TypeId) (i : TypeInfo) (z : Value) (size bytes : Nat) (ht : P.underlying t = some (.slice e)) (hi : P.info? e = some i) (hz : i.zero = some z)
    (hsize : i.size = size) (hby : i.bytes = bytes) (hzs : z.cells.size = size) (hsz : 0 < size)
    (v : Value) (n : Nat) (xs : List Value) (hown : w.ownsRow base e size v n xs)
    (B : Nat) (A : Option Addr) (m c : Nat) (news : List Value) (hr : Reads w B size A m news) (h1 : ∀ u ∈ news, u.oneCell' = true)
    (h63 : n + m ≤ maxLen) (hbytes : (n + m) * bytes ≤ 140737488355328) (hbase : base ≤ w.heap.size) :
    ∃ v' w', (Builtin.append_ #[t, t] ty #[v, .slice A m c]).run P w = .ok v' w' ∧ w'.ownsRow base e size v' (n + m) (xs ++ news) ∧ w.grownBy w' v.ownBlock ∧
      (v'.ownBlock = v.ownBlock ∨ v'.ownBlock = some w.heap.size) := by
  rcases A with _ | ad
  · have hm : m = 0 := by
      rcases Nat.eq_zero_or_pos m with h0 | h0
      · exact h0
      · obtain ⟨ad, h, _⟩ := hr.2 h0
        cases h
    subst hm
    have hn : news = [] := List.eq_nil_of_length_eq_zero (by simpa using hr.1)
    subst hn
    exact ⟨v, w, run_append_of_nil w base t ty e i size ht hi v n xs hown c, by simpa using hown, World.grownBy.refl w _, .inl rfl⟩
  · have hcells : ∀ j u, news[j]? = some u → w.cell? (ad.add j) = some u := by
      intro j u hu
      rcases Nat.eq_zero_or_pos m with h0 | h0
      · subst h0
        have hn : news = [] := List.eq_nil_of_length_eq_zero (by simpa using hr.1)
        subst hn
        simp at hu
      · obtain ⟨ad', h, _, hc⟩ := hr.2 h0
        injection h with h
        subst h
        exact hc j u hu
    obtain ⟨v', w', hrun, h2, h3, _, h5⟩ := run_append_own_at (P := P) w base t ty e i z size bytes ht hi hz hsize hby hzs hsz v n xs hown ad m c news hr.1 hcells h1 h63 hbytes hbase
    exact ⟨v', w', hrun, h2, h3, h5⟩

theorem wp_append_any {o : Oper} {a : Act} {K : Act → World → Prop} {Q : Exit → Act → World → Prop} (s x : Operand) (t : TypeId)
    (ho : o.op = .call { callee := .builtin .append, args := #[s, x], argTypes := #[t, t] })
    (base : Nat) (e : TypeId) (i : TypeInfo) (z : Value) (size bytes : Nat) (ht : P.underlying t = some (.slice e)) (hi : P.info? e = some i) (hz : i.zero = some z)
    (hsize : i.size = size) (hby : i.bytes = bytes) (hzs : z.cells.size = size) (hsz : 0 < size)
    (v : Value) (n : Nat) (xs : List Value) (hs : a.eval s = v) (hown : w.ownsRow base e size v n xs)
    (B : Nat) (A : Option Addr) (m c : Nat) (news : List Value) (hx : a.eval x = .slice A m c) (hr : Reads w B size A m news) (h1 : ∀ u ∈ news, u.oneCell' = true)
    (h63 : n + m ≤ maxLen) (hbytes : (n + m) * bytes ≤ 140737488355328) (hbase : base ≤ w.heap.size)
    (h : ∀ v' w', w'.ownsRow base e size v' (n + m) (xs ++ news) → w.grownBy w' v.ownBlock → (v'.ownBlock = v.ownBlock ∨ v'.ownBlock = some w.heap.size) → K (a.put o.dst v') w') : o.wp P a w K Q := by
  obtain ⟨v', w', hrun, h2, h3, h4⟩ := run_append_any (P := P) w base t o.type e i z size bytes ht hi hz hsize hby hzs hsz v n xs hown B A m c news hr h1 h63 hbytes hbase
  unfold Oper.wp execOp
  simp only [ho, resolve, invoke, builtin, Sem.run_bind, Sem.run_pure, Result.andThen_ok, List.map_toArray, List.map_cons, List.map_nil, hs, hx, hrun]
  exact h v' w' h2 h3 h4

theorem wpList_append_any {ops : Array Oper} {rest : List Oper} {o : Oper} {a : Act} {Q : Exit → Act → World → Prop} (hgd : o.guard = none) (s x : Operand) (t : TypeId)
    (ho : o.op = .call { callee := .builtin .append, args := #[s, x], argTypes := #[t, t] })
    (base : Nat) (e : TypeId) (i : TypeInfo) (z : Value) (size bytes : Nat) (ht : P.underlying t = some (.slice e)) (hi : P.info? e = some i) (hz : i.zero = some z)
    (hsize : i.size = size) (hby : i.bytes = bytes) (hzs : z.cells.size = size) (hsz : 0 < size)
    (v : Value) (n : Nat) (xs : List Value) (hs : a.eval s = v) (hown : w.ownsRow base e size v n xs)
    (B : Nat) (A : Option Addr) (m c : Nat) (news : List Value) (hx : a.eval x = .slice A m c) (hr : Reads w B size A m news) (h1 : ∀ u ∈ news, u.oneCell' = true)
    (h63 : n + m ≤ maxLen) (hbytes : (n + m) * bytes ≤ 140737488355328) (hbase : base ≤ w.heap.size)
    (h : ∀ v' w', w'.ownsRow base e size v' (n + m) (xs ++ news) → w.grownBy w' v.ownBlock → (v'.ownBlock = v.ownBlock ∨ v'.ownBlock = some w.heap.size) → wpList P ops Q rest (a.put o.dst v') w') : wpList P ops Q (o :: rest) a w :=
  wpList_plain hgd fun _ hK => wp_append_any w s x t ho base e i z size bytes ht hi hz hsize hby hzs hsz v n xs hs hown B A m c news hx hr h1 h63 hbytes hbase fun v' w' h2 h3 h4 => hK _ _ (h v' w' h2 h3 h4)

theorem step_append_any {ops : Array Oper} {o : Oper} {a : Act} {K : Act → World → Prop} {Q : Exit → Act → World → Prop} {E : Prop} (hgd : o.guard = none) (s x : Operand) (t : TypeId)
    (ho : o.op = .call { callee := .builtin .append, args := #[s, x], argTypes := #[t, t] })
    (base : Nat) (e : TypeId) (i : TypeInfo) (z : Value) (size bytes : Nat) (ht : P.underlying t = some (.slice e)) (hi : P.info? e = some i) (hz : i.zero = some z)
    (hsize : i.size = size) (hby : i.bytes = bytes) (hzs : z.cells.size = size) (hsz : 0 < size)
    (v : Value) (n : Nat) (xs : List Value) (hs : a.eval s = v) (hown : w.ownsRow base e size v n xs)
    (B : Nat) (A : Option Addr) (m c : Nat) (news : List Value) (hx : a.eval x = .slice A m c) (hr : Reads w B size A m news) (h1 : ∀ u ∈ news, u.oneCell' = true)
    (h63 : n + m ≤ maxLen) (hbytes : (n + m) * bytes ≤ 140737488355328) (hbase : base ≤ w.heap.size)
    (h : ∀ v' w', w'.ownsRow base e size v' (n + m) (xs ++ news) → w.grownBy w' v.ownBlock → (v'.ownBlock = v.ownBlock ∨ v'.ownBlock = some w.heap.size) → K (a.put o.dst v') w') :
    if Region.wanted o (yielded ops a.tmps) = true then Oper.wp P o a w K Q else E := by
  have hw : Region.wanted o (yielded ops a.tmps) = true := by simp [Region.wanted, hgd]
  rw [if_pos hw]
  exact wp_append_any w s x t ho base e i z size bytes ht hi hz hsize hby hzs hsz v n xs hs hown B A m c news hx hr h1 h63 hbytes hbase h
end

theorem hide {p : Prop} (h : p) : Hid p := h
theorem unhide {p : Prop} (h : Hid p) : p := h

theorem quiet_add {P : Program} {f : FuncId} {args : Array Value} {w : World} {a n : Nat} {v : Value}
    (h : Calls P f args (w.drewN (a + n)) fun e w' => e = .returned v ∧ ∃ m, w' = (w.drewN (a + n)).drewN m) :
    Calls P f args (w.drewN (a + n)) fun e w'' => e = .returned v ∧ ∃ m, w'' = w.drewN (a + m) :=
  h.mono fun _ _ ⟨he, m, hm⟩ => ⟨he, n + m, by rw [hm, World.drewN_drewN, Nat.add_assoc]⟩
theorem quiet_add_same {P : Program} {f : FuncId} {args : Array Value} {w : World} {a n : Nat} {v : Value}
    (h : Calls P f args (w.drewN (a + n)) fun e w' => e = .returned v ∧ w' = w.drewN (a + n)) :
    Calls P f args (w.drewN (a + n)) fun e w'' => e = .returned v ∧ ∃ m, w'' = w.drewN (a + m) :=
  h.mono fun _ _ ⟨he, hm⟩ => ⟨he, n, hm⟩
theorem quiet_add_left {P : Program} {f : FuncId} {args : Array Value} {w : World} {a n : Nat} {v : Value}
    (h : Calls P f args (w.drewN (a + n)) fun e w' => e = .returned v ∧ w.drewN (a + n) = w') :
    Calls P f args (w.drewN (a + n)) fun e w'' => e = .returned v ∧ ∃ m, w'' = w.drewN (a + m) :=
  h.mono fun _ _ ⟨he, hm⟩ => ⟨he, n, hm.symm⟩
theorem quiet_left {P : Program} {f : FuncId} {args : Array Value} {w : World} {n : Nat} {v : Value}
    (h : Calls P f args (w.drewN n) fun e w' => e = .returned v ∧ w.drewN n = w') : Calls P f args (w.drewN n) fun e w'' => e = .returned v ∧ ∃ m, w'' = w.drewN m :=
  h.mono fun _ _ ⟨he, hm⟩ => ⟨he, n, hm.symm⟩

theorem results_tmp4 {fn : Func} {t u v x : Tmp} (h : fn.results = #[.tmp t, .tmp u, .tmp v, .tmp x]) (tmps : Array Value) (P : Program) (w : World) :
    (results fn tmps).run P w = .ok (.tuple #[tmps.getD t undef, tmps.getD u undef, tmps.getD v undef, tmps.getD x undef]) w := by simp [results, h]
theorem results_tmp5 {fn : Func} {t u v x y : Tmp} (h : fn.results = #[.tmp t, .tmp u, .tmp v, .tmp x, .tmp y]) (tmps : Array Value) (P : Program) (w : World) :
    (results fn tmps).run P w = .ok (.tuple #[tmps.getD t undef, tmps.getD u undef, tmps.getD v undef, tmps.getD x undef, tmps.getD y undef]) w := by simp [results, h]

theorem below_drewN {B : Nat} {a w : World} (h : Below B a w) (n : Nat) : Below B a (w.drewN n) := ⟨h.os, h.tape, h.output, h.size, h.block⟩
theorem rowIs_drewN {w : World} {b : Nat} {t : TypeId} {n : Nat} {f : Nat → Value} (h : w.rowIs b t n f) (k : Nat) : (w.drewN k).rowIs b t n f := h
theorem grown_trans {a b c : World} (h : Grown a b) (k : Grown b c) : Grown a c :=
  ⟨World.keptBut_trans h.1 k.1, fun x => (k.2.1 x).trans (h.2.1 x), Nat.le_trans h.2.2 k.2.2⟩

theorem only_drewN {a w : World} {row : Option Nat} (h : a.grownBy w row) (n : Nat) : a.grownBy (w.drewN n) row := ⟨h.os, h.tape, h.output, h.size, h.block⟩
theorem only_drew {a w : World} {row : Option Nat} (h : a.grownBy w row) : a.grownBy w.drew row := ⟨h.os, h.tape, h.output, h.size, h.block⟩
theorem only_alloc {a w : World} {row : Option Nat} (h : a.grownBy w row) (o : Obj) : a.grownBy (w.alloc o) row :=
  ⟨h.os, h.tape, h.output, Nat.le_trans h.size (by simp), fun i hi hne => (Below.heap_alloc w o i (Nat.lt_of_lt_of_le hi h.size)).trans (h.block i hi hne)⟩
theorem only_setCell {a w : World} {g : Nat} (h : a.grownBy w (some g)) {p : Addr} (hp : p.block = g ∨ a.heap.size ≤ p.block) (u : Value) : a.grownBy (w.setCell p u) (some g) :=
  ⟨h.os, h.tape, h.output, by simpa [World.setCell] using h.size, fun i hi hne => (Below.heap_setCell w p u i (by
    rintro rfl
    rcases hp with hp | hp
    · exact hne (by rw [hp])
    · omega)).trans (h.block i hi hne)⟩
theorem only_of_below {a w : World} (h : Below a.heap.size a w) (row : Option Nat) : a.grownBy w row := ⟨h.os, h.tape, h.output, h.size, fun i hi _ => h.block i hi⟩

section
variable {H : Type} {enc : TypeId × Value → H} {P : Program}
theorem post_of_below {f : Func} {s : ChangeSpec} {apart fresh handsOn again : Bool} {W W' : World} {args : Array Value} {v : Value} {ds gs : List (DataW H)} {before pa pv : List MemPlace}
    (hW : DataW.Whole enc P f.params.toList s.vars apart W args.toList ds gs before)
    (hres : ∀ (b : Nat) (sp : Nat → Bool) (hd : Bool), DataW.TrodAll enc P W' b sp hd f.resultTypes.toList (v.resultList f.resultTypes.size) (s.fn H (ds ++ gs)).results [])
    (hargs : ∀ sp : Nat → Bool, (∀ p ∈ before, sp p.block = true) → DataW.TrodAll enc P W' 0 sp true f.params.toList args.toList (s.fn H (ds ++ gs)).args pa)
    (hvars : ∀ sp : Nat → Bool, (∀ p ∈ before, sp p.block = true) → DataW.TrodVars enc P W' sp s.vars (s.fn H (ds ++ gs)).vars pv)
    (hps : before = pa ++ pv) (hb : Below W.heap.size W W')
    (hok : ∀ (j : Nat) (t : TypeId) (r : Value), f.resultTypes[j]? = some t → (v.resultList f.resultTypes.size)[j]? = some r → Value.okWide P W' .any 0 t r) :
    s.post enc P f apart fresh handsOn again W args v W' := by
  have hlt : ∀ p ∈ before, p.block < W.heap.size := fun p hp => hW.lt p hp
  have hold : ∀ p ∈ before, (fun b => decide (b < W.heap.size)) p.block = true := fun p hp => by simpa using hlt p hp
  refine ⟨ds, gs, before, [], pa, pv, hW, hres _ _ _, hargs _ hold, hvars _ hold, World.keptBut_mono (fun p hp => ⟨hp, ?_⟩) (hb.frame (· ∈ before)), fun _ => ?_⟩
  · rw [hps, List.mem_append] at hp
    exact Or.inr hp
  · obtain ⟨_, _, _, _, _, hz, hn⟩ := hW
    refine ⟨hok, _, _, ([] ++ pa) ++ pv, ⟨[] ++ pa, pv, trodAll_append (hargs _ (fun _ _ => rfl)) (hres _ _ _), hvars _ (fun _ _ => rfl), rfl, ?_, ?_⟩, ?_⟩
    · intro b off hp
      have hin : MemPlace.cell b off ∈ before := by rw [hps]; simpa using hp
      rw [hb.frozen (hlt _ hin)]
      exact hz b off hin
    · intro ha
      have := hn ha
      rw [hps] at this
      simpa using this
    · intro p hp _
      rw [hps]
      simpa using hp
end

/-- the bytes of a string, laid in a block from place 0 on -/
def BytesIn (w : World) (g : Nat) (s : ByteArray) : Prop := ∀ j (_ : j < s.size), w.cell? ⟨g, j, none⟩ = some (.int .u8 (s[j].toNat : Int))
theorem bytesRow_at (s : ByteArray) (cap j : Nat) (hj : j < s.size) : (bytesRow s cap)[j]? = some (.int .u8 (s[j].toNat : Int)) := by
  unfold bytesRow
  rw [Array.getElem?_append_left (by simpa using hj)]
  simp only [Array.getElem?_map]
  have h : s.data[j]? = some (s.data[j]'hj) := Array.getElem?_eq_getElem hj
  rw [h]
  rfl
/-- '[]byte(s)': a new block with the bytes, which may be written; nothing else has turned. -/
theorem bytes_of_string {P : Program} (src dst e : TypeId) (hs : P.underlying src = some .string) (hd : P.underlying dst = some (.slice e)) (he : P.underlying e = some (.int .u8)) (w : World) (s : ByteArray) :
    ∃ cap w1, (convert src dst (.string s)).run P w = .ok (.slice (some ⟨w.heap.size, 0, none⟩) s.size cap) w1 ∧ Below w.heap.size w w1 ∧ w.heap.size < w1.heap.size ∧ BytesIn w1 w.heap.size s ∧
      (∀ j, j < s.size → w1.frozen? ⟨w.heap.size, j, none⟩ = false) := by
  refine ⟨_, _, run_bytes_of_string w src dst e s hs hd he, ((Below.refl _ _).drew).alloc (Nat.le_refl _) _, by simp, fun j hj => ?_, fun j hj => ?_⟩
  · have h := World.cell?_alloc_mark w.drew (bytesRow s (grownCap w s.size 0 e)) e ((bytesRow s (grownCap w s.size 0 e)).size, (bytesRow s (grownCap w s.size 0 e)).size + 1) j
    rw [show w.drew.heap.size = w.heap.size from rfl] at h
    rw [h, bytesRow_at s _ j hj]
  · have h := World.frozen?_alloc_mark w.drew (bytesRow s (grownCap w s.size 0 e)) e (bytesRow s (grownCap w s.size 0 e)).size ((bytesRow s (grownCap w s.size 0 e)).size + 1) j
    rw [show w.drew.heap.size = w.heap.size from rfl] at h
    have hz : s.size ≤ (bytesRow s (grownCap w s.size 0 e)).size := by unfold bytesRow; rw [Array.size_append, Array.size_map]; exact Nat.le_add_right _ _
    rw [h, decide_eq_false (by omega)]
    rfl

/-- 'string([]byte{b})' -/
theorem run_byte_string {P : Program} (src dst e : TypeId) (hs : P.underlying src = some (.slice e)) (he : P.underlying e = some (.int .u8)) (hd : P.underlying dst = some .string) (w : World) (b : UInt8) (z : Int) (hz : z = b.toNat) (te : TypeId) :
    (convert src dst (.slice (some ⟨w.heap.size, 0, none⟩) 1 1)).run P (w.alloc (.cells #[.int .u8 z] te)) = .ok (.string ⟨#[b]⟩) (w.alloc (.cells #[.int .u8 z] te)) := by
  subst hz
  have h := run_convert_bytes_back (P := P) (w.alloc (.cells #[.int .u8 b.toNat] te)) src dst e ⟨w.heap.size, 0, none⟩ 1 [b] hs he hd (fun j hj => by
    have hj0 : j = 0 := by simpa using hj
    subst hj0
    show (w.alloc _).cell? ⟨w.heap.size, 0, none⟩ = _
    rw [World.cell?_alloc_new]
    rfl)
  exact h
theorem append_toList (a b : ByteArray) : (a ++ b).data.toList = a.data.toList ++ b.data.toList := by simp
theorem append_size (a b : ByteArray) : (a ++ b).size = a.size + b.size := by simp
theorem size_l (s : ByteArray) : s.data.toList.length = s.size := by simp
theorem ba_ext {a b : ByteArray} (h : a.data.toList = b.data.toList) : a = b := by
  cases a; cases b; congr 1; exact Array.toList_inj.1 h

/-- 'append(v, x)' at a slice that the call owns (or nil): x lies in a new block of its own. The run, the row that comes, and what has turned: the old row's block alone. -/
theorem app_one {P : Program} (t ty e : TypeId) (i : TypeInfo) (z : Value) (size bytes : Nat) (ht : P.underlying t = some (.slice e)) (hi : P.info? e = some i) (hz : i.zero = some z)
    (hsize : i.size = size) (hby : i.bytes = bytes) (hzs : z.cells.size = size) (hsz : 0 < size) (base : Nat) (w : World) (v : Value) (n : Nat) (xs : List Value) (hown : w.ownsRow base e size v n xs)
    (cs : Array Value) (hcs : cs.size = size) (h1 : ∀ u ∈ cs.toList, u.oneCell' = true) (te : TypeId) (h63 : n + 1 ≤ maxLen) (hbytes : (n + 1) * bytes ≤ 140737488355328) (hbase : base ≤ w.heap.size) :
    ∃ v' w', (Builtin.append_ #[t, t] ty #[v, .slice (some ⟨w.heap.size, 0, none⟩) 1 1]).run P (w.alloc (.cells cs te)) = .ok v' w' ∧ w'.ownsRow base e size v' (n + 1) (xs ++ cs.toList) ∧ w.grownBy w' v.ownBlock ∧ w.heap.size < w'.heap.size ∧
      (v'.ownBlock = v.ownBlock ∨ v'.ownBlock = some (w.heap.size + 1)) := by
  obtain ⟨v', w', hrun, h2, h3, _, h5⟩ := run_append_own_at (P := P) (w.alloc (.cells cs te)) base t ty e i z size bytes ht hi hz hsize hby hzs hsz v n xs (hown.alloc _) ⟨w.heap.size, 0, none⟩ 1 1 cs.toList (by simp [hcs])
    (fun j u hj => by rw [show (⟨w.heap.size, 0, none⟩ : Addr).add j = ⟨w.heap.size, j, none⟩ by unfold Addr.add; split <;> simp_all, World.cell?_alloc_new]; simpa using hj) h1 h63 hbytes (by simp; omega)
  refine ⟨v', w', hrun, h2, ⟨h3.os, h3.tape, h3.output, ?_, fun k hk hne => ?_⟩, ?_, ?_⟩
  · have := h3.size; simp at this; omega
  · exact (h3.block k (by simp; omega) hne).trans (Below.heap_alloc w _ k hk)
  · have := h3.size; simp at this; omega
  · simpa using h5

/-- an append whose run is known, as an arm of the walk: '(at_builtin; refine wpList_append_run hrun rfl _ _ _ rfl rfl rfl ?_)' -/
theorem wpList_append_run {P : Program} {w w' : World} {ops : Array Oper} {rest : List Oper} {o : Oper} {a : Act} {Q : Exit → Act → World → Prop} {t : TypeId} {v y v' : Value}
    (hrun : (Builtin.append_ #[t, t] t #[v, y]).run P w = .ok v' w') (hgd : o.guard = none) (s x : Operand)
    (ho : o.op = .call { callee := .builtin .append, args := #[s, x], argTypes := #[t, t] }) (hty : o.type = t) (hs : a.eval s = v) (hx : a.eval x = y)
    (h : wpList P ops Q rest (a.put o.dst v') w') : wpList P ops Q (o :: rest) a w :=
  wpList_plain hgd fun _ hK => by
    unfold Oper.wp execOp
    simp only [ho, resolve, invoke, builtin, Sem.run_bind, Sem.run_pure, Result.andThen_ok, List.map_toArray, List.map_cons, List.map_nil, hs, hx, hty, hrun]
    exact hK _ _ h
end

section
open Go.RowKit

/-- what such an iterator is good for: G: its state where it begins; St: its own steps; Kp: what a round that goes on keeps; S: all has come; Sp: a part has come -/
def SeqSt {α : Type} (F : Fence) (n : Nat) (P : Program) (g : Nat) (lb : Array Value) (encs : α → Array Value) (G : World → Prop) (St Kp : World → World → Prop) (S Sp : List α → Prop) : Prop :=
  ∀ (l : Nat) (J Jx : List α → World → Prop) (W : World), G W → (∀ s A B, J s A → St A B → J s B) →
    (∀ pre x W1, J pre W1 → Sp (pre ++ [x]) → YieldAt F (n - 1) P l (encs x) W1 fun e W' =>
      (e = .returned (.bool true) ∧ J (pre ++ [x]) W' ∧ Kp W1 W') ∨ (e = .returned (.bool false) ∧ Jx (pre ++ [x]) W')) →
    J [] W →
    CallsIn F n P g (#[.func (.yield l) #[] #[]] ++ lb) W fun e W' => (∃ v, e = .returned v) ∧ ((∃ xs, S xs ∧ J xs W') ∨ (∃ pre, Sp pre ∧ Jx pre W'))

section
variable {F : Fence} {n : Nat} {P : Program}

theorem wpIn_rangeFunc_st {α : Type} {g : Operand} {ps : Array Tmp} {assign body : Code} {Q : Exit → Act → World → Prop} {a : Act} {w : World}
    (hro : F.round = none) (h1 : 1 ≤ n) {gf : Nat} {lb : Array Value} (hg : a.eval g = .func (.func gf) #[] lb) (hFg : F.fn gf) (eg : ∀ args w, (callFunc gf args).run P w = .ok (.enter gf args) w)
    {encs : α → Array Value} {G : World → Prop} {St Kp : World → World → Prop} {S Sp : List α → Prop} (hseq : SeqSt F (n - 1) P gf lb encs G St Kp S Sp)
    (hG : G w) (hGa : ∀ W o, G W → G (W.alloc o)) (hSt : ∀ A B, St A B → KeepsOthers A B)
    (hKt : ∀ {A B C : World}, Kp A B → Kp B C → Kp A C) (hKb : ∀ (W : World) (l : Nat) (o : Obj), w.heap.size ≤ l → Kp W (W.putObj l o)) (hps : ∀ x, (encs x).size = ps.size)
    (I : List α → World → Prop) (Ix : Code → List α → World → Prop) (hI : OwnFrom w.heap.size I) (hIx : ∀ c, OwnFrom w.heap.size (Ix c)) (hIs : ∀ s A B, I s A → St A B → I s B) (h0 : I [] w) (a₁ : α → Act)
    (hassign : ∀ (l : Nat) (x : α) (W : World) (K : Act → World → Prop), K (a₁ x) W →
      assign.wpIn (F.inRound l) (n - 1 - 1) P (Exit.then K (fun _ _ _ => False)) { tmps := (ps.zip (encs x)).foldl (fun t (p, v) => t.setIfInBounds p v) a.tmps, defers := [] } W)
    (hbody : ∀ (l : Nat) (pre : List α) (x : α) (W : World), I pre W → Sp (pre ++ [x]) → body.wpIn (F.inRound l) (n - 1 - 1) P (ownPostG w.heap.size Kp I Ix (pre ++ [x]) W) (a₁ x) W)
    (hdone : ∀ (D : Nat) (xs : List α) (W : World), w.heap.size ≤ D → S xs → I xs W → W.heap[D]? = some (.deferred (some [])) → Q .normal { a with defers := { target := .collected D, args := #[] } :: a.defers } W)
    (hstop : ∀ (D : Nat) (c : Code) (pre : List α) (W : World), w.heap.size ≤ D → Sp pre → Ix c pre W → W.heap[D]? = some (.deferred (some [])) → c.wpIn F n P Q { a with defers := { target := .collected D, args := #[] } :: a.defers } W) :
    (Code.rangeFunc g ps assign body).wpIn F n P Q a w := by
  refine wpIn_rangeFunc fun fn hfn => ?_
  rw [hro]
  -- the loop's record, by its state and what is pending
  let rc : LoopState → Option Code → Loop := fun st pe => { state := st, pending := pe, fn, tmps := a.tmps, params := ps, assign, body, defers := w.heap.size }
  let B := w.heap.size
  let dq : Obj := .deferred (some [])
  have e0 := run_enterLoop_outer (P := P) (w := w) fn a.tmps ps assign body
  have z1 : (w.alloc dq).heap.size = B + 1 := World.size_alloc w dq
  have lay : ((w.alloc dq).alloc (.loop (rc .ready none))).heap[B + 1]? = some (.loop (rc .ready none)) := by
    have h := World.alloc_heap_new (w.alloc dq) (.loop (rc .ready none))
    rwa [z1] at h
  have layD : ((w.alloc dq).alloc (.loop (rc .ready none))).heap[B]? = some dq :=
    (Below.heap_alloc _ _ _ (by rw [z1]; exact Nat.lt_succ_self _)).trans (World.alloc_heap_new w dq)
  refine ⟨B + 1, [{ target := .collected B, args := #[] }], (w.alloc dq).alloc (.loop (rc .ready none)), { target := .fn (.func gf) lb, args := #[.func (.yield (B + 1)) #[] #[]] }, (w.alloc dq).alloc (.loop (rc .ready none)), gf,
    #[.func (.yield (B + 1)) #[] #[]] ++ lb, (w.alloc dq).alloc (.loop (rc .ready none)), e0, ?_, ?_, ?_, fun _ => h1, ?_⟩
  · simp only [resolve, hg]
    simp [go_sem]
  · intro f' hf'
    simp [Target.leads] at hf'
    subst hf'
    exact hFg
  · simp [invoke, go_sem, eg]
  -- the record and the deferred block abide the iterator's steps
  have keep : ∀ {A C : World} {k : Nat} {o : Obj}, A.heap[k]? = some o → o.isCells = false → St A C → C.heap[k]? = some o := fun hk ho hs => (hSt _ _ hs).same _ _ hk ho
  refine (hseq (B + 1) (fun pre W => I pre W ∧ W.heap[B + 1]? = some (.loop (rc .ready none)) ∧ W.heap[B]? = some dq)
    (fun pre W => ∃ c, Ix c pre W ∧ W.heap[B + 1]? = some (.loop (rc .done (some c))) ∧ W.heap[B]? = some dq)
    _ (hGa _ _ (hGa _ _ hG)) (fun s A C ⟨hi, hl, hd⟩ hs => ⟨hIs s A C hi hs, keep hl rfl hs, keep hd rfl hs⟩) ?_ ⟨hI.alloc _ (hI.alloc _ h0), lay, layD⟩).mono ?_
  · rintro pre x W ⟨hi, hl, hd⟩ hlen
    have hlt : B + 1 < W.heap.size := (Array.getElem?_eq_some_iff.1 hl).1
    refine ⟨fn, _, assign, body, run_yield (P := P) (args := encs x) hl (hps x), roundIn_of_wpIn hfn (hassign _ x W _ ⟨_, run_beginRound hl rfl, ?_⟩)⟩
    let busy : Obj := .loop (rc .busy none)
    have hl2 : (W.putObj (B + 1) busy).heap[B + 1]? = some busy := World.putObj_heap_same hlt
    have hd2 : (W.putObj (B + 1) busy).heap[B]? = some dq := (World.putObj_heap_other (by omega)).trans hd
    refine wpIn_mono (hbody _ pre x _ (hI.putObj _ hi (Nat.le_succ _) hl rfl) hlen) ?_
    have fin : ∀ (jump : Option Code) (W3 : World), KeepsFrom B (W.putObj (B + 1) busy) W3 →
        (Instr.endRound (B + 1) jump).run P W3 = .ok (.bool jump.isNone) (W3.putObj (B + 1) (.loop (rc (if jump.isNone then .ready else .done) jump))) ∧ W3.heap[B + 1]? = some busy ∧
        (W3.putObj (B + 1) (.loop (rc (if jump.isNone then .ready else .done) jump))).heap[B + 1]? = some (.loop (rc (if jump.isNone then .ready else .done) jump)) ∧
        (W3.putObj (B + 1) (.loop (rc (if jump.isNone then .ready else .done) jump))).heap[B]? = some dq := fun jump W3 hk => by
      have hl3 := hk.same _ _ (Nat.le_succ _) hl2 rfl
      exact ⟨run_endRound (P := P) jump hl3, hl3, World.putObj_heap_same (Array.getElem?_eq_some_iff.1 hl3).1, (World.putObj_heap_other (by omega)).trans (hk.same _ _ (Nat.le_refl _) hd2 rfl)⟩
    rintro e a3 W3 hp
    match e, hp with
    | .normal, ⟨hk, hkp, hi3⟩ =>
      obtain ⟨hr, hl3, hl4, hd4⟩ := fin none W3 hk
      exact ⟨_, _, hr, .inl ⟨rfl, ⟨hI.putObj _ hi3 (Nat.le_succ _) hl3 rfl, hl4, hd4⟩, hKt (hKt (hKb _ _ _ (Nat.le_succ _)) hkp) (hKb _ _ _ (Nat.le_succ _))⟩⟩
    | .ret, ⟨hk, hi3⟩ =>
      obtain ⟨hr, hl3, hl4, hd4⟩ := fin (some .ret) W3 hk
      exact ⟨_, _, hr, .inr ⟨rfl, .ret, (hIx _).putObj _ hi3 (Nat.le_succ _) hl3 rfl, hl4, hd4⟩⟩
    | .exit id, ⟨hk, hi3⟩ =>
      obtain ⟨hr, hl3, hl4, hd4⟩ := fin (some (.exit id)) W3 hk
      exact ⟨_, _, hr, .inr ⟨rfl, .exit id, (hIx _).putObj _ hi3 (Nat.le_succ _) hl3 rfl, hl4, hd4⟩⟩
    | .goto t, ⟨hk, hi3⟩ =>
      obtain ⟨hr, hl3, hl4, hd4⟩ := fin (some (.goto t)) W3 hk
      exact ⟨_, _, hr, .inr ⟨rfl, .goto t, (hIx _).putObj _ hi3 (Nat.le_succ _) hl3 rfl, hl4, hd4⟩⟩
    | .panic _, hp => exact hp.elim
    | .outgrown, hp => exact hp.elim
  · rintro e W2 ⟨⟨v, rfl⟩, ⟨xs, hS, hi, hl, hd⟩ | ⟨pre, hSp, c, hi, hl, hd⟩⟩
    · exact ⟨none, _, run_endLoop (P := P) hl (by intro h; cases h), hdone _ xs _ (Nat.le_refl _) hS (hI.putObj _ hi (Nat.le_succ _) hl rfl) ((World.putObj_heap_other (by omega)).trans hd)⟩
    · exact ⟨some c, _, run_endLoop (P := P) hl (by intro h; cases h), hstop _ c pre _ (Nat.le_refl _) hSp ((hIx c).putObj _ hi (Nat.le_succ _) hl rfl) ((World.putObj_heap_other (by omega)).trans hd)⟩
end
section
variable {F : Fence} {n : Nat} {P : Program} {b : Frame} {a : Act} {k : List Item} {cs : List Frame} {w : World} {Q : Exit → Act → World → Prop}
theorem stepR_scope' {c : Code} : step P (lone (b.atR a (.code (.scope c) :: k)) cs w) = .next (lone (b.atR a (.code c :: .inScope c :: k)) cs w) :=
  step_lone_go (by simp [stepG, stepG.exec, Frame.atR])
theorem stepR_inScope' {c : Code} : step P (lone (b.atR a (.inScope c :: k)) cs w) = .next (lone (b.atR a k) cs w) :=
  step_lone_go (by simp [stepG, stepG.exec, Frame.atR])
/-- a scope through which the run goes without a goto, inside a fence -/
theorem wpIn_scope_straight {c : Code} (h : c.wpIn F n P (Exit.noGoto Q) a w) : (Code.scope c).wpIn F n P Q a w := by
  intro b k cs hro hb hr
  have h0 : (lone (b.atR a (.code (.scope c) :: k)) cs w).fenced P F := fenced_calm hb hr rfl
  obtain ⟨e, a₁, w₁, hq, harr⟩ := h b (.inScope c :: k) cs hro hb hr
  cases e with
  | normal => exact ⟨.normal, a₁, w₁, hq, .head h0 stepR_scope' (StepsIn.trans harr (.one (fenced_calm hb hr rfl) stepR_inScope'))⟩
  | exit id =>
    have hx : exitTo id (.inScope c :: k) = exitTo id k := by simp [exitTo]
    exact ⟨.exit id, a₁, w₁, hq, fun k' hk => .head h0 stepR_scope' (harr.1 k' (by rw [hx]; exact hk)),
      fun hr' hk => let ⟨k₁, h1, h2⟩ := harr.2 hr' (by rw [hx]; exact hk); ⟨k₁, h1, .head h0 stepR_scope' h2⟩⟩
  | goto l => exact hq.elim
  | ret => exact ⟨_, a₁, w₁, hq, .of_steps (.one h0 stepR_scope') harr⟩
  | panic ch => exact ⟨_, a₁, w₁, hq, .of_steps (.one h0 stepR_scope') harr⟩
  | outgrown => exact ⟨_, a₁, w₁, hq, .of_steps (.one h0 stepR_scope') harr⟩
end

/-- an append whose run is known, as a step of a region that draws its order, inside a fence -/
theorem stepIn_append_run {F : Fence} {n : Nat} {P : Program} {w w' : World} {ops : Array Oper} {o : Oper} {a : Act} {K : Act → World → Prop} {Q : Exit → Act → World → Prop} {E : Prop} {t : TypeId} {v y v' : Value}
    (hrun : (Builtin.append_ #[t, t] t #[v, y]).run P w = .ok v' w') (hgd : o.guard = none) (s x : Operand)
    (ho : o.op = .call { callee := .builtin .append, args := #[s, x], argTypes := #[t, t] }) (hty : o.type = t) (hs : a.eval s = v) (hx : a.eval x = y)
    (h : K (a.put o.dst v') w') : if Region.wanted o (yielded ops a.tmps) = true then Oper.wpIn F n P o a w K Q else E := by
  have hw : Region.wanted o (yielded ops a.tmps) = true := by simp [Region.wanted, hgd]
  rw [if_pos hw]
  unfold Oper.wpIn
  refine ⟨?_, ?_⟩
  · simp [Oper.about, ho, resolve, Target.leads, Sem.run_pure]
  · rw [Oper.semAt_plain F _ _ (by rw [ho]; intro c hc'; cases hc')]
    simp only [execOp, ho, resolve, invoke, builtin, Sem.run_bind, Sem.run_pure, Result.andThen_ok, List.map_toArray, List.map_cons, List.map_nil, hs, hx, hty, hrun]
    exact h
theorem keepsFrom_below {B : Nat} {W W' : World} (h : Below W.heap.size W W') : KeepsFrom B W W' :=
  ⟨h.size, fun k _ _ hk _ => (h.block k (Array.getElem?_eq_some_iff.1 hk).1).trans hk⟩
theorem keepsFrom_set (B : Nat) (W : World) (p : Addr) (v : Value) : KeepsFrom B W (W.setCell p v) := (KeepsOthers.setCell W p v).from B
theorem keepsFrom_grown {B base e size n : Nat} {W W' : World} {v : Value} {xs : List Value} (ho : W.ownsRow base e size v n xs) (h : W.grownBy W' v.ownBlock) : KeepsFrom B W W' := by
  refine (KeepsOthers.of_grownBy h fun j _ ej hj => ?_).from B
  rcases ho.2 with ⟨rfl, _⟩ | ⟨g, cap, cur, rfl, _, hgb, _⟩
  · simp [Value.ownBlock] at ej
  · obtain rfl : g = j := by simpa [Value.ownBlock] using ej
    rw [hgb] at hj; cases hj; rfl
theorem own_ge {base e size n : Nat} {W : World} {v : Value} {xs : List Value} (ho : W.ownsRow base e size v n xs) : ∀ g, v.ownBlock = some g → base ≤ g := by
  rcases ho.2 with ⟨rfl, _⟩ | ⟨g, cap, cur, rfl, hb, hgb, _⟩
  · intro g e; simp [Value.ownBlock] at e
  · intro j e
    obtain rfl : g = j := by simpa [Value.ownBlock] using e
    exact hb
theorem own_cells {base e size n : Nat} {W : World} {v : Value} {xs : List Value} (ho : W.ownsRow base e size v n xs) : ∀ g, v.ownBlock = some g → ∃ o : Obj, W.heap[g]? = some o ∧ o.isCells = true := by
  rcases ho.2 with ⟨rfl, _⟩ | ⟨g, cap, cur, rfl, hb, hgb, _⟩
  · intro g e; simp [Value.ownBlock] at e
  · intro j e
    obtain rfl : g = j := by simpa [Value.ownBlock] using e
    exact ⟨_, hgb, rfl⟩
theorem own_slice {base e size n : Nat} {W : World} {v : Value} {xs : List Value} (ho : W.ownsRow base e size v n xs) : ∃ A cap, v = .slice A n cap := by
  rcases ho.2 with ⟨rfl, h0⟩ | ⟨g, cap, cur, rfl, _⟩
  · exact ⟨none, 0, by simp_all⟩
  · exact ⟨_, cap, rfl⟩
end

section
open Go.RowKit

theorem own_below {base e size n : Nat} {W W' : World} {v : Value} {xs : List Value} (ho : W.ownsRow base e size v n xs) (hb : Below W.heap.size W W') : W'.ownsRow base e size v n xs := by
  refine ho.kept (only_of_below hb none) ?_
  rcases ho.2 with ⟨rfl, _⟩ | ⟨g, cap, cur, rfl, _⟩
  · exact .inl rfl
  · exact .inr (by simp [Value.ownBlock])
theorem own_drewN {base e size n : Nat} {W : World} {v : Value} {xs : List Value} (ho : W.ownsRow base e size v n xs) (k : Nat) : (W.drewN k).ownsRow base e size v n xs := own_below ho (below_drewN (Below.refl _ _) k)
end

section
def bitsN (p : Nat → Bool) : Nat → Nat
  | 0 => 0
  | n + 1 => bitsN p n ||| (if p n = true then 2 ^ n else 0)
theorem testBit_bitsN (p : Nat → Bool) (n i : Nat) : (bitsN p n).testBit i = (decide (i < n) && p i) := by
  induction n with
  | zero => simp [bitsN]
  | succ n ih =>
    rw [bitsN, Nat.testBit_or, ih]
    by_cases hp : p n = true
    · rw [if_pos hp, Nat.testBit_two_pow]
      by_cases h : i = n
      · subst h; simp [hp]
      · have : decide (n = i) = false := by simp; omega
        rw [this, Bool.or_false]
        congr 1
        simp only [decide_eq_decide]
        omega
    · rw [if_neg hp, Nat.zero_testBit, Bool.or_false]
      by_cases h : i = n
      · subst h; simp [hp]
      · congr 1
        simp only [decide_eq_decide]
        omega
theorem bitsN_lt (p : Nat → Bool) (n : Nat) : bitsN p n < 2 ^ n := by
  induction n with
  | zero => simp [bitsN]
  | succ n ih =>
    rw [bitsN]
    refine Nat.or_lt_two_pow (by rw [Nat.pow_succ]; omega) ?_
    split
    · rw [Nat.pow_succ]; have := Nat.two_pow_pos n; omega
    · exact Nat.two_pow_pos _
/-- the k-th word of the set of the bytes that p names -/
def word (p : Nat → Bool) (k : Nat) : Nat := bitsN (fun i => p (64 * k + i)) 64
theorem word_lt (p : Nat → Bool) (k : Nat) : word p k < 18446744073709551616 := bitsN_lt _ 64
theorem word_bit (p : Nat → Bool) (k i : Nat) (h : i < 64) : (word p k).testBit i = p (64 * k + i) := by
  rw [word, testBit_bitsN]; simp [h]
theorem word_ext (a b : Nat) (ha : a < 18446744073709551616) (hb : b < 18446744073709551616) (h : ∀ i, i < 64 → a.testBit i = b.testBit i) : a = b := by
  apply Nat.eq_of_testBit_eq
  intro i
  by_cases hi : i < 64
  · exact h i hi
  · rw [Nat.testBit_lt_two_pow (Nat.lt_of_lt_of_le ha (show 18446744073709551616 ≤ 2 ^ i from Nat.pow_le_pow_right (n := 2) (by omega) (show 64 ≤ i by omega))),
      Nat.testBit_lt_two_pow (Nat.lt_of_lt_of_le hb (show 18446744073709551616 ≤ 2 ^ i from Nat.pow_le_pow_right (n := 2) (by omega) (show 64 ≤ i by omega)))]
theorem word_or (p q : Nat → Bool) (k : Nat) : word p k ||| word q k = word (fun b => p b || q b) k := by
  refine word_ext _ _ (Nat.or_lt_two_pow (n := 64) (word_lt p k) (word_lt q k)) (word_lt _ k) fun i hi => ?_
  rw [Nat.testBit_or, word_bit _ _ _ hi, word_bit _ _ _ hi, word_bit _ _ _ hi]
theorem word_and (p q : Nat → Bool) (k : Nat) : word p k &&& word q k = word (fun b => p b && q b) k := by
  refine word_ext _ _ (Nat.and_lt_two_pow (n := 64) _ (word_lt q k)) (word_lt _ k) fun i hi => ?_
  rw [Nat.testBit_and, word_bit _ _ _ hi, word_bit _ _ _ hi, word_bit _ _ _ hi]
theorem word_none (k : Nat) : word (fun _ => false) k = 0 := by
  refine word_ext _ _ (word_lt _ k) (by omega) fun i hi => ?_
  rw [word_bit _ _ _ hi, Nat.zero_testBit]
theorem word_all (k : Nat) : word (fun _ => true) k = 18446744073709551615 := by
  refine word_ext _ _ (word_lt _ k) (by omega) fun i hi => ?_
  rw [word_bit _ _ _ hi, show (18446744073709551615 : Nat) = 2 ^ 64 - 1 by decide, Nat.testBit_two_pow_sub_one]; simp [hi]
/-- one byte put into its word -/
theorem word_put (p : Nat → Bool) (b : Nat) : word p (b / 64) ||| 2 ^ (b % 64) = word (fun x => p x || decide (x = b)) (b / 64) := by
  refine word_ext _ _ (Nat.or_lt_two_pow (n := 64) (word_lt p _) (Nat.pow_lt_pow_right (by omega) (Nat.mod_lt _ (by omega)))) (word_lt _ _) fun i hi => ?_
  rw [Nat.testBit_or, word_bit _ _ _ hi, word_bit _ _ _ hi, Nat.testBit_two_pow]
  congr 1
  simp only [decide_eq_decide]
  omega
theorem word_put_other (p : Nat → Bool) (b k : Nat) (h : k ≠ b / 64) : word (fun x => p x || decide (x = b)) k = word p k := by
  refine word_ext _ _ (word_lt _ _) (word_lt _ _) fun i hi => ?_
  rw [word_bit _ _ _ hi, word_bit _ _ _ hi]
  have : decide (64 * k + i = b) = false := by simp; omega
  rw [this, Bool.or_false]
/-- is a byte in a set -/
theorem word_has (p : Nat → Bool) (b : Nat) : (word p (b / 64) >>> (b % 64)) &&& 1 = if p b = true then 1 else 0 := by
  have h := word_bit p (b / 64) (b % 64) (Nat.mod_lt _ (by omega))
  rw [show 64 * (b / 64) + b % 64 = b by omega, Nat.testBit, Nat.and_comm] at h
  rw [← h]
  have h2 : (word p (b / 64) >>> (b % 64)) &&& 1 = 0 ∨ (word p (b / 64) >>> (b % 64)) &&& 1 = 1 := by rw [Nat.and_one_is_mod]; omega
  rcases h2 with h2 | h2 <;> rw [h2] <;> rfl
theorem word_congr (p q : Nat → Bool) (k : Nat) (hk : k < 4) (h : ∀ b, b < 256 → p b = q b) : word p k = word q k := by
  refine word_ext _ _ (word_lt _ _) (word_lt _ _) fun i hi => ?_
  rw [word_bit _ _ _ hi, word_bit _ _ _ hi]
  exact h _ (by omega)
end

section
/-- a text cut at each byte c -/
def splitC (c : UInt8) : List UInt8 → List (List UInt8)
  | [] => [[]]
  | b :: l => if b = c then [] :: splitC c l else match splitC c l with
    | [] => [[b]]
    | h :: t => (b :: h) :: t
theorem splitC_ne (c : UInt8) (l : List UInt8) : splitC c l ≠ [] := by
  cases l with
  | nil => simp [splitC]
  | cons b l =>
    unfold splitC
    split
    · simp
    · split <;> simp
theorem splitC_step (c b : UInt8) (l h : List UInt8) (t : List (List UInt8)) (hb : b ≠ c) (e : splitC c l = h :: t) : splitC c (b :: l) = (b :: h) :: t := by
  rw [splitC, if_neg hb, e]
theorem splitK_eq (c : UInt8) : ∀ l : List UInt8, Lib.splitK [c] 0 (Lib.count l [c]) l = splitC c l
  | [] => by rw [Lib.count_miss (by simp [Lib.index])]; rfl
  | b :: l => by
    have ih := splitK_eq c l
    by_cases h : b = c
    · subst h
      have hix : Lib.index (b :: l) [b] = ((0 : Nat) : Int) := by rw [Lib.index]; simp [List.isPrefixOf]
      rw [Lib.count_cons_eq, Nat.add_comm, splitC, if_pos rfl, ← ih, Lib.splitK, hix, if_neg (by decide)]
      rfl
    · have hp : ([c] : List UInt8).isPrefixOf (b :: l) = false := by simp [List.isPrefixOf, Ne.symm h]
      have hix : Lib.index (b :: l) [c] = if Lib.index l [c] == -1 then -1 else Lib.index l [c] + 1 := by rw [Lib.index, hp]; simp
      rw [Lib.count_cons_ne b c l h]
      by_cases hm : Lib.index l [c] = -1
      · rw [Lib.count_miss hm] at ih ⊢
        exact (splitC_step c b l l [] h ih.symm).symm
      · have hge := Lib.index_ge l [c]
        obtain ⟨j, hj⟩ : ∃ j : Nat, Lib.index l [c] = j := ⟨(Lib.index l [c]).toNat, by omega⟩
        have hix' : Lib.index (b :: l) [c] = ((j + 1 : Nat) : Int) := by rw [hix, if_neg (fun e => hm (beq_iff_eq.1 e)), hj]; omega
        rw [Lib.count_hit (by simp) hj] at ih ⊢
        rw [Nat.add_comm] at ih ⊢
        rw [Lib.splitK, hj, if_neg (by simp)] at ih
        rw [Lib.splitK, hix', if_neg (by simp; omega), splitC_step c b l _ _ h ih.symm]
        rfl
/-- the pieces of the library's cut at one byte -/
theorem pieces (s : ByteArray) (c : UInt8) : (Lib.splitB ⟨#[c]⟩ 0 (Lib.countB s ⟨#[c]⟩) s).map (·.data.toList) = splitC c s.data.toList := by
  rw [Lib.splitB_data]
  exact splitK_eq c s.data.toList
theorem splitC_len (c : UInt8) : ∀ l : List UInt8, (splitC c l).length ≤ l.length + 1 ∧ ∀ x ∈ splitC c l, x.length ≤ l.length
  | [] => by simp [splitC]
  | b :: l => by
    obtain ⟨h1, h2⟩ := splitC_len c l
    unfold splitC
    split
    · refine ⟨by simpa using h1, fun x hx => ?_⟩
      rcases List.mem_cons.1 hx with rfl | hx
      · simp
      · have := h2 x hx; simp; omega
    · split
      · simp
      · rename_i h t e
        rw [e] at h1 h2
        refine ⟨by simp at h1 ⊢; omega, fun x hx => ?_⟩
        rcases List.mem_cons.1 hx with rfl | hx
        · have := h2 h (by simp); simp; omega
        · have := h2 x (by simp [hx]); simp; omega

/-- a blank -/
def isB (b : UInt8) : Bool := b == 32 || b == 9
/-- a text without blanks at both ends -/
def trimL (l : List UInt8) : List UInt8 := ((l.reverse.dropWhile isB).reverse).dropWhile isB
theorem dropWhile_le' (p : UInt8 → Bool) (l : List UInt8) : (l.dropWhile p).length ≤ l.length := by
  induction l with
  | nil => simp
  | cons a l ih => rw [List.dropWhile_cons]; split <;> simp <;> omega
theorem trimL_le (l : List UInt8) : (trimL l).length ≤ l.length := by
  unfold trimL
  refine Nat.le_trans (dropWhile_le' _ _) ?_
  rw [List.length_reverse]
  refine Nat.le_trans (dropWhile_le' _ _) ?_
  simp
theorem trimS_eq (l : List UInt8) : Lib.trimS l [32, 9] = trimL l := by
  have e : (fun b : UInt8 => ([32, 9] : List UInt8).contains b) = isB := by
    funext b
    simp [isB, List.contains, List.elem]
    cases (b == 32) <;> cases (b == 9) <;> rfl
  unfold Lib.trimS Lib.trimLeftS Lib.trimRightS trimL
  rw [e]
/-- a text without blanks at its end -/
def trimR (l : List UInt8) : List UInt8 := (l.reverse.dropWhile isB).reverse
theorem dropWhile_snoc (p : UInt8 → Bool) (l : List UInt8) (b : UInt8) : (l ++ [b]).dropWhile p = if l.dropWhile p = [] then (if p b then [] else [b]) else l.dropWhile p ++ [b] := by
  induction l with
  | nil => simp [List.dropWhile]; cases p b <;> rfl
  | cons a l ih =>
    rw [List.cons_append, List.dropWhile_cons, List.dropWhile_cons]
    split
    · exact ih
    · simp
theorem trimR_cons (b : UInt8) (l : List UInt8) : trimR (b :: l) = if trimR l = [] then (if isB b then [] else [b]) else b :: trimR l := by
  unfold trimR
  rw [List.reverse_cons, dropWhile_snoc]
  simp only [List.reverse_eq_nil_iff]
  split
  · split <;> simp
  · simp
theorem trimR_nil : trimR [] = [] := rfl
theorem trimL_comm (l : List UInt8) : trimL l = trimR (l.dropWhile isB) := by
  show (trimR l).dropWhile isB = _
  induction l with
  | nil => rfl
  | cons b l ih =>
    rw [trimR_cons, List.dropWhile_cons]
    by_cases hb : isB b = true
    · rw [if_pos hb, if_pos hb, ← ih]
      split
      · rename_i h; rw [h]
      · rw [List.dropWhile_cons, if_pos hb]
    · rw [if_neg hb, if_neg hb, trimR_cons, if_neg hb]
      split
      · rw [List.dropWhile_cons, if_neg hb]
      · rw [List.dropWhile_cons, if_neg hb]
end

section
open Go.RowKit

theorem wrap_pow (k : Nat) (h : k < 64) : IntKind.u64.wrap (2 ^ k) = ((2 ^ k : Nat) : Int) := by
  have h2 : (2 : Nat) ^ k < 18446744073709551616 := Nat.lt_of_lt_of_eq (Nat.pow_lt_pow_right (by omega) h) (by decide)
  have h3 : ((2 : Int) ^ k) = ((2 ^ k : Nat) : Int) := by simp
  rw [IntKind.wrap_u64, h3]
  obtain ⟨x, hx⟩ : ∃ x : Nat, 2 ^ k = x := ⟨_, rfl⟩
  rw [hx] at h2 ⊢
  omega
theorem shr_nat (a k : Nat) : ((a : Int) / 2 ^ k) = ((a >>> k : Nat) : Int) := by
  rw [Nat.shiftRight_eq_div_pow]; simp
def setW (p : Nat → Bool) : Array Value := #[.int .u64 (word p 0), .int .u64 (word p 1), .int .u64 (word p 2), .int .u64 (word p 3)]
def setV (p : Nat → Bool) : Value := .agg (setW p)

/-- the bytes of a list, as a set -/
def inB (l : List UInt8) (x : Nat) : Bool := l.any fun b => decide (x = b.toNat)
theorem inB_snoc (l : List UInt8) (b : UInt8) : inB (l ++ [b]) = fun x => inB l x || decide (x = b.toNat) := by
  funext x; simp [inB]
theorem setW_put (p : Nat → Bool) (n : Nat) (hn : n < 256) : (setW p).setIfInBounds (n / 64) (.int .u64 ((word p (n / 64) ||| 2 ^ (n % 64) : Nat) : Int)) = setW (fun x => p x || decide (x = n)) := by
  rw [word_put]
  have h4 : n / 64 = 0 ∨ n / 64 = 1 ∨ n / 64 = 2 ∨ n / 64 = 3 := by omega
  unfold setW
  rcases h4 with h | h | h | h <;> rw [h]
  · rw [word_put_other p n 1 (by omega), word_put_other p n 2 (by omega), word_put_other p n 3 (by omega)]; rfl
  · rw [word_put_other p n 0 (by omega), word_put_other p n 2 (by omega), word_put_other p n 3 (by omega)]; rfl
  · rw [word_put_other p n 1 (by omega), word_put_other p n 0 (by omega), word_put_other p n 3 (by omega)]; rfl
  · rw [word_put_other p n 1 (by omega), word_put_other p n 2 (by omega), word_put_other p n 0 (by omega)]; rfl
theorem setW_get (p : Nat → Bool) (k : Nat) (hk : k < 4) : (setW p)[k]? = some (.int .u64 (word p k)) := by
  have h4 : k = 0 ∨ k = 1 ∨ k = 2 ∨ k = 3 := by omega
  rcases h4 with h | h | h | h <;> rw [h] <;> rfl
theorem setW_none : setW (fun _ => false) = #[.int .u64 0, .int .u64 0, .int .u64 0, .int .u64 0] := by
  unfold setW; simp [word_none]

theorem blk_setW {w : World} {g : Nat} {t : TypeId} {p : Nat → Bool} (h : Blk w g t (setW p)) :
    w.cell? ⟨g, 0, none⟩ = some (.int .u64 (word p 0)) ∧ w.cell? ⟨g, 1, none⟩ = some (.int .u64 (word p 1)) ∧ w.cell? ⟨g, 2, none⟩ = some (.int .u64 (word p 2)) ∧ w.cell? ⟨g, 3, none⟩ = some (.int .u64 (word p 3)) :=
  ⟨h.cell 0, h.cell 1, h.cell 2, h.cell 3⟩
theorem Of_any (A : Option Addr) (len c : Nat) (bs : List UInt8) (w : World) (hr : Reads w w.heap.size 1 A len (bs.map fun b => Value.int .u8 b.toNat)) (hlen : len ≤ 9223372036854775807) :
    Calls Tryz.prog 90 #[.slice A len c] w fun e w' => e = .returned (setV (inB bs)) ∧ Below w.heap.size w w' := by
  have hbl : bs.length = len := by have := hr.1; simpa using this
  have HR := Lib.hid hr
  clear hr
  go_enter Tryz.func90, Tryz.ntmps90
  go_wp2_with fail
  go_loopw [5, 8] (fun _ i wr => ∃ k : Nat, i = .int .i64 k ∧ k ≤ len ∧ Hid (Blk wr (w.heap.size + 1) 116 (setW (inB (bs.take k)))) ∧ Hid (Blk wr w.heap.size 116 (setW fun _ => false)) ∧ Below w.heap.size w wr) (fun _ i _ => len - (intOf i).toNat)
  case atStart =>
    have h0 := setW_none
    have hA := Blk.new (w.alloc (.cells (setW fun _ => false) 116)) 116 (setW fun _ => false)
    have hB := (Blk.new w 116 (setW fun _ => false)).alloc (.cells (setW fun _ => false) 116)
    have hC := ((Below.refl w.heap.size w).alloc (Nat.le_refl _) (.cells (setW fun _ => false) 116)).alloc (by simp) (.cells (setW fun _ => false) 116)
    rw [h0] at hA hB hC
    refine ⟨0, rfl, by omega, hide ?_, hide ?_, hC⟩
    · rw [show inB (bs.take 0) = fun _ => false from rfl, h0]
      simpa using hA
    · rw [h0]; exact hB
  case round =>
    obtain ⟨k, rfl, hk, HS, HZ, hb⟩ := hrel
    rename World => W0
    by_cases hlt : k < len
    · obtain ⟨ad, u, hA, hadb, hx, hc⟩ := HR.out.at_ hlt
      subst hA
      have hkl : k < bs.length := by omega
      have hu : u = .int .u8 bs[k].toNat := by rw [List.getElem?_map, List.getElem?_eq_getElem hkl] at hx; simpa using hx.symm
      subst hu
      have hcell : W0.cell? (ad.add k) = some (.int .u8 bs[k].toNat) := by
        rw [hb.cell (by rw [block_of_add]; exact hadb)]; exact hc
      have hb8 := bs[k].toNat_lt
      have htk : bs.take (k + 1) = bs.take k ++ [bs[k]] := by rw [List.take_succ_eq_append_getElem hkl]
      obtain ⟨z, hz⟩ : ∃ z, bs[k] = z := ⟨_, rfl⟩
      rw [hz] at hcell hb8 htk
      obtain ⟨n, hn⟩ : ∃ n, z.toNat = n := ⟨_, rfl⟩
      rw [hn] at hcell hb8
      have hn8 : n < 256 := hb8
      have hcs : W0.cell? ⟨w.heap.size + 1, n / 64, none⟩ = some (.int .u64 (word (inB (bs.take k)) (n / 64))) := by
        rw [HS.out.cell, setW_get _ _ (by omega)]
      have hfz := HS.out.frozen (n / 64)
      clear hx hc hb8
      go_wp2_with fail
      go_roundw
      case rel =>
        have h1 : IntKind.u64.wrap (2 ^ (n % 64)) = ((2 ^ (n % 64) : Nat) : Int) := wrap_pow _ (Nat.mod_lt _ (by omega))
        have h2 := bits_or_u64_nat (word (inB (bs.take k)) (n / 64)) (2 ^ (n % 64)) (word_lt _ _) (Nat.pow_lt_pow_right (by omega) (Nat.mod_lt _ (by omega)))
        rw [h1, h2]
        refine ⟨k + 1, by go_num, by omega, hide ?_, hide (HZ.out.far (by simp) _), hb.setCell (by simp) _⟩
        have h3 := HS.out.set_ (n / 64) (.int .u64 ((word (inB (bs.take k)) (n / 64) ||| 2 ^ (n % 64) : Nat) : Int))
        rw [setW_put _ n hn8] at h3
        rw [htk, inB_snoc, hn]
        exact h3
      case measure => simp [intOf]; omega
    · have hkl : k = len := by omega
      subst hkl
      have hd : decide ((k : Int) < (k : Int)) = false := by simp
      have hS := HS.out
      have hZ := HZ.out
      rw [← hbl, List.take_length] at hS
      obtain ⟨s0, s1, s2, s3⟩ := blk_setW hS
      obtain ⟨z0, z1, z2, z3⟩ := blk_setW hZ
      have f0 := hZ.frozen 0; have f1 := hZ.frozen 1; have f2 := hZ.frozen 2; have f3 := hZ.frozen 3
      go_wp2_with fail
      refine bodyPost_ret (results_cell_row (p := 2) (ty := 116) (by kernel_rfl) _ _ w.heap.size 116 (setW (inB bs)) (0, 0) (.array 4 114) rfl ((((hZ.set_ 0 _).set_ 1 _).set_ 2 _).set_ 3 _) Tryz.underlying116 rfl (by kernel_rfl)) rfl ?_
      exact ⟨rfl, (((hb.setCell (by simp) _).setCell (by simp) _).setCell (by simp) _).setCell (by simp) _⟩

def anyP (ps : List (Nat → Bool)) (x : Nat) : Bool := ps.any fun p => p x
def setsC (ps : List (Nat → Bool)) : List Value := ps.flatMap fun p => (setW p).toList
theorem setsC_len (ps : List (Nat → Bool)) : (setsC ps).length = ps.length * 4 := by
  induction ps with
  | nil => rfl
  | cons p ps ih => simp only [setsC, List.flatMap_cons, List.length_append] at ih ⊢; rw [ih]; simp [setW]; omega
theorem setsC_get (ps : List (Nat → Bool)) (k j : Nat) (p : Nat → Bool) (hk : ps[k]? = some p) (hj : j < 4) : (setsC ps)[4 * k + j]? = some (.int .u64 (word p j)) := by
  induction ps generalizing k with
  | nil => simp at hk
  | cons q ps ih =>
    simp only [setsC, List.flatMap_cons]
    cases k with
    | zero =>
      simp at hk; subst hk
      rw [List.getElem?_append_left (by simp [setW]; omega)]
      have := setW_get q j hj
      simpa using this
    | succ k =>
      rw [List.getElem?_append_right (by simp [setW]; omega)]
      have h := ih k (by simpa using hk)
      rw [← h]
      simp only [setsC]
      congr 1
      simp [setW]; omega

/-- the words while two sets are being joined: the first j are done -/
def mixW (p q : Nat → Bool) (j : Nat) : Array Value :=
  #[.int .u64 (word (if 0 < j then fun x => p x || q x else p) 0), .int .u64 (word (if 1 < j then fun x => p x || q x else p) 1),
    .int .u64 (word (if 2 < j then fun x => p x || q x else p) 2), .int .u64 (word (if 3 < j then fun x => p x || q x else p) 3)]
theorem mixW_zero (p q : Nat → Bool) : mixW p q 0 = setW p := rfl
theorem mixW_four (p q : Nat → Bool) : mixW p q 4 = setW (fun x => p x || q x) := rfl
theorem mixW_get (p q : Nat → Bool) (j : Nat) (hj : j < 4) : (mixW p q j)[j]? = some (.int .u64 (word p j)) := by
  have h4 : j = 0 ∨ j = 1 ∨ j = 2 ∨ j = 3 := by omega
  rcases h4 with h | h | h | h <;> subst h <;> rfl
theorem mixW_put (p q : Nat → Bool) (j : Nat) (hj : j < 4) : (mixW p q j).setIfInBounds j (.int .u64 ((word p j ||| word q j : Nat) : Int)) = mixW p q (j + 1) := by
  rw [word_or]
  have h4 : j = 0 ∨ j = 1 ∨ j = 2 ∨ j = 3 := by omega
  rcases h4 with h | h | h | h <;> subst h <;> rfl
theorem anyP_snoc (ps : List (Nat → Bool)) (p : Nat → Bool) : anyP (ps ++ [p]) = fun x => anyP ps x || p x := by
  funext x; simp [anyP]

theorem Union_any (A : Option Addr) (len c : Nat) (ps : List (Nat → Bool)) (w : World) (hr : Reads w w.heap.size 4 A len (setsC ps)) (hlen : len ≤ 9223372036854775807) :
    Calls Tryz.prog 93 #[.slice A len c] w fun e w' => e = .returned (setV (anyP ps)) ∧ Below w.heap.size w w' := by
  have hpl : ps.length = len := by have := hr.1; rw [setsC_len] at this; omega
  have HR := Lib.hid hr
  clear hr
  go_enter Tryz.func93, Tryz.ntmps93
  go_wp2_with fail
  go_loopw [5, 6, 9] (fun _ _ i wr => ∃ k : Nat, i = .int .i64 k ∧ k ≤ len ∧ Hid (Blk wr (w.heap.size + 1) 116 (setW (anyP (ps.take k)))) ∧ Hid (Blk wr w.heap.size 116 (setW fun _ => false)) ∧ Below w.heap.size w wr) (fun _ _ i _ => len - (intOf i).toNat)
  case atStart =>
    have h0 := setW_none
    have hA := Blk.new (w.alloc (.cells (setW fun _ => false) 116)) 116 (setW fun _ => false)
    have hB := (Blk.new w 116 (setW fun _ => false)).alloc (.cells (setW fun _ => false) 116)
    have hC := ((Below.refl w.heap.size w).alloc (Nat.le_refl _) (.cells (setW fun _ => false) 116)).alloc (by simp) (.cells (setW fun _ => false) 116)
    rw [h0] at hA hB hC
    refine ⟨0, rfl, by omega, hide ?_, hide ?_, hC⟩
    · rw [show anyP (ps.take 0) = fun _ => false from rfl, h0]
      simpa using hA
    · rw [h0]; exact hB
  case round =>
    obtain ⟨k, rfl, hk, HS, HZ, hb⟩ := hrel
    rename World => W0
    by_cases hlt : k < len
    · obtain ⟨ad, hA, hadb, hc⟩ := HR.out.2 (by omega)
      subst hA
      have hkl : k < ps.length := by omega
      obtain ⟨p, hp⟩ : ∃ p, ps[k]? = some p := ⟨_, List.getElem?_eq_getElem hkl⟩
      have hcell : ∀ j, j < 4 → W0.cell? (ad.add (4 * k + j)) = some (.int .u64 (word p j)) := fun j hj => by
        rw [hb.cell (by rw [block_of_add]; exact hadb)]
        exact hc _ _ (setsC_get ps k j p hp hj)
      have htk : ps.take (k + 1) = ps.take k ++ [p] := by rw [List.take_add_one, hp]; rfl
      obtain ⟨ab, ao, spot⟩ := ad
      have hspot : spot = none := by simpa [Addr.add] using World.cell?_spot (hc 0 _ (setsC_get ps 0 0 _ (List.getElem?_eq_getElem (by omega)) (by omega)))
      subst hspot
      have hcl : ∀ j, j < 4 → W0.cell? ⟨ab, ao + k * 4 + j, none⟩ = some (.int .u64 (word p j)) := fun j hj => by
        have := hcell j hj
        rw [Addr.add_lit] at this
        rw [← this]; congr 2; omega
      have hc0 := hcl 0 (by omega); have hc1 := hcl 1 (by omega); have hc2 := hcl 2 (by omega); have hc3 := hcl 3 (by omega)
      rw [Nat.add_zero] at hc0
      clear hcell hc hcl
      have hlt0 := HS.out.lt
      obtain ⟨q, hq⟩ : ∃ q, anyP (ps.take k) = q := ⟨_, rfl⟩
      have htq : anyP (ps.take (k + 1)) = fun x => q x || p x := by rw [htk, anyP_snoc, hq]
      rw [hq] at HS
      go_wp2_with fail
      go_loopw [6, 13] (fun _ i wr => ∃ j : Nat, i = .int .i64 j ∧ j ≤ 4 ∧ Hid (Blk wr (w.heap.size + 1) 116 (mixW q p j)) ∧ Hid (Blk wr w.heap.size 116 (setW fun _ => false)) ∧ Hid (Blk wr W0.heap.size 116 (setW p)) ∧ Below w.heap.size w wr) (fun _ i _ => 4 - (intOf i).toNat)
      case atStart =>
        exact ⟨0, rfl, by omega, hide (HS.out.alloc _), hide (HZ.out.alloc _), hide (Blk.new _ _ _), hb.alloc hb.size _⟩
      case round =>
        obtain ⟨j, rfl, hj, HM, HZ', HP, hb'⟩ := hrel
        rename World => W1
        by_cases hj4 : j < 4
        · have hm : W1.cell? ⟨w.heap.size + 1, j, none⟩ = some (.int .u64 (word q j)) := by rw [HM.out.cell, mixW_get _ _ _ hj4]
          have hpj : W1.cell? ⟨W0.heap.size, j, none⟩ = some (.int .u64 (word p j)) := by rw [HP.out.cell, setW_get _ _ hj4]
          have hfz := HM.out.frozen j
          go_wp2_with fail
          go_region
          all_goals go_wp2_with fail
          all_goals go_roundw
          case rel =>
            have h2 := bits_or_u64_nat (word q j) (word p j) (word_lt _ _) (word_lt _ _)
            rw [h2]
            have h3 := HM.out.set_ j (.int .u64 ((word q j ||| word p j : Nat) : Int))
            rw [mixW_put q p j hj4] at h3
            exact ⟨j + 1, by go_num, by omega, hide h3.drew, hide (HZ'.out.far (by simp) _).drew, hide (HP.out.far (by simp; omega) _).drew, (hb'.setCell (by simp) _).drew⟩
          case measure => simp [intOf]; omega
        · have hj5 : j = 4 := by omega
          subst hj5
          go_wp2_with fail
          go_roundw
          case rel =>
            refine ⟨k + 1, by go_num, by omega, ?_, HZ', hb'⟩
            rw [htq]; exact HM
          case measure => simp [intOf]; omega
    · have hkl : k = len := by omega
      subst hkl
      have hd : decide ((k : Int) < (k : Int)) = false := by simp
      have hS := HS.out
      have hZ := HZ.out
      rw [← hpl, List.take_length] at hS
      obtain ⟨s0, s1, s2, s3⟩ := blk_setW hS
      obtain ⟨z0, z1, z2, z3⟩ := blk_setW hZ
      have f0 := hZ.frozen 0; have f1 := hZ.frozen 1; have f2 := hZ.frozen 2; have f3 := hZ.frozen 3
      go_wp2_with fail
      refine bodyPost_ret (results_cell_row (p := 2) (ty := 116) (by kernel_rfl) _ _ w.heap.size 116 (setW (anyP ps)) (0, 0) (.array 4 114) rfl ((((hZ.set_ 0 _).set_ 1 _).set_ 2 _).set_ 3 _) Tryz.underlying116 rfl (by kernel_rfl)) rfl ?_
      exact ⟨rfl, (((hb.setCell (by simp) _).setCell (by simp) _).setCell (by simp) _).setCell (by simp) _⟩
end

section
open Go.RowKit

theorem word_not (p : Nat → Bool) (k : Nat) : 18446744073709551615 ^^^ word p k = word (fun x => !p x) k := by
  refine word_ext _ _ (Nat.xor_lt_two_pow (n := 64) (by decide) (word_lt p k)) (word_lt _ k) fun i hi => ?_
  rw [Nat.testBit_xor, word_bit _ _ _ hi, word_bit _ _ _ hi, show (18446744073709551615 : Nat) = 2 ^ 64 - 1 by decide, Nat.testBit_two_pow_sub_one]
  simp [hi]
/-- the words while a set is being turned: the first j are done -/
def notW (p : Nat → Bool) (j : Nat) : Array Value :=
  #[.int .u64 (word (if 0 < j then fun x => !p x else p) 0), .int .u64 (word (if 1 < j then fun x => !p x else p) 1),
    .int .u64 (word (if 2 < j then fun x => !p x else p) 2), .int .u64 (word (if 3 < j then fun x => !p x else p) 3)]
theorem notW_zero (p : Nat → Bool) : notW p 0 = setW p := rfl
theorem notW_four (p : Nat → Bool) : notW p 4 = setW (fun x => !p x) := rfl
theorem notW_get (p : Nat → Bool) (j : Nat) (hj : j < 4) : (notW p j)[j]? = some (.int .u64 (word p j)) := by
  have h4 : j = 0 ∨ j = 1 ∨ j = 2 ∨ j = 3 := by omega
  rcases h4 with h | h | h | h <;> subst h <;> rfl
theorem notW_put (p : Nat → Bool) (j : Nat) (hj : j < 4) : (notW p j).setIfInBounds j (.int .u64 ((18446744073709551615 ^^^ word p j : Nat) : Int)) = notW p (j + 1) := by
  rw [word_not]
  have h4 : j = 0 ∨ j = 1 ∨ j = 2 ∨ j = 3 := by omega
  rcases h4 with h | h | h | h <;> subst h <;> rfl

theorem Not_any (p : Nat → Bool) (w : World) : Calls Tryz.prog 122 #[setV p] w fun e w' => e = .returned (setV fun x => !p x) ∧ Below w.heap.size w w' := by
  unfold setV
  have e : setW p = #[.int .u64 (word p 0), .int .u64 (word p 1), .int .u64 (word p 2), .int .u64 (word p 3)] := rfl
  rw [e]
  go_enter Tryz.func122, Tryz.ntmps122
  go_wp2_with fail
  go_loopw [3, 4] (fun _ i wr => ∃ j : Nat, i = .int .i64 j ∧ j ≤ 4 ∧ Hid (Blk wr w.heap.size 116 (notW p j)) ∧ Hid (Blk wr (w.heap.size + 1) 116 (setW fun _ => false)) ∧ Below w.heap.size w wr) (fun _ i _ => 4 - (intOf i).toNat)
  case atStart =>
    have hA := Blk.new (w.alloc (.cells (setW p) 116)) 116 (setW fun _ => false)
    have hB := (Blk.new w 116 (setW p)).alloc (.cells (setW fun _ => false) 116)
    have hC := ((Below.refl w.heap.size w).alloc (Nat.le_refl _) (.cells (setW p) 116)).alloc (by simp) (.cells (setW fun _ => false) 116)
    rw [setW_none] at hA hB hC
    refine ⟨0, rfl, by omega, hide hB, hide ?_, hC⟩
    rw [setW_none]
    have e1 : (w.alloc (.cells (setW p) 116)).heap.size = w.heap.size + 1 := by simp
    rw [e1] at hA
    exact hA
  case round =>
    obtain ⟨j, rfl, hj, HM, HZ, hb⟩ := hrel
    rename World => W1
    by_cases hj4 : j < 4
    · have hm : W1.cell? ⟨w.heap.size, j, none⟩ = some (.int .u64 (word p j)) := by rw [HM.out.cell, notW_get _ _ hj4]
      have hfz := HM.out.frozen j
      go_wp2_with fail
      go_roundw
      case rel =>
        have h0 := word_lt p j
        have h3 := HM.out.set_ j (.int .u64 ((18446744073709551615 ^^^ word p j : Nat) : Int))
        rw [notW_put p j hj4] at h3
        have hx : bits .xor .u64 (if IntKind.u64.signed = true then -1 else IntKind.u64.max) (word p j) = ((18446744073709551615 ^^^ word p j : Nat) : Int) := by
          have := u64_xor 18446744073709551615 (word p j) (by omega) (by omega) (by omega) (by omega)
          exact this
        rw [hx]
        exact ⟨j + 1, by go_num, by omega, hide h3, hide (HZ.out.far (by simp) _), hb.setCell (by simp) _⟩
      case measure => simp [intOf]; omega
    · have hj5 : j = 4 := by omega
      subst hj5
      have hS := HM.out
      have hZ := HZ.out
      rw [notW_four] at hS
      obtain ⟨s0, s1, s2, s3⟩ := blk_setW hS
      obtain ⟨z0, z1, z2, z3⟩ := blk_setW hZ
      have f0 := hZ.frozen 0; have f1 := hZ.frozen 1; have f2 := hZ.frozen 2; have f3 := hZ.frozen 3
      go_wp2_with fail
      refine bodyPost_ret (results_cell_row (p := 2) (ty := 116) (by kernel_rfl) _ _ (w.heap.size + 1) 116 (setW fun x => !p x) (0, 0) (.array 4 114) rfl ((((hZ.set_ 0 _).set_ 1 _).set_ 2 _).set_ 3 _) Tryz.underlying116 rfl (by kernel_rfl)) rfl ?_
      exact ⟨rfl, (((hb.setCell (by simp) _).setCell (by simp) _).setCell (by simp) _).setCell (by simp) _⟩
/-- the words while two sets are being cut: the first j are done -/
def andW (p q : Nat → Bool) (j : Nat) : Array Value :=
  #[.int .u64 (word (if 0 < j then fun x => p x && q x else p) 0), .int .u64 (word (if 1 < j then fun x => p x && q x else p) 1),
    .int .u64 (word (if 2 < j then fun x => p x && q x else p) 2), .int .u64 (word (if 3 < j then fun x => p x && q x else p) 3)]
theorem andW_zero (p q : Nat → Bool) : andW p q 0 = setW p := rfl
theorem andW_four (p q : Nat → Bool) : andW p q 4 = setW (fun x => p x && q x) := rfl
theorem andW_get (p q : Nat → Bool) (j : Nat) (hj : j < 4) : (andW p q j)[j]? = some (.int .u64 (word p j)) := by
  have h4 : j = 0 ∨ j = 1 ∨ j = 2 ∨ j = 3 := by omega
  rcases h4 with h | h | h | h <;> subst h <;> rfl
theorem andW_put (p q : Nat → Bool) (j : Nat) (hj : j < 4) : (andW p q j).setIfInBounds j (.int .u64 ((word p j &&& word q j : Nat) : Int)) = andW p q (j + 1) := by
  rw [word_and]
  have h4 : j = 0 ∨ j = 1 ∨ j = 2 ∨ j = 3 := by omega
  rcases h4 with h | h | h | h <;> subst h <;> rfl
def allP (ps : List (Nat → Bool)) (x : Nat) : Bool := ps.all fun p => p x
theorem allP_snoc (ps : List (Nat → Bool)) (p : Nat → Bool) : allP (ps ++ [p]) = fun x => allP ps x && p x := by
  funext x; simp [allP]
theorem NotZ (w : World) : Calls Tryz.prog 122 #[.agg #[.int .u64 0, .int .u64 0, .int .u64 0, .int .u64 0]] w fun e w' =>
    e = .returned (.agg #[.int .u64 (word (allP []) 0), .int .u64 (word (allP []) 1), .int .u64 (word (allP []) 2), .int .u64 (word (allP []) 3)]) ∧ Below w.heap.size w w' := by
  have h := Not_any (fun _ => false) w
  unfold setV at h
  rw [setW_none] at h
  exact h

theorem Common_any (A : Option Addr) (len c : Nat) (ps : List (Nat → Bool)) (w : World) (hr : Reads w w.heap.size 4 A len (setsC ps)) (hlen : len ≤ 9223372036854775807) :
    Calls Tryz.prog 91 #[.slice A len c] w fun e w' => e = .returned (setV (allP ps)) ∧ Below w.heap.size w w' := by
  have hpl : ps.length = len := by have := hr.1; rw [setsC_len] at this; omega
  have HR := Lib.hid hr
  clear hr
  go_enter Tryz.func91, Tryz.ntmps91
  have CN := Lib.hid NotZ
  go_wp2_with fail
  (with_reducible refine (CN.out _).mono ?_); rintro e w1 ⟨rfl, hb1⟩
  have hlt1 : w.heap.size < w1.heap.size := by have := hb1.size; simp at this; omega
  have hZ0 : Blk w1 w.heap.size 116 (setW fun _ => false) := by
    rw [setW_none]
    exact (Blk.new w _ _).below hb1 (by simp; try omega)
  have hbw1 : Below w.heap.size w w1 := ((Below.refl w.heap.size w).alloc (Nat.le_refl _) _).trans (hb1.mono (by simp; try omega))
  go_wp2_with fail
  go_loopw [5, 6, 11] (fun _ _ i wr => ∃ k : Nat, i = .int .i64 k ∧ k ≤ len ∧ Hid (Blk wr w1.heap.size 116 (setW (allP (ps.take k)))) ∧ Hid (Blk wr w.heap.size 116 (setW fun _ => false)) ∧ Below w.heap.size w wr) (fun _ _ i _ => len - (intOf i).toNat)
  case atStart => exact ⟨0, rfl, by omega, hide (Blk.new _ _ _), hide (hZ0.alloc _), hbw1.alloc (by omega) _⟩
  case round =>
    obtain ⟨k, rfl, hk, HS, HZ, hb⟩ := hrel
    rename World => W0
    by_cases hlt : k < len
    · obtain ⟨ad, hA, hadb, hc⟩ := HR.out.2 (by omega)
      subst hA
      have hkl : k < ps.length := by omega
      obtain ⟨p, hp⟩ : ∃ p, ps[k]? = some p := ⟨_, List.getElem?_eq_getElem hkl⟩
      have hcell : ∀ j, j < 4 → W0.cell? (ad.add (4 * k + j)) = some (.int .u64 (word p j)) := fun j hj => by
        rw [hb.cell (by rw [block_of_add]; exact hadb)]
        exact hc _ _ (setsC_get ps k j p hp hj)
      have htk : ps.take (k + 1) = ps.take k ++ [p] := by rw [List.take_add_one, hp]; rfl
      obtain ⟨ab, ao, spot⟩ := ad
      have hspot : spot = none := by simpa [Addr.add] using World.cell?_spot (hc 0 _ (setsC_get ps 0 0 _ (List.getElem?_eq_getElem (by omega)) (by omega)))
      subst hspot
      have hcl : ∀ j, j < 4 → W0.cell? ⟨ab, ao + k * 4 + j, none⟩ = some (.int .u64 (word p j)) := fun j hj => by
        have := hcell j hj
        rw [Addr.add_lit] at this
        rw [← this]; congr 2; omega
      have hc0 := hcl 0 (by omega); have hc1 := hcl 1 (by omega); have hc2 := hcl 2 (by omega); have hc3 := hcl 3 (by omega)
      rw [Nat.add_zero] at hc0
      clear hcell hc hcl
      have hlt0 := HS.out.lt
      obtain ⟨q, hq⟩ : ∃ q, allP (ps.take k) = q := ⟨_, rfl⟩
      have htq : allP (ps.take (k + 1)) = fun x => q x && p x := by rw [htk, allP_snoc, hq]
      rw [hq] at HS
      go_wp2_with fail
      go_loopw [6, 15] (fun _ i wr => ∃ j : Nat, i = .int .i64 j ∧ j ≤ 4 ∧ Hid (Blk wr w1.heap.size 116 (andW q p j)) ∧ Hid (Blk wr w.heap.size 116 (setW fun _ => false)) ∧ Hid (Blk wr W0.heap.size 116 (setW p)) ∧ Below w.heap.size w wr) (fun _ i _ => 4 - (intOf i).toNat)
      case atStart =>
        exact ⟨0, rfl, by omega, hide (HS.out.alloc _), hide (HZ.out.alloc _), hide (Blk.new _ _ _), hb.alloc hb.size _⟩
      case round =>
        obtain ⟨j, rfl, hj, HM, HZ', HP, hb'⟩ := hrel
        rename World => W1
        by_cases hj4 : j < 4
        · have hm : W1.cell? ⟨w1.heap.size, j, none⟩ = some (.int .u64 (word q j)) := by rw [HM.out.cell, andW_get _ _ _ hj4]
          have hpj : W1.cell? ⟨W0.heap.size, j, none⟩ = some (.int .u64 (word p j)) := by rw [HP.out.cell, setW_get _ _ hj4]
          have hfz := HM.out.frozen j
          go_wp2_with fail
          go_region
          all_goals go_wp2_with fail
          all_goals go_roundw
          case rel =>
            have h2 := bits_and_u64_nat (word q j) (word p j) (word_lt _ _) (word_lt _ _)
            rw [h2]
            have h3 := HM.out.set_ j (.int .u64 ((word q j &&& word p j : Nat) : Int))
            rw [andW_put q p j hj4] at h3
            exact ⟨j + 1, by go_num, by omega, hide h3.drew, hide (HZ'.out.far (by simp; try omega) _).drew, hide (HP.out.far (by simp; omega) _).drew, (hb'.setCell (by simp; try omega) _).drew⟩
          case measure => simp [intOf]; omega
        · have hj5 : j = 4 := by omega
          subst hj5
          go_wp2_with fail
          go_roundw
          case rel =>
            refine ⟨k + 1, by go_num, by omega, ?_, HZ', hb'⟩
            rw [htq]; exact HM
          case measure => simp [intOf]; omega
    · have hkl : k = len := by omega
      subst hkl
      have hd : decide ((k : Int) < (k : Int)) = false := by simp
      have hS := HS.out
      have hZ := HZ.out
      rw [← hpl, List.take_length] at hS
      obtain ⟨s0, s1, s2, s3⟩ := blk_setW hS
      obtain ⟨z0, z1, z2, z3⟩ := blk_setW hZ
      have f0 := hZ.frozen 0; have f1 := hZ.frozen 1; have f2 := hZ.frozen 2; have f3 := hZ.frozen 3
      go_wp2_with fail
      refine bodyPost_ret (results_cell_row (p := 2) (ty := 116) (by kernel_rfl) _ _ w.heap.size 116 (setW (allP ps)) (0, 0) (.array 4 114) rfl ((((hZ.set_ 0 _).set_ 1 _).set_ 2 _).set_ 3 _) Tryz.underlying116 rfl (by kernel_rfl)) rfl ?_
      exact ⟨rfl, (((hb.setCell (by simp; try omega) _).setCell (by simp; try omega) _).setCell (by simp; try omega) _).setCell (by simp; try omega) _⟩
end

section
open Go.RowKit

theorem bytesIn_reads {w : World} {g B : Nat} {s : ByteArray} (h : BytesIn w g s) (hg : g < B) : Reads w B 1 (some ⟨g, 0, none⟩) s.size (s.data.toList.map fun b => Value.int .u8 b.toNat) := by
  refine ⟨by simp, fun _ => ⟨_, rfl, hg, fun j u hu => ?_⟩⟩
  rw [List.getElem?_map] at hu
  by_cases hj : j < s.size
  · have e1 : s.data.toList[j]? = some s[j] := by
      rw [List.getElem?_eq_getElem (by simpa using hj)]; rfl
    rw [e1] at hu
    simp only [Option.map_some, Option.some.injEq] at hu
    subst hu
    have := h j hj
    rw [Addr.add_lit]
    simpa using this
  · rw [List.getElem?_eq_none (by simp; omega)] at hu
    simp at hu

theorem eqSet (a0 a1 a2 a3 b0 b1 b2 b3 : Int) (w : World) : (binOp .eql 116 (.agg #[.int .u64 a0, .int .u64 a1, .int .u64 a2, .int .u64 a3]) (.agg #[.int .u64 b0, .int .u64 b1, .int .u64 b2, .int .u64 b3])).run Tryz.prog w = .ok (.bool (a0 == b0 && a1 == b1 && a2 == b2 && a3 == b3)) w := by
  have u3 := Tryz.underlying114
  have a3' := Tryz.isAgg114
  have z3 := Tryz.sizeOf114
  rw [run_eql_struct, show (10000 : Nat) = 9999 + 1 from rfl, Op.equalIn]
  simp only [Sem.run_bind, run_underlying Tryz.underlying116, Result.andThen_ok]
  simp only [Std.Legacy.Range.forIn_eq_forIn_range', Std.Legacy.Range.size, Nat.sub_zero, Nat.add_sub_cancel, Nat.div_one, List.range'_succ, List.range'_zero, List.forIn_cons, List.forIn_nil]
  go_simp
  by_cases h0 : a0 = b0 <;> by_cases h1 : a1 = b1 <;> by_cases h2 : a2 = b2 <;> by_cases h3 : a3 = b3 <;> simp [h0, h1, h2, h3]

theorem word_ne (p : Nat → Bool) (bs : List UInt8) (b : UInt8) (hb : b ∈ bs) (hp : p b.toNat = false) : ((word (allP [p, inB bs]) (b.toNat / 64) : Int) == (word (inB bs) (b.toNat / 64) : Int)) = false := by
  rw [beq_eq_false_iff_ne]
  intro h
  have h1 : word (allP [p, inB bs]) (b.toNat / 64) = word (inB bs) (b.toNat / 64) := by exact_mod_cast h
  have h2 := word_bit (allP [p, inB bs]) (b.toNat / 64) (b.toNat % 64) (Nat.mod_lt _ (by omega))
  have h3 := word_bit (inB bs) (b.toNat / 64) (b.toNat % 64) (Nat.mod_lt _ (by omega))
  rw [h1, h3, show 64 * (b.toNat / 64) + b.toNat % 64 = b.toNat by omega] at h2
  have hin : inB bs b.toNat = true := by simp only [inB, List.any_eq_true]; exact ⟨b, hb, by simp⟩
  rw [hin] at h2
  simp [allP, hp] at h2
theorem sub_all (p : Nat → Bool) (bs : List UInt8) : ((word (allP [p, inB bs]) 0 : Int) == (word (inB bs) 0 : Int) && (word (allP [p, inB bs]) 1 : Int) == (word (inB bs) 1 : Int) && (word (allP [p, inB bs]) 2 : Int) == (word (inB bs) 2 : Int) && (word (allP [p, inB bs]) 3 : Int) == (word (inB bs) 3 : Int)) = bs.all fun b => p b.toNat := by
  by_cases h : ∀ b ∈ bs, p b.toNat = true
  · have e : allP [p, inB bs] = inB bs := by
      funext x
      cases hx : inB bs x with
      | false => simp [allP, hx]
      | true =>
        simp only [inB, List.any_eq_true] at hx
        obtain ⟨b, hb, hxb⟩ := hx
        have hxb' : x = b.toNat := by simpa using hxb
        have hin : inB bs x = true := by simp only [inB, List.any_eq_true]; exact ⟨b, hb, hxb⟩
        simp [allP, hxb', h b hb]
        rw [← hxb']; exact hin
    rw [e, List.all_eq_true.2 h]; simp
  · have h' : ∃ b ∈ bs, p b.toNat = false := by
      apply Classical.byContradiction
      intro hn
      apply h
      intro b hb
      cases hp : p b.toNat with
      | true => rfl
      | false => exact absurd ⟨b, hb, hp⟩ hn
    obtain ⟨b, hb, hp⟩ := h'
    have hw := word_ne p bs b hb hp
    have hr : (bs.all fun b => p b.toNat) = false := by
      rw [List.all_eq_false]; exact ⟨b, hb, by simp [hp]⟩
    have hb8 := b.toNat_lt
    have h4 : b.toNat / 64 = 0 ∨ b.toNat / 64 = 1 ∨ b.toNat / 64 = 2 ∨ b.toNat / 64 = 3 := by omega
    rw [hr]
    rcases h4 with h4 | h4 | h4 | h4 <;> rw [h4] at hw <;> simp only [hw, Bool.and_false, Bool.false_and]

theorem All_any (p : Nat → Bool) (s : ByteArray) (w : World) (hs : s.size ≤ 9223372036854775807) :
    Calls Tryz.prog 60 #[setV p, .string s] w fun e w' => e = .returned (.bool (s.data.toList.all fun b => p b.toNat)) ∧ Below w.heap.size w w' := by
  unfold setV
  have e : setW p = #[.int .u64 (word p 0), .int .u64 (word p 1), .int .u64 (word p 2), .int .u64 (word p 3)] := rfl
  obtain ⟨w0, hw0⟩ : ∃ w0, w.alloc (.cells (setW p) 116) = w0 := ⟨_, rfl⟩
  have hS0 : Blk w0 w.heap.size 116 (setW p) := by rw [← hw0]; exact Blk.new _ _ _
  have hb0 : Below w.heap.size w w0 := by rw [← hw0]; exact (Below.refl _ _).alloc (Nat.le_refl _) _
  have hz0 : w0.heap.size = w.heap.size + 1 := by rw [← hw0]; simp
  obtain ⟨cap, w1, hr, hb1, hsz, hbi, _⟩ := bytes_of_string (P := Tryz.prog) 9 50 5 Tryz.underlying9 Tryz.underlying50 Tryz.underlying5 w0 s
  have hS1 : Blk w1 w.heap.size 116 (setW p) := hS0.below hb1 (by omega)
  have cOf := Of_any (some ⟨w0.heap.size, 0, none⟩) s.size cap s.data.toList w1 (bytesIn_reads hbi hsz) hs
  have hb1' := hb0.trans (hb1.mono (by omega))
  obtain ⟨q, hq⟩ : ∃ q, inB s.data.toList = q := ⟨_, rfl⟩
  rw [hq, hz0] at cOf
  unfold setV at cOf
  rw [show setW q = #[.int .u64 (word q 0), .int .u64 (word q 1), .int .u64 (word q 2), .int .u64 (word q 3)] from rfl] at cOf
  have COF := Lib.hid cOf
  rw [e] at hw0 ⊢
  clear cOf
  go_enter Tryz.func60, Tryz.ntmps60
  go_wp2_with fail
  (with_reducible refine (COF.out).mono ?_); rintro r w2 ⟨rfl, hb2⟩
  have hS2 : Blk w2 w.heap.size 116 (setW p) := hS1.below hb2 (by have := hb1.size; omega)
  have hb2' := hb1'.trans (hb2.mono hb1'.size)
  have hs2 : w.heap.size < w2.heap.size := by have := hb1.size; have := hb2.size; omega
  go_wp2_with fail
  obtain ⟨w3, hw3⟩ : ∃ w3, w2.alloc (.cells (setW q) 116) = w3 := ⟨_, rfl⟩
  have hS3 : Blk w3 w.heap.size 116 (setW p) := by rw [← hw3]; exact hS2.alloc _
  have hQ3 : Blk w3 w2.heap.size 116 (setW q) := by rw [← hw3]; exact Blk.new _ _ _
  have hb3 : Below w.heap.size w w3 := by rw [← hw3]; exact hb2'.alloc hb2'.size _
  have hsz3 : w3.heap.size = w2.heap.size + 1 := by rw [← hw3]; simp
  rw [show setW q = #[.int .u64 (word q 0), .int .u64 (word q 1), .int .u64 (word q 2), .int .u64 (word q 3)] from rfl] at hw3
  rw [hw3]
  obtain ⟨p0, p1, p2, p3⟩ := blk_setW hS3
  obtain ⟨q0, q1, q2, q3⟩ := blk_setW hQ3
  obtain ⟨w4, hw4⟩ : ∃ w4, (w3.alloc (.cells #[.int .u64 (word p 0), .int .u64 (word p 1), .int .u64 (word p 2), .int .u64 (word p 3), .int .u64 (word q 0), .int .u64 (word q 1), .int .u64 (word q 2), .int .u64 (word q 3)] 116)).drew = w4 := ⟨_, rfl⟩
  have hS4 : Blk w4 w.heap.size 116 (setW p) := by rw [← hw4]; exact (hS3.alloc _).drew
  have hQ4 : Blk w4 w2.heap.size 116 (setW q) := by rw [← hw4]; exact (hQ3.alloc _).drew
  have hb4 : Below w.heap.size w w4 := by rw [← hw4]; exact (hb3.alloc hb3.size _).drew
  have hN4 : Blk w4 w3.heap.size 116 (setsC [p, q]).toArray := by rw [← hw4]; exact (Blk.new w3 _ _).drew
  have cC0 := Common_any (some ⟨w3.heap.size, 0, none⟩) 2 2 [p, q] w4 ⟨by simp [setsC_len], fun _ => ⟨_, rfl, hN4.lt, fun j u hu => by
    rw [Addr.add_lit, Nat.zero_add, hN4.cell]
    simpa using hu⟩⟩ (by omega)
  have cC : Calls Tryz.prog 91 #[.slice (some ⟨w2.heap.size + 1, 0, none⟩) 2 2] w4 fun e w5 => e = .returned (.agg #[.int .u64 (word (allP [p, q]) 0), .int .u64 (word (allP [p, q]) 1), .int .u64 (word (allP [p, q]) 2), .int .u64 (word (allP [p, q]) 3)]) ∧ Below w4.heap.size w4 w5 ∧ (w5.cell? ⟨w.heap.size, 0, none⟩ = some (.int .u64 (word p 0)) ∧ w5.cell? ⟨w.heap.size, 1, none⟩ = some (.int .u64 (word p 1)) ∧ w5.cell? ⟨w.heap.size, 2, none⟩ = some (.int .u64 (word p 2)) ∧ w5.cell? ⟨w.heap.size, 3, none⟩ = some (.int .u64 (word p 3))) ∧
      w5.cell? ⟨w2.heap.size, 0, none⟩ = some (.int .u64 (word q 0)) ∧ w5.cell? ⟨w2.heap.size, 1, none⟩ = some (.int .u64 (word q 1)) ∧ w5.cell? ⟨w2.heap.size, 2, none⟩ = some (.int .u64 (word q 2)) ∧ w5.cell? ⟨w2.heap.size, 3, none⟩ = some (.int .u64 (word q 3)) := by
    rw [← hsz3]
    refine cC0.mono fun e w5 ⟨he, hb5⟩ => ⟨he, hb5, blk_setW (hS4.below hb5 hS4.lt), ?_⟩
    exact blk_setW (hQ4.below hb5 hQ4.lt)
  have CC := Lib.hid cC
  have hEQ := eqSet (word (allP [p, q]) 0) (word (allP [p, q]) 1) (word (allP [p, q]) 2) (word (allP [p, q]) 3) (word q 0) (word q 1) (word q 2) (word q 3)
  clear cC0 cC
  have hw4' := Lib.hid hw4
  clear hw4
  obtain ⟨p0', p1', p2', p3'⟩ := blk_setW hS4
  obtain ⟨q0', q1', q2', q3'⟩ := blk_setW hQ4
  go_region_held3 (fun w' => (w'.cell? ⟨w.heap.size, 0, none⟩ = some (.int .u64 (word p 0)) ∧ w'.cell? ⟨w.heap.size, 1, none⟩ = some (.int .u64 (word p 1)) ∧ w'.cell? ⟨w.heap.size, 2, none⟩ = some (.int .u64 (word p 2)) ∧ w'.cell? ⟨w.heap.size, 3, none⟩ = some (.int .u64 (word p 3))) ∧ (w'.cell? ⟨w2.heap.size, 0, none⟩ = some (.int .u64 (word q 0)) ∧ w'.cell? ⟨w2.heap.size, 1, none⟩ = some (.int .u64 (word q 1)) ∧ w'.cell? ⟨w2.heap.size, 2, none⟩ = some (.int .u64 (word q 2)) ∧ w'.cell? ⟨w2.heap.size, 3, none⟩ = some (.int .u64 (word q 3)))) (go_keep)
    (first | (rw [hw4'.out]; go_at_call 91; (with_reducible refine (CC.out).mono ?_); rintro r w5 ⟨rfl, hb5, ⟨j0, j1, j2, j3⟩, k0, k1, k2, k3⟩))
  go_wp2_with fail
  go_ret
  refine ⟨ret_bool ?_, hb4.trans (hb5.mono hb4.size)⟩
  rw [← hq]
  exact sub_all p s.data.toList
end

section
open Go.RowKit

def inR (rs : List (Nat × Nat)) (x : Nat) : Bool := rs.any fun r => decide (r.1 ≤ x ∧ x ≤ r.2)
def rangesC (rs : List (Nat × Nat)) : List Value := rs.flatMap fun r => [.int .u8 r.1, .int .u8 r.2]
theorem rangesC_len (rs : List (Nat × Nat)) : (rangesC rs).length = rs.length * 2 := by
  induction rs with
  | nil => rfl
  | cons r rs ih => simp only [rangesC, List.flatMap_cons, List.length_append] at ih ⊢; rw [ih]; simp; omega
theorem rangesC_get (rs : List (Nat × Nat)) (k : Nat) (r : Nat × Nat) (hk : rs[k]? = some r) : (rangesC rs)[2 * k]? = some (.int .u8 r.1) ∧ (rangesC rs)[2 * k + 1]? = some (.int .u8 r.2) := by
  induction rs generalizing k with
  | nil => simp at hk
  | cons q rs ih =>
    simp only [rangesC, List.flatMap_cons]
    cases k with
    | zero => simp at hk; subst hk; exact ⟨rfl, rfl⟩
    | succ k =>
      have h := ih k (by simpa using hk)
      simp only [rangesC] at h
      rw [List.getElem?_append_right (by simp; omega), List.getElem?_append_right (by simp; omega)]
      simp only [List.length_cons, List.length_nil]
      rw [show 2 * (k + 1) - (0 + 1 + 1) = 2 * k by omega, show 2 * (k + 1) + 1 - (0 + 1 + 1) = 2 * k + 1 by omega]
      exact h
theorem inR_snoc (rs : List (Nat × Nat)) (r : Nat × Nat) : inR (rs ++ [r]) = fun x => inR rs x || decide (r.1 ≤ x ∧ x ≤ r.2) := by
  funext x; simp [inR]
theorem ranges_step (q : Nat → Bool) (lo b : Nat) (z : UInt8) (hb : lo ≤ b) (hz : z.toNat = b) : anyP [fun x => q x || decide (lo ≤ x ∧ x < b), inB [z]] = fun x => q x || decide (lo ≤ x ∧ x < b + 1) := by
  funext x
  have e : decide (lo ≤ x ∧ x < b + 1) = (decide (lo ≤ x ∧ x < b) || decide (x = b)) := by
    rw [← Bool.decide_or, decide_eq_decide]; omega
  simp only [anyP, inB, List.any_cons, List.any_nil, Bool.or_false, hz, e, Bool.or_assoc]

def SetAt (w : World) (g : Nat) (p : Nat → Bool) : Prop :=
  w.cell? ⟨g, 0, none⟩ = some (.int .u64 (word p 0)) ∧ w.cell? ⟨g, 1, none⟩ = some (.int .u64 (word p 1)) ∧ w.cell? ⟨g, 2, none⟩ = some (.int .u64 (word p 2)) ∧ w.cell? ⟨g, 3, none⟩ = some (.int .u64 (word p 3))

theorem Union_two (p q : Nat → Bool) (w4 : World) :
    Calls Tryz.prog 93 #[.slice (some ⟨w4.heap.size, 0, none⟩) 2 2] (w4.alloc (.cells #[.int .u64 (word p 0), .int .u64 (word p 1), .int .u64 (word p 2), .int .u64 (word p 3), .int .u64 (word q 0), .int .u64 (word q 1), .int .u64 (word q 2), .int .u64 (word q 3)] 116)) fun e w5 =>
      e = .returned (.agg #[.int .u64 (word (anyP [p, q]) 0), .int .u64 (word (anyP [p, q]) 1), .int .u64 (word (anyP [p, q]) 2), .int .u64 (word (anyP [p, q]) 3)]) ∧ Below w4.heap.size w4 w5 := by
  obtain ⟨w3, hw3⟩ : ∃ w3, w4.alloc (.cells #[.int .u64 (word p 0), .int .u64 (word p 1), .int .u64 (word p 2), .int .u64 (word p 3), .int .u64 (word q 0), .int .u64 (word q 1), .int .u64 (word q 2), .int .u64 (word q 3)] 116) = w3 := ⟨_, rfl⟩
  have hN : Blk w3 w4.heap.size 116 (setsC [p, q]).toArray := by rw [← hw3]; exact Blk.new w4 _ _
  have hb : Below w4.heap.size w4 w3 := by rw [← hw3]; exact (Below.refl _ _).alloc (Nat.le_refl _) _
  rw [hw3]
  have c := Union_any (some ⟨w4.heap.size, 0, none⟩) 2 2 [p, q] w3 ⟨by simp [setsC_len], fun _ => ⟨_, rfl, hN.lt, fun j u hu => by
    rw [Addr.add_lit, Nat.zero_add, hN.cell]
    simpa using hu⟩⟩ (by omega)
  exact c.mono fun e w5 ⟨he, hb5⟩ => ⟨he, hb.trans (hb5.mono hb.size)⟩
theorem Of_one (z : UInt8) (w4 : World) :
    Calls Tryz.prog 90 #[.slice (some ⟨w4.heap.size, 0, none⟩) 1 1] (w4.alloc (.cells #[.int .u8 z.toNat] 5)) fun e w5 =>
      e = .returned (.agg #[.int .u64 (word (inB [z]) 0), .int .u64 (word (inB [z]) 1), .int .u64 (word (inB [z]) 2), .int .u64 (word (inB [z]) 3)]) ∧ Below w4.heap.size w4 w5 := by
  obtain ⟨w3, hw3⟩ : ∃ w3, w4.alloc (.cells #[.int .u8 z.toNat] 5) = w3 := ⟨_, rfl⟩
  have hN : Blk w3 w4.heap.size 5 #[.int .u8 z.toNat] := by rw [← hw3]; exact Blk.new w4 _ _
  have hb : Below w4.heap.size w4 w3 := by rw [← hw3]; exact (Below.refl _ _).alloc (Nat.le_refl _) _
  rw [hw3]
  have c := Of_any (some ⟨w4.heap.size, 0, none⟩) 1 1 [z] w3 ⟨by simp, fun _ => ⟨_, rfl, hN.lt, fun j u hu => by
    rw [Addr.add_lit, Nat.zero_add, hN.cell]
    simpa using hu⟩⟩ (by omega)
  exact c.mono fun e w5 ⟨he, hb5⟩ => ⟨he, hb.trans (hb5.mono hb.size)⟩

theorem results_cell_row_tmp {P : Program} {fn : Func} {p u : Tmp} {ty : TypeId} (h : fn.results = #[.cell p ty, .tmp u]) (tmps : Array Value) (w : World) (g : Nat) (t : TypeId) (cs : Array Value) (fr : Nat × Nat) (d : TypeDesc)
    (hp : tmps.getD p undef = .pointer (some ⟨g, 0, none⟩)) (hg : w.heap[g]? = some (.cells cs t fr))
    (hu : P.underlying ty = some d) (hd : (match d with | .struct _ | .array _ _ => true | _ => false) = true) (hi : (P.info? ty).map (·.size) = some cs.size) :
    (results fn tmps).run P w = .ok (.tuple #[.agg cs, tmps.getD u undef]) w := by
  rw [results_cell_tmp h, hp]
  simp [asAddr, run_loadVar_row w g t ty cs fr d hg hu hd hi]
def Eight (w : World) (g : Nat) (p : Nat → Bool) : Prop :=
  (w.cell? ⟨g, 0, none⟩ = some (.int .u64 (word p 0)) ∧ w.cell? ⟨g, 1, none⟩ = some (.int .u64 (word p 1)) ∧ w.cell? ⟨g, 2, none⟩ = some (.int .u64 (word p 2)) ∧ w.cell? ⟨g, 3, none⟩ = some (.int .u64 (word p 3))) ∧
    w.frozen? ⟨g, 0, none⟩ = false ∧ w.frozen? ⟨g, 1, none⟩ = false ∧ w.frozen? ⟨g, 2, none⟩ = false ∧ w.frozen? ⟨g, 3, none⟩ = false
theorem blk_eight {w : World} {g : Nat} {t : TypeId} {p : Nat → Bool} (h : Blk w g t (setW p)) : Eight w g p := ⟨blk_setW h, h.frozen 0, h.frozen 1, h.frozen 2, h.frozen 3⟩

set_option maxRecDepth 100000 in
set_option maxHeartbeats 8000000 in
theorem Ranges_any (A : Option Addr) (len c : Nat) (rs : List (Nat × Nat)) (w : World) (hr : Reads w w.heap.size 2 A len (rangesC rs)) (hlen : len ≤ 9223372036854775807) (hrs : ∀ r ∈ rs, r.1 ≤ r.2 ∧ r.2 < 256) :
    Calls Tryz.prog 92 #[.slice A len c] w fun e w' => e = .returned (.tuple #[setV (inR rs), .int .i64 0]) ∧ Below w.heap.size w w' := by
  have hpl : rs.length = len := by have := hr.1; rw [rangesC_len] at this; omega
  have HR := Lib.hid hr
  have HRS := Lib.hid hrs
  clear hr hrs
  go_enter Tryz.func92, Tryz.ntmps92
  go_wp2_with fail
  go_loopw [6, 7, 10] (fun _ _ i wr => ∃ k : Nat, i = .int .i64 k ∧ k ≤ len ∧ Hid (Blk wr (w.heap.size + 1) 116 (setW (inR (rs.take k)))) ∧ Hid (Blk wr w.heap.size 116 (setW fun _ => false)) ∧ Below w.heap.size w wr) (fun _ _ i _ => len - (intOf i).toNat)
  case atStart =>
    have h0 := setW_none
    have hA := Blk.new (w.alloc (.cells (setW fun _ => false) 116)) 116 (setW fun _ => false)
    have hB := (Blk.new w 116 (setW fun _ => false)).alloc (.cells (setW fun _ => false) 116)
    have hC := ((Below.refl w.heap.size w).alloc (Nat.le_refl _) (.cells (setW fun _ => false) 116)).alloc (by simp) (.cells (setW fun _ => false) 116)
    rw [h0] at hA hB hC
    refine ⟨0, rfl, by omega, hide ?_, hide ?_, hC⟩
    · rw [show inR (rs.take 0) = fun _ => false from rfl, h0]
      simpa using hA
    · rw [h0]; exact hB
  case round =>
    obtain ⟨k, rfl, hk, HS, HZ, hb⟩ := hrel
    rename World => W0
    by_cases hlt : k < len
    · obtain ⟨ad, hA, hadb, hc⟩ := HR.out.2 (by omega)
      subst hA
      have hkl : k < rs.length := by omega
      obtain ⟨r, hr⟩ : ∃ r, rs[k]? = some r := ⟨_, List.getElem?_eq_getElem hkl⟩
      obtain ⟨ab, ao, spot⟩ := ad
      have hspot : spot = none := by simpa [Addr.add] using World.cell?_spot (hc 0 _ (rangesC_get rs 0 _ (List.getElem?_eq_getElem (by omega))).1)
      subst hspot
      have hc0 : W0.cell? ⟨ab, ao + k * 2, none⟩ = some (.int .u8 r.1) := by
        have hx : ab < w.heap.size := hadb
        rw [hb.cell (show (⟨ab, ao + k * 2, none⟩ : Addr).block < w.heap.size from hx), ← hc _ _ (rangesC_get rs k r hr).1, Addr.add_lit]; congr 2; omega
      have hc1 : W0.cell? ⟨ab, ao + k * 2 + 1, none⟩ = some (.int .u8 r.2) := by
        have hx : ab < w.heap.size := hadb
        rw [hb.cell (show (⟨ab, ao + k * 2 + 1, none⟩ : Addr).block < w.heap.size from hx), ← hc _ _ (rangesC_get rs k r hr).2, Addr.add_lit]; congr 2; omega
      have htk : rs.take (k + 1) = rs.take k ++ [r] := by rw [List.take_add_one, hr]; rfl
      have hrm := HRS.out r (List.mem_of_getElem? hr)
      obtain ⟨lo, hi⟩ := r
      simp only at hc0 hc1 hrm
      obtain ⟨hlo, hhi⟩ := hrm
      obtain ⟨q, hq⟩ : ∃ q, inR (rs.take k) = q := ⟨_, rfl⟩
      have htq : inR (rs.take (k + 1)) = fun x => q x || decide (lo ≤ x ∧ x < hi + 1) := by
        rw [htk, inR_snoc, hq]; funext x; simp only [Nat.lt_succ_iff]
      rw [hq] at HS
      have hlt0 := HS.out.lt
      clear hc hr htk
      go_wp2_with fail
      go_loopw [7] (fun b wr => ∃ n : Nat, b = .int .i64 n ∧ lo ≤ n ∧ n ≤ hi + 1 ∧ Hid (Blk wr (w.heap.size + 1) 116 (setW fun x => q x || decide (lo ≤ x ∧ x < n))) ∧ Hid (Blk wr w.heap.size 116 (setW fun _ => false)) ∧ Hid (Blk wr W0.heap.size 154 #[.int .u8 lo, .int .u8 hi]) ∧ Below w.heap.size w wr) (fun b _ => hi + 1 - (intOf b).toNat)
      case atStart =>
        refine ⟨lo, rfl, by omega, by omega, hide ?_, hide (HZ.out.alloc _), hide (Blk.new _ _ _), hb.alloc hb.size _⟩
        have e : (fun x => q x || decide (lo ≤ x ∧ x < lo)) = q := by
          funext x
          have : decide (lo ≤ x ∧ x < lo) = false := by simp
          rw [this, Bool.or_false]
        rw [e]
        exact HS.out.alloc _
      case round =>
        obtain ⟨n, rfl, hln, hnh, HM, HZ', HP, hb'⟩ := hrel
        rename World => W1
        obtain ⟨t, ht⟩ : ∃ t : Nat → Bool, (fun x => q x || decide (lo ≤ x ∧ x < n)) = t := ⟨_, rfl⟩
        rw [ht] at HM
        have hp1 : W1.cell? ⟨W0.heap.size, 1, none⟩ = some (.int .u8 hi) := HP.out.cell 1
        by_cases hn : n ≤ hi
        · obtain ⟨z, hz⟩ : ∃ z : UInt8, z.toNat = n := ⟨UInt8.ofNat n, by simp; omega⟩
          have hst := ranges_step q lo n z hln hz
          rw [ht] at hst
          have hwb : IntKind.u8.wrap (n : Int) = (n : Int) := by rw [IntKind.wrap_u8]; omega
          obtain ⟨s0, s1, s2, s3⟩ := blk_setW HM.out
          have hsl := HM.out.lt
          have cOf : Calls Tryz.prog 90 #[.slice (some ⟨W1.heap.size, 0, none⟩) 1 1] (W1.alloc (.cells #[.int .u8 n] 5)).drew fun e w5 =>
              e = .returned (.agg #[.int .u64 (word (inB [z]) 0), .int .u64 (word (inB [z]) 1), .int .u64 (word (inB [z]) 2), .int .u64 (word (inB [z]) 3)]) ∧ Below W1.heap.size W1 w5 ∧ Eight w5 (w.heap.size + 1) t ∧ Hid (Blk w5 (w.heap.size + 1) 116 (setW t)) := by
            have h := Of_one z W1.drew
            rw [hz] at h
            refine Calls.mono h ?_
            intro e w5 ⟨he, hb5⟩
            have hB := HM.out.drew.below hb5 hsl
            exact ⟨he, ((Below.refl _ W1).drew).trans hb5, blk_eight hB, hide hB⟩
          have cUn : ∀ w5 : World, Hid (Blk w5 (w.heap.size + 1) 116 (setW t)) → Calls Tryz.prog 93 #[.slice (some ⟨w5.heap.size, 0, none⟩) 2 2] (w5.alloc (.cells #[.int .u64 (word t 0), .int .u64 (word t 1), .int .u64 (word t 2), .int .u64 (word t 3), .int .u64 (word (inB [z]) 0), .int .u64 (word (inB [z]) 1), .int .u64 (word (inB [z]) 2), .int .u64 (word (inB [z]) 3)] 116)) fun e w6 =>
              e = .returned (.agg #[.int .u64 (word (anyP [t, inB [z]]) 0), .int .u64 (word (anyP [t, inB [z]]) 1), .int .u64 (word (anyP [t, inB [z]]) 2), .int .u64 (word (anyP [t, inB [z]]) 3)]) ∧ Below w5.heap.size w5 w6 ∧ Eight w6 (w.heap.size + 1) t ∧ Hid (Blk w6 (w.heap.size + 1) 116 (setW t)) := fun w5 h5 => by
            refine Calls.mono (Union_two t (inB [z]) w5) ?_
            intro e w6 ⟨he, hb6⟩
            have hB := h5.out.below hb6 h5.out.lt
            exact ⟨he, hb6, blk_eight hB, hide hB⟩
          have COF := Lib.hid cOf
          have CUN := Lib.hid cUn
          have HST := Lib.hid hst
          clear cOf cUn hst ht
          go_wp2_with fail
          go_region_with (first
            | (go_at_call 90; refine (COF.out).mono ?_; rintro r w5 ⟨rfl, hb5, ⟨⟨j0, j1, j2, j3⟩, i0, i1, i2, i3⟩, hB5⟩)
            | (go_at_call 93; refine (CUN.out _ hB5).mono ?_; rintro r w6 ⟨rfl, hb6, ⟨⟨k0, k1, k2, k3⟩, l0, l1, l2, l3⟩, hB6⟩))
          all_goals go_wp2_with fail
          all_goals (
            have hl5 := hb5.size
            have hZ6 := (HZ'.out.below hb5 HZ'.out.lt).below hb6 (by have := HZ'.out.lt; omega)
            have hP6 := (HP.out.below hb5 HP.out.lt).below hb6 (by have := HP.out.lt; omega)
            have hb6' := (hb'.trans (hb5.mono hb'.size)).trans (hb6.mono (by have := hb'.size; omega))
            refine ⟨⟨n + 1, by go_num, by omega, by omega, hide ?_, hide ?_, hide ?_, ?_⟩, by simp [intOf]; omega⟩
            · rw [← HST.out]
              exact (((hB6.out.set_ 0 _).set_ 1 _).set_ 2 _).set_ 3 _
            · exact (((hZ6.far (by simp) _).far (by simp) _).far (by simp) _).far (by simp) _
            · exact (((hP6.far (by simp; omega) _).far (by simp; omega) _).far (by simp; omega) _).far (by simp; omega) _
            · exact (((hb6'.setCell (by simp) _).setCell (by simp) _).setCell (by simp) _).setCell (by simp) _)
        · have hn5 : n = hi + 1 := by omega
          subst hn5
          go_wp2_with fail
          go_roundw
          case rel =>
            refine ⟨k + 1, by go_num, by omega, ?_, HZ', hb'⟩
            rw [htq, ht]; exact HM
          case measure => simp [intOf]; omega
    · have hkl : k = len := by omega
      subst hkl
      have hd : decide ((k : Int) < (k : Int)) = false := by simp
      have hS := HS.out
      have hZ := HZ.out
      rw [← hpl, List.take_length] at hS
      obtain ⟨s0, s1, s2, s3⟩ := blk_setW hS
      obtain ⟨z0, z1, z2, z3⟩ := blk_setW hZ
      have f0 := hZ.frozen 0; have f1 := hZ.frozen 1; have f2 := hZ.frozen 2; have f3 := hZ.frozen 3
      go_wp2_with fail
      refine bodyPost_ret (results_cell_row_tmp (p := 2) (u := 3) (ty := 116) (by kernel_rfl) _ _ w.heap.size 116 (setW (inR rs)) (0, 0) (.array 4 114) rfl ((((hZ.set_ 0 _).set_ 1 _).set_ 2 _).set_ 3 _) Tryz.underlying116 rfl (by kernel_rfl)) rfl ?_
      exact ⟨rfl, (((hb.setCell (by simp) _).setCell (by simp) _).setCell (by simp) _).setCell (by simp) _⟩
end

section
open Go.RowKit
open Go.Maps (Keyed IsMap Tidy setOf)

theorem atKey_fold {H : Type} (u z : DataW H) (k : Lit) : ∀ (acc : List Lit) (m : DataW H), IsMap m → (∀ x ∈ acc, WideAt.IsKeyLit x) →
    (acc.foldl (fun m x => m.put x u) m).atKey k z = if acc.any (fun x => x.sameKey k) = true then u else m.atKey k z
  | [], m, _, _ => by simp
  | x :: r, m, hm, h => by
    rw [List.foldl_cons, atKey_fold u z k r (m.put x u) (hm.put x u) (fun y hy => h y (by simp [hy])), List.any_cons]
    by_cases e : x = k
    · subst e
      rw [Maps.atKey_put_same hm (h x (by simp)), WideAt.sameKey_self (h x (by simp))]
      simp
    · rw [Maps.atKey_put_other (fun e' => e e'.symm), Maps.sameKey_ne e, Bool.false_or]
theorem atKey_setOf {H : Type} (u z : DataW H) (k : Lit) (acc : List Lit) (h : ∀ x ∈ acc, WideAt.IsKeyLit x) :
    (setOf u acc).atKey k z = if acc.any (fun x => x.sameKey k) = true then u else z := by
  rw [setOf, atKey_fold u z k acc _ Maps.isMap_empty h]
  rfl
theorem plainElem_bool_inv {H : Type} {P : Program} {e : TypeId} (he : P.underlying e = some .bool) {v : Value} {z : DataW H × List MemPlace} (h : plainElem P e v = some z) : ∃ a, v = .bool a ∧ z = (.lit (.bool a), []) := by
  unfold plainElem at h
  rw [he] at h
  cases v <;> simp at h
  exact ⟨_, rfl, h.symm⟩
/-- 'm[k]' of a set that the call filled -/
theorem lookup_set {P : Program} {w : World} {k e t : TypeId} {b n : Nat} {acc : List Lit} (h : w.ownsMap P k (plainElem (H := Unit) P e) b n (setOf (.lit (.bool true)) acc)) (K : Keyed P k) (ht : P.underlying t = some (.map k e)) (he : P.underlying e = some .bool)
    (hz : (zeroValue e).run P w = .ok (.bool false) w) {key : Value} {kl : Lit} (hkey : keyOf P k key = some kl) (hacc : ∀ x ∈ acc, WideAt.IsKeyLit x) :
    (Instr.lookup t (.map (some b)) key false).run P w = .ok (.bool (acc.any (fun x => x.sameKey kl))) w := by
  obtain ⟨v, ps, hrun, hv⟩ := h.lookup K ht hz (plainElem_bool he false) hkey
  obtain ⟨a, rfl, ha⟩ := plainElem_bool_inv he hv
  rw [hrun, atKey_setOf _ _ _ _ hacc] at *
  cases hc : acc.any (fun x => x.sameKey kl) with
  | true => rw [hc, if_pos rfl] at ha; injection ha with h1 _; injection h1 with h1; injection h1 with h1; rw [h1]
  | false => rw [hc, if_neg (by simp)] at ha; injection ha with h1 _; injection h1 with h1; injection h1 with h1; rw [h1]

/-- the numbers of a list as keys -/
def natKeys (acc : List Nat) : List Lit := acc.map fun i : Nat => Lit.int .i64 (i : Int)
theorem natKeys_app (a b : List Nat) : natKeys (a ++ b) = natKeys a ++ natKeys b := by simp [natKeys]
theorem natKeys_key (acc : List Nat) : ∀ x ∈ natKeys acc, WideAt.IsKeyLit x := by
  intro x hx
  obtain ⟨i, _, rfl⟩ := List.mem_map.1 hx
  trivial
theorem natKeys_any (acc : List Nat) (k : Nat) : (natKeys acc).any (fun x => x.sameKey (.int .i64 (k : Int))) = acc.contains k := by
  unfold natKeys
  rw [List.any_map, List.contains_eq_any_beq]
  congr 1
  funext i
  simp only [Function.comp, Lit.sameKey]
  rw [Bool.eq_iff_iff, beq_iff_eq]
  simp
  omega
theorem countP_add (p : Nat → Bool) (x L : Nat) (hx : x < L) (hp : p x = false) : (List.range L).countP (fun i => p i || i == x) = (List.range L).countP p + 1 := by
  induction L with
  | zero => omega
  | succ L ih =>
    rw [List.range_succ, List.countP_append, List.countP_append]
    by_cases hl : x = L
    · subst hl
      have : (List.range x).countP (fun i => p i || i == x) = (List.range x).countP p := by
        apply List.countP_congr
        intro i hi
        have := List.mem_range.1 hi
        have hne : (i == x) = false := beq_eq_false_iff_ne.2 (by omega)
        simp [hne]
      rw [this]
      simp [hp]
    · rw [ih (by omega)]
      have hne : (L == x) = false := beq_eq_false_iff_ne.2 (by omega)
      simp [List.countP_cons, hne]
      omega
theorem size_natKeys (L : Nat) (u : DataW Unit) : ∀ (acc : List Nat) (done : List Nat), (∀ i ∈ acc, i < L) → Maps.size (setOf u (natKeys done)) = (List.range L).countP (fun i => done.contains i) →
    Maps.size (setOf u (natKeys (done ++ acc))) = (List.range L).countP (fun i => (done ++ acc).contains i)
  | [], done, _, h => by simpa using h
  | x :: r, done, hx, h => by
    have hstep : Maps.size (setOf u (natKeys (done ++ [x]))) = (List.range L).countP (fun i => (done ++ [x]).contains i) := by
      rw [natKeys_app, show natKeys [x] = [Lit.int .i64 (x : Int)] from rfl, Maps.setOf_snoc, Maps.size_put (Maps.tidy_setOf u _ (natKeys_key done)), Maps.has_setOf _ _ _ (natKeys_key done), natKeys_any, h]
      have hc : ∀ i, (done ++ [x]).contains i = (done.contains i || i == x) := by
        intro i
        rw [Bool.eq_iff_iff]
        simp
      cases hd : done.contains x with
      | true =>
        rw [if_pos rfl]
        apply List.countP_congr
        intro i _
        rw [hc]
        by_cases hi : i = x
        · subst hi
          have hm : i ∈ done := by simpa using hd
          simp [hm]
        · have hne : (i == x) = false := beq_eq_false_iff_ne.2 hi
          simp [hne]
      | false =>
        rw [if_neg (by simp), ← countP_add (fun i => done.contains i) x L (hx x (by simp)) hd]
        apply List.countP_congr
        intro i _
        rw [hc]
    have := size_natKeys L u r (done ++ [x]) (fun i hi => hx i (by simp [hi])) hstep
    simpa using this
/-- 'len' of a set of numbers below L -/
theorem size_nats (L : Nat) (u : DataW Unit) (acc : List Nat) (h : ∀ i ∈ acc, i < L) : Maps.size (setOf u (natKeys acc)) = (List.range L).countP (fun i => acc.contains i) := by
  have := size_natKeys L u acc [] h (by simp [natKeys, setOf, Maps.size])
  simpa using this
end
end Go.Proofs.YtencphfhpnljlaaGreatDoor
