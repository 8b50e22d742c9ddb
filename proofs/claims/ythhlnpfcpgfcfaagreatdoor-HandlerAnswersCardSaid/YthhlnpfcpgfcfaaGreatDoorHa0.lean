/-
  What handlers say, in plain words: printable texts, normal paths, roots, bodies, codes, answers. No program in sight.
-/
import Derived.Test.YthhlnpfcpgfcfaaGreatDoorRe3
import Derived.Test.YthhlnpfcpgfcfaaGreatDoorLst
namespace Go.Proofs.YthhlnpfcpgfcfaaGreatDoor
open Go.RowKit

def hexU (n : Nat) : UInt8 := if n < 10 then UInt8.ofNat (48 + n) else UInt8.ofNat (55 + n)
/-- is a byte written as three -/
def oddB (b : UInt8) : Bool := decide (b.toNat < 32) || b == 127 || b == 37
def plainB (b : UInt8) : List UInt8 := if oddB b then [37, hexU (b.toNat / 16), hexU (b.toNat % 16)] else [b]
def plainT (s : List UInt8) : List UInt8 := s.flatMap plainB
theorem plainT_app (a b : List UInt8) : plainT (a ++ b) = plainT a ++ plainT b := by simp [plainT]
theorem plainB_len (b : UInt8) : 1 ≤ (plainB b).length ∧ (plainB b).length ≤ 3 := by unfold plainB; split <;> simp
theorem plainT_len (s : List UInt8) : s.length ≤ (plainT s).length ∧ (plainT s).length ≤ 3 * s.length := by
  induction s with
  | nil => simp [plainT]
  | cons b s ih =>
    have := plainB_len b
    unfold plainT at ih ⊢
    rw [List.flatMap_cons, List.length_append, List.length_cons]
    omega
theorem plainT_same {s : List UInt8} (h : ∀ b ∈ s, oddB b = false) : plainT s = s := by
  induction s with
  | nil => rfl
  | cons b s ih =>
    unfold plainT at ih ⊢
    rw [List.flatMap_cons, ih fun x hx => h x (by simp [hx])]
    unfold plainB
    rw [h b (by simp)]
    rfl
/-- the digit that a byte writes -/
def unhexU (b : UInt8) : Nat := if b.toNat < 58 then b.toNat - 48 else b.toNat - 55
theorem unhex_all : ∀ x : Fin 256, unhexU (hexU (x.val / 16)) * 16 + unhexU (hexU (x.val % 16)) = x.val := by decide +kernel
theorem odd_inj {x y : UInt8} (h1 : hexU (x.toNat / 16) = hexU (y.toNat / 16)) (h2 : hexU (x.toNat % 16) = hexU (y.toNat % 16)) : x = y := by
  have a := unhex_all ⟨x.toNat, x.toNat_lt⟩
  have b := unhex_all ⟨y.toNat, y.toNat_lt⟩
  simp only at a b
  rw [h1, h2] at a
  exact UInt8.toNat_inj.1 (a.symm.trans b)
theorem plainT_cons (x : UInt8) (a : List UInt8) : plainT (x :: a) = plainB x ++ plainT a := by simp [plainT]
theorem plainT_inj : ∀ (a b : List UInt8), plainT a = plainT b → a = b
  | [], [], _ => rfl
  | [], y :: b, h => by
    have := congrArg List.length h
    rw [plainT_cons, List.length_append] at this
    have h1 := plainB_len y
    simp only [plainT, List.flatMap_nil, List.length_nil] at this
    omega
  | x :: a, [], h => by
    have := congrArg List.length h
    rw [plainT_cons, List.length_append] at this
    have h1 := plainB_len x
    simp only [plainT, List.flatMap_nil, List.length_nil] at this
    omega
  | x :: a, y :: b, h => by
    rw [plainT_cons, plainT_cons] at h
    unfold plainB at h
    have h37 : oddB 37 = true := by decide
    split at h <;> split at h
    · simp only [List.cons_append, List.nil_append, List.cons.injEq, true_and] at h
      obtain ⟨h1, h2, h3⟩ := h
      rw [odd_inj h1 h2, plainT_inj a b h3]
    · rename_i hy
      simp only [List.cons_append, List.nil_append, List.cons.injEq] at h
      rw [← h.1] at hy
      exact absurd h37 hy
    · rename_i hx _
      simp only [List.cons_append, List.nil_append, List.cons.injEq] at h
      rw [h.1] at hx
      exact absurd h37 hx
    · simp only [List.cons_append, List.nil_append, List.cons.injEq] at h
      rw [h.1, plainT_inj a b h.2]

/-- one dot, or two -/
def dotB (p : List UInt8) : Bool := p == [46] || p == [46, 46]
def normP : List (List UInt8) → Bool
  | [] => true
  | [p] => !dotB p
  | p :: l => !dotB p && !p.isEmpty && normP l
/-- is a path normal -/
def normalT (s : List UInt8) : Bool := decide (s.head? = some 47) && decide (s.length ≤ 128) && normP (splitC 47 s.tail)
/-- is a path a root -/
def rootT (s : List UInt8) : Bool := normalT s && (s == [47] || !decide (s.getLast? = some 47))
/-- what was found -/
structure FoundP where
  ok : Bool
  segs : List (List UInt8)
  kind : Int
  text : List UInt8
  names : List (List UInt8)
  vals : List (List UInt8)
  rest : List UInt8
def checkF (f : FoundP) : Nat :=
  if f.ok = false then (if f.segs.length + f.names.length + f.vals.length = 0 ∧ f.rest = [] ∧ f.kind = 0 ∧ f.text = [] then 0 else 3)
  else if f.kind < 1 ∨ 4 < f.kind then 10
  else if f.names.length ≠ f.vals.length ∨ f.kind = 3 ∧ rootT f.text = false then 3 else 0
/-- a place under a root -/
def underT (base rest : List UInt8) : List UInt8 × Nat :=
  if rootT base = false ∨ (0 : UInt8) ∈ rest ∨ (splitC 47 rest).any dotB = true then ([], 3)
  else if rest = [] ∨ base.getLast? = some 47 ∨ rest.head? = some 47 then (base ++ rest, 0) else (base ++ 47 :: rest, 0)
/-- the parts of a request that handlers read -/
structure ReqP where
  method : List UInt8
  path : List UInt8
  query : List UInt8
  body : List UInt8
def lineE (n v : List UInt8) : List UInt8 := plainT n ++ [61] ++ plainT v ++ [10]
def headE (r : ReqP) : List UInt8 := r.method ++ [32] ++ r.path ++ (if r.query = [] then [] else 63 :: r.query)
def linesE (ns vs : List (List UInt8)) : List UInt8 := (ns.zip vs).flatMap fun x => lineE x.1 x.2
def echoT (f : FoundP) (r : ReqP) : List UInt8 := plainT (headE r) ++ [10] ++ linesE f.names f.vals
def pathF (f : FoundP) : List UInt8 := f.text ++ (if f.text = [47] ∨ f.rest = [] then f.rest else 47 :: f.rest)
def fileT (f : FoundP) : List UInt8 := [102, 105, 108, 101, 32] ++ plainT (pathF f) ++ [10]
def saysT (f : FoundP) (r : ReqP) : List UInt8 := if f.kind = 1 then f.text else if f.kind = 2 then echoT f r else if f.kind = 3 then fileT f else r.body
def bodyT (f : FoundP) (r : ReqP) : List UInt8 × Nat :=
  if checkF f ≠ 0 then ([], checkF f) else if f.ok = false then ([], 10) else if 4096 < (saysT f r).length then ([], 4) else (saysT f r, 0)
def pageT (c : Int) : List UInt8 × Nat := match reasonR c with
  | none => ([], 10)
  | some x => (Lib.decDigits c.toNat ++ [32] ++ x ++ [10], 0)
def movedC (c : Int) : Bool := c == 301 || c == 302 || c == 303 || c == 307 || c == 308
def knownM (m : List UInt8) : Bool := m == [71, 69, 84] || m == [72, 69, 65, 68] || m == [80, 79, 83, 84]
def codeT (m : List UInt8) (kind code : Int) (f : FoundP) : Int × Nat :=
  if kind < 1 ∨ 5 < kind then (0, 10)
  else if kind = 2 ∧ movedC code = false then (0, 2)
  else if checkF f ≠ 0 then (0, checkF f)
  else if kind = 2 then (code, 0) else if kind = 3 then (403, 0) else if kind = 4 then (410, 0) else if kind = 5 then (500, 0)
  else if f.ok = false then (404, 0) else if knownM m = false then (405, 0) else (200, 0)
def textF : List UInt8 × List UInt8 := ([67, 111, 110, 116, 101, 110, 116, 45, 84, 121, 112, 101], [116, 101, 120, 116, 47, 112, 108, 97, 105, 110])
def locN : List UInt8 := [76, 111, 99, 97, 116, 105, 111, 110]
def noR : Rsp := ⟨0, [], [], false, false⟩
def answerT (r : ReqP) (kind code : Int) (loc : List UInt8) (f : FoundP) (close : Bool) : Rsp × Nat :=
  if (codeT r.method kind code f).2 ≠ 0 then (noR, (codeT r.method kind code f).2)
  else if kind = 2 then (if mayR (locN, loc) ≠ 0 then (noR, mayR (locN, loc)) else (⟨code, [(locN, loc), textF], [], close, r.method == [72, 69, 65, 68]⟩, 0))
  else if (codeT r.method kind code f).1 = 200 then (if (bodyT f r).2 ≠ 0 then (noR, (bodyT f r).2) else (⟨200, [textF], (bodyT f r).1, close, r.method == [72, 69, 65, 68]⟩, 0))
  else (⟨(codeT r.method kind code f).1, [textF], (pageT (codeT r.method kind code f).1).1, close, r.method == [72, 69, 65, 68]⟩, 0)
end Go.Proofs.YthhlnpfcpgfcfaaGreatDoor
