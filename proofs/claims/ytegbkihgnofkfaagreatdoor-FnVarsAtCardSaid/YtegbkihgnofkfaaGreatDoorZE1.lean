/-
Texts Ev1 to Ev13 of the work.
-/
import Derived.Orders
import Derived.LoopN
import Derived.Below
import Derived.Laws.AppendOwn
import Derived.Laws.CopyRow
import Derived.Laws.Cells
import Derived.WalkKit
import Derived.MapKept
/-
The engine, part 1: values told without memory (AV), what it means that a value in memory is so (Rep), and that it stays so.
-/
namespace Go.Proofs.YtegbkihgnofkfaaGreatDoor.Ev
section
set_option linter.unusedVariables false
set_option linter.unusedSimpArgs false
open Go

/-- A value, told without memory. p: a pointer to cells that never change; s: a slice whose cells never change (ex: its capacity is its length);
m: a map from texts to numbers that never changes; r: a pointer to cell off of object id; w: a slice of n elements of row id, from cell lo on; o: a row that is handed over (results alone); a: a struct or array; t: several results. -/
inductive AV where
  | v (x : Value)
  | p (cs : List AV)
  | s (ex : Bool) (n : Nat) (cs : List AV)
  | r (id off : Nat)
  | w (id lo n : Nat)
  | o (E sz n : Nat) (cs : List AV)
  | a (cs : List AV)
  | t (xs : List AV)
  | m (f : List UInt8 → Option Int)

/-- What lies at a number of the store: a block of type T, or a row of n elements of type E, sz cells each. -/
inductive Slot where
  | ob (T : Nat) (cs : List AV)
  | row (E sz n : Nat) (cs : List AV)
  | fz (cs : List AV)     -- cells that never change any more

def Slot.cells : Slot → List AV
  | .ob _ cs => cs
  | .row _ _ _ cs => cs
  | .fz cs => cs

abbrev Sto := Nat → Option Slot
def upd (σ : Sto) (k : Nat) (x : Option Slot) : Sto := fun i => if i = k then x else σ i

/-- Where a number of the store lies: its address and capacity. -/
structure CR where
  A : Option Addr
  cap : Nat

/-- What is fixed of a state at hand: the blocks that never change, the places of the store's numbers, the numbers that are told. -/
structure G where
  V : Nat → Prop
  ρ : Nat → CR
  D : Nat → Prop

/-- A map's entries are as f says: texts to numbers. -/
structure MapFit (f : List UInt8 → Option Int) (es : Array MapEntry) (clock : Nat) : Prop where
  kind : ∀ x ∈ es.toList, ∃ k n, x.key = .string k ∧ x.val = .int .i64 n
  look : ∀ (k : ByteArray) (n : Int), f k.data.toList = some n ↔ ∃ x ∈ es.toList, x.key = .string k ∧ x.val = .int .i64 n
  st : MapKept.Stamped es clock

inductive Rep (w : World) (g : G) : AV → Value → Prop where
  | v (x : Value) : Rep w g (.v x) x
  | p (cs : List AV) (ad : Addr) (us : Nat → Value) (hV : g.V ad.block) (h1 : ∀ j c, cs[j]? = some c → w.cell? (ad.add j) = some (us j)) (h2 : ∀ j c, cs[j]? = some c → Rep w g c (us j)) :
      Rep w g (.p cs) (.pointer (some ad))
  | s (ex : Bool) (n c : Nat) (cs : List AV) (A : Option Addr) (us : Nat → Value) (hn : n ≤ c) (he : ex = true → c = n)
      (h1 : ∀ j x, cs[j]? = some x → ∃ ad, A = some ad ∧ g.V ad.block ∧ w.cell? (ad.add j) = some (us j)) (h2 : ∀ j x, cs[j]? = some x → Rep w g x (us j)) :
      Rep w g (.s ex n cs) (.slice A n c)
  | r (id off b : Nat) (hD : g.D id) (h : (g.ρ id).A = some ⟨b, 0, none⟩) : Rep w g (.r id off) (.pointer (some ⟨b, off, none⟩))
  | w (id lo n c : Nat) (A : Option Addr) (hD : g.D id) (hn : n ≤ c) (h0 : lo = 0 → A = (g.ρ id).A ∧ c = (g.ρ id).cap)
      (h1 : 0 < n → ∃ b, (g.ρ id).A = some ⟨b, 0, none⟩ ∧ A = some ⟨b, lo, none⟩) : Rep w g (.w id lo n) (.slice A n c)
  | a (cs : List AV) (vs : Array Value) (us : Nat → Value) (hs : vs.size = cs.length) (h1 : ∀ j c, cs[j]? = some c → vs[j]? = some (us j)) (h2 : ∀ j c, cs[j]? = some c → Rep w g c (us j)) :
      Rep w g (.a cs) (.agg vs)
  | t (xs : List AV) (vs : Array Value) (us : Nat → Value) (hs : vs.size = xs.length) (h1 : ∀ j c, xs[j]? = some c → vs[j]? = some (us j)) (h2 : ∀ j c, xs[j]? = some c → Rep w g c (us j)) :
      Rep w g (.t xs) (.tuple vs)
  | m (f : List UInt8 → Option Int) (b clock : Nat) (es : Array MapEntry) (hV : g.V b) (hb : w.heap[b]? = some (.map es clock)) (hf : MapFit f es clock) : Rep w g (.m f) (.map (some b))

/-- From (w, g) to (w', g') what was told stays told. -/
structure Onto (w : World) (g : G) (w' : World) (g' : G) : Prop where
  V : ∀ b, g.V b → g'.V b
  blk : ∀ b, g.V b → w'.heap[b]? = w.heap[b]?
  D : ∀ i, g.D i → g'.D i
  ρ : ∀ i, g.D i → g'.ρ i = g.ρ i

theorem Onto.refl (w : World) (g : G) : Onto w g w g := ⟨fun _ h => h, fun _ _ => rfl, fun _ h => h, fun _ _ => rfl⟩
theorem Onto.trans {w w1 w2 : World} {g g1 g2 : G} (h : Onto w g w1 g1) (k : Onto w1 g1 w2 g2) : Onto w g w2 g2 :=
  ⟨fun b hb => k.V b (h.V b hb), fun b hb => (k.blk b (h.V b hb)).trans (h.blk b hb), fun i hi => k.D i (h.D i hi), fun i hi => (k.ρ i (h.D i hi)).trans (h.ρ i hi)⟩

theorem add_block (ad : Addr) (j : Nat) : (ad.add j).block = ad.block := by unfold Addr.add; split <;> rfl
theorem cell_of_blk {w w' : World} {ad : Addr} (h : w'.heap[ad.block]? = w.heap[ad.block]?) (j : Nat) : w'.cell? (ad.add j) = w.cell? (ad.add j) := by
  apply World.cell?_of_block
  rw [add_block]
  exact h

theorem Rep.onto {w w' : World} {g g' : G} (k : Onto w g w' g') {x : AV} {u : Value} (h : Rep w g x u) : Rep w' g' x u := by
  induction h with
  | v x => exact .v x
  | p cs ad us hV h1 _ ih => exact .p cs ad us (k.V _ hV) (fun j c hc => by rw [cell_of_blk (k.blk _ hV)]; exact h1 j c hc) (fun j c hc => ih j c hc)
  | s ex n c cs A us hn he h1 _ ih =>
    refine .s ex n c cs A us hn he (fun j x hx => ?_) (fun j x hx => ih j x hx)
    obtain ⟨ad, ha, hV, hc⟩ := h1 j x hx
    exact ⟨ad, ha, k.V _ hV, by rw [cell_of_blk (k.blk _ hV)]; exact hc⟩
  | r id off b hD h => exact .r id off b (k.D _ hD) (by rw [k.ρ _ hD]; exact h)
  | w id lo n c A hD hn h0 h1 => exact .w id lo n c A (k.D _ hD) hn (fun e => by rw [k.ρ _ hD]; exact h0 e) (fun e => by rw [k.ρ _ hD]; exact h1 e)
  | a cs vs us hs h1 _ ih => exact .a cs vs us hs h1 (fun j c hc => ih j c hc)
  | t xs vs us hs h1 _ ih => exact .t xs vs us hs h1 (fun j c hc => ih j c hc)
  | m f b clock es hV hb hf => exact .m f b clock es (k.V _ hV) (by rw [k.blk _ hV]; exact hb) hf

/-- The cells us of a block read as cs. -/
def Cells (w : World) (g : G) (cs : List AV) (us : Array Value) : Prop := ∀ (j : Nat) (c : AV), cs[j]? = some c → ∃ u, us[j]? = some u ∧ Rep w g c u
theorem Cells.onto {w w' : World} {g g' : G} (k : Onto w g w' g') {cs : List AV} {us : Array Value} (h : Cells w g cs us) : Cells w' g' cs us := fun j c hc => by
  obtain ⟨u, h1, h2⟩ := h j c hc
  exact ⟨u, h1, h2.onto k⟩

/-- Number id of the store lies in the world as s says; its block is none of those that never change. -/
def Lies (w : World) (g : G) (id : Nat) : Slot → Prop
  | .ob T cs => ∃ b us, (g.ρ id).A = some ⟨b, 0, none⟩ ∧ w.heap[b]? = some (.cells us T (0, 0)) ∧ us.size = cs.length ∧ Cells w g cs us ∧ ¬ g.V b
  | .row E sz n cs => cs.length = n * sz ∧ n ≤ (g.ρ id).cap ∧ (g.ρ id).cap ≤ maxLen ∧ 0 < sz ∧
      ((g.ρ id).cap = 0 ∨ ∃ b us, (g.ρ id).A = some ⟨b, 0, none⟩ ∧ w.heap[b]? = some (.cells us E (0, 0)) ∧ us.size = (g.ρ id).cap * sz ∧ Cells w g cs us ∧ ¬ g.V b)
  | .fz cs => ∀ b, (g.ρ id).A = some ⟨b, 0, none⟩ → cs = [] ∨ (g.V b ∧ ∀ j c, cs[j]? = some c → ∃ u, w.cell? ((⟨b, 0, none⟩ : Addr).add j) = some u ∧ Rep w g c u)

/-- The block of a number of the store, if it has one. -/
def blockOf (g : G) (id : Nat) : Slot → Option Nat
  | .ob _ _ => (g.ρ id).A.map (·.block)
  | .row .. => if (g.ρ id).cap = 0 then none else (g.ρ id).A.map (·.block)
  | .fz _ => none

/-- The store as it lies in the world. -/
structure Inv (w : World) (g : G) (σ : Sto) : Prop where
  vlt : ∀ b, g.V b → b < w.heap.size
  lies : ∀ id s, σ id = some s → Lies w g id s
  told : ∀ id s, σ id = some s → g.D id
  apart : ∀ i j s t b, i ≠ j → σ i = some s → σ j = some t → blockOf g i s = some b → blockOf g j t ≠ some b

theorem Lies.lt {w : World} {g : G} {id : Nat} {s : Slot} (h : Lies w g id s) {b : Nat} (hb : blockOf g id s = some b) : b < w.heap.size ∧ ¬ g.V b := by
  cases s with
  | ob T cs =>
    obtain ⟨b', us, hA, hh, _, _, hV⟩ := h
    simp only [blockOf, hA, Option.map_some, Option.some.injEq] at hb
    subst hb
    exact ⟨(Array.getElem?_eq_some_iff.1 hh).1, hV⟩
  | row E sz n cs =>
    obtain ⟨_, _, _, _, h⟩ := h
    rcases h with h0 | ⟨b', us, hA, hh, _, _, hV⟩
    · simp [blockOf, h0] at hb
    · by_cases h0 : (g.ρ id).cap = 0
      · simp [blockOf, h0] at hb
      · simp only [blockOf, h0, if_false, hA, Option.map_some, Option.some.injEq] at hb
        subst hb
        exact ⟨(Array.getElem?_eq_some_iff.1 hh).1, hV⟩
  | fz cs => simp [blockOf] at hb

/-- What lies stays where its block, and all that never changes, stays. -/
theorem Lies.onto {w w' : World} {g g' : G} (k : Onto w g w' g') {id : Nat} {s : Slot} (hD : g.D id) (h : Lies w g id s)
    (hb : ∀ b, blockOf g id s = some b → w'.heap[b]? = w.heap[b]? ∧ ¬ g'.V b) : Lies w' g' id s := by
  cases s with
  | ob T cs =>
    obtain ⟨b, us, hA, hh, hs, hc, _⟩ := h
    have hk := hb b (by simp [blockOf, hA])
    exact ⟨b, us, by rw [k.ρ _ hD]; exact hA, by rw [hk.1]; exact hh, hs, hc.onto k, hk.2⟩
  | row E sz n cs =>
    obtain ⟨h1, h2, h3, h4, h⟩ := h
    refine ⟨h1, by rw [k.ρ _ hD]; exact h2, by rw [k.ρ _ hD]; exact h3, h4, ?_⟩
    by_cases h0 : (g.ρ id).cap = 0
    · exact .inl (by rw [k.ρ _ hD]; exact h0)
    · rcases h with h | ⟨b, us, hA, hh, hs, hc, _⟩
      · exact absurd h h0
      · have hk := hb b (by simp [blockOf, hA, h0])
        exact .inr ⟨b, us, by rw [k.ρ _ hD]; exact hA, by rw [hk.1]; exact hh, by rw [k.ρ _ hD]; exact hs, hc.onto k, hk.2⟩
  | fz cs =>
    intro b hA
    rw [k.ρ _ hD] at hA
    rcases h b hA with h0 | ⟨hV, hc⟩
    · exact .inl h0
    · refine .inr ⟨k.V _ hV, fun j c hj => ?_⟩
      obtain ⟨u, h1, h2⟩ := hc j c hj
      exact ⟨u, by rw [cell_of_blk (ad := ⟨b, 0, none⟩) (k.blk _ hV)]; exact h1, h2.onto k⟩

theorem blockOf_onto {w w' : World} {g g' : G} (k : Onto w g w' g') {id : Nat} (hD : g.D id) (s : Slot) : blockOf g' id s = blockOf g id s := by
  cases s <;> simp [blockOf, k.ρ _ hD]
end
end Go.Proofs.YtegbkihgnofkfaaGreatDoor.Ev

/-
The engine, part 2: what an operation, a region, code and a call give, told over AV alone.
-/
namespace Go.Proofs.YtegbkihgnofkfaaGreatDoor.Ev
section
set_option linter.unusedVariables false
set_option linter.unusedSimpArgs false
open Go

/-- What the engine knows of a type. -/
inductive TK where
  | str | bool | int (k : IntKind) | ptr (e : Nat) | sl (e : Nat) | arr (n e : Nat)
  | st (fs : List (Nat × Nat))     -- fields: offset, type
  | mp                             -- a map from texts to numbers
structure TI where
  k : TK
  sz : Nat
  by_ : Nat
  z : List Value
abbrev Tab := Nat → Option TI

def TI.agg (i : TI) : Bool := match i.k with | .arr .. | .st _ => true | _ => false

def ofC0 : Value → AV
  | .slice none 0 0 => .s true 0 []
  | x => .v x
def ofC : Value → AV
  | .slice none 0 0 => .s true 0 []
  | .agg vs => .a (vs.toList.map ofC0)
  | x => .v x

def val (e : Nat → AV) : Operand → AV
  | .tmp t => e t
  | .const x => ofC x
  | .func f => .v (.func (.func f) #[] #[])
  | .global g => .v (.pointer (some ⟨g, 0, none⟩))

/-- The cells of a value, as they are written. -/
def leaves : AV → Option (List AV)
  | .a cs => some cs
  | .t _ => none
  | .m _ => none
  | .o .. => none
  | .v x => if x.oneCell' then some [.v x] else none
  | x => some [x]

/-- A leaf that may be written into a cell. -/
def leafOk : AV → Bool
  | .a _ | .t _ | .o .. | .m _ => false
  | .v x => x.oneCell'
  | _ => true

def addOff (off : Nat) : AV → Option AV
  | .p cs => some (.p (cs.drop off))
  | .r id o => some (.r id (o + off))
  | _ => none

def cellsAt (σ : Sto) : AV → Option (List AV)
  | .p cs => some cs
  | .r id o => (σ id).map fun s => s.cells.drop o
  | _ => none

/-- A slice's elements' cells. -/
def sliceCells (σ : Sto) (sz : Nat) : AV → Option (Nat × List AV)
  | .s _ n cs => some (n, cs)
  | .w id lo n => (σ id).bind fun s => if lo + n * sz ≤ s.cells.length then some (n, (s.cells.drop lo).take (n * sz)) else none
  | _ => none

def lenOf : AV → Option Nat
  | .s _ n _ => some n
  | .w _ _ n => some n
  | .v (.string s) => some s.size
  | _ => none

def takeVal (i : TI) (cs : List AV) : Option AV := if i.agg then (if i.sz ≤ cs.length then some (.a (cs.take i.sz)) else none) else cs.head?

def setRange (cs : List AV) (o : Nat) (ls : List AV) : Option (List AV) := if o + ls.length ≤ cs.length then some (cs.take o ++ ls ++ cs.drop (o + ls.length)) else none

def bitsI (op : BinOp) (k : IntKind) (x y : Int) : Int :=
  let a := BitVec.ofInt k.bits x
  let b := BitVec.ofInt k.bits y
  match op with
  | .and => k.wrap (a &&& b).toNat
  | .or => k.wrap (a ||| b).toNat
  | _ => k.wrap (a ^^^ b).toNat
def intBin (op : BinOp) (k : IntKind) (a b : Int) : Option AV :=
  match op with
  | .add => some (.v (.int k (k.wrap (a + b))))
  | .sub => some (.v (.int k (k.wrap (a - b))))
  | .mul => some (.v (.int k (k.wrap (a * b))))
  | .quo => if b = 0 then none else some (.v (.int k (k.wrap (a.tdiv b))))
  | .rem => if b = 0 then none else some (.v (.int k (a.tmod b)))
  | .eql => some (.v (.bool (a == b)))
  | .neq => some (.v (.bool (a != b)))
  | .lss => some (.v (.bool (decide (a < b))))
  | .leq => some (.v (.bool (decide (a ≤ b))))
  | .gtr => some (.v (.bool (decide (a > b))))
  | .geq => some (.v (.bool (decide (a ≥ b))))
  | .and => some (.v (.int k (bitsI .and k a b)))
  | .or => some (.v (.int k (bitsI .or k a b)))
  | .xor => some (.v (.int k (bitsI .xor k a b)))
  | _ => none

def strBin (op : BinOp) (x y : ByteArray) : Option AV :=
  match op with
  | .add => if x.size + y.size ≤ 9223372036854775807 then some (.v (.string (x ++ y))) else none
  | .eql => some (.v (.bool (x.toList == y.toList)))
  | .neq => some (.v (.bool (!(x.toList == y.toList))))
  | .lss => some (.v (.bool (Op.bytesLess x.toList y.toList)))
  | .leq => some (.v (.bool (Op.bytesLess x.toList y.toList || x.toList == y.toList)))
  | .gtr => some (.v (.bool (!(Op.bytesLess x.toList y.toList || x.toList == y.toList))))
  | .geq => some (.v (.bool (!(Op.bytesLess x.toList y.toList))))
  | _ => none

def eqB (op : BinOp) (b : Bool) : Option AV :=
  match op with
  | .eql => some (.v (.bool b))
  | .neq => some (.v (.bool (!b)))
  | _ => none

def bin (op : BinOp) (k : TK) : AV → AV → Option AV
  | .v (.int k a), .v (.int k' b) => if k = k' then intBin op k a b else none
  | .v (.string a), .v (.string b) => strBin op a b
  | .v (.bool a), .v (.bool b) => match k with | .bool => eqB op (a == b) | _ => none
  | .v (.pointer none), .v (.pointer none) => match k with | .ptr _ => eqB op true | _ => none
  | .p _, .v (.pointer none) => match k with | .ptr _ => eqB op false | _ => none
  | .r _ _, .v (.pointer none) => match k with | .ptr _ => eqB op false | _ => none
  | _, _ => none

def bytesOf : List AV → Option (List UInt8)
  | [] => some []
  | .v (.int .u8 n) :: cs => (bytesOf cs).map (UInt8.ofNat n.toNat :: ·)
  | _ => none

def conv (I : Tab) (src dst : TI) : AV → Option AV
  | .v (.int _ n) => match dst.k with | .int k => some (.v (.int k (k.wrap n))) | _ => none
  | .v (.string s) => match src.k, dst.k with | .str, .str => some (.v (.string s)) | _, _ => none
  | .s _ n cs => match src.k, dst.k with
    | .sl E, .str => match I E with
      | some ⟨.int .u8, _, _, _⟩ => if cs.length = n then (bytesOf cs).map fun l => .v (.string ⟨l.toArray⟩) else none
      | _ => none
    | _, _ => none
  | _ => none

def bound (n : Nat) : Option AV → Nat → Option Nat
  | none, d => some d
  | some (.v (.int _ i)), _ => if 0 ≤ i ∧ i ≤ (n : Int) then some i.toNat else none
  | _, _ => none

/-- x[lo:hi] of a string or a slice (a slice is not cut beyond its length). -/
def cut (sz : Nat) (x : AV) (lo hi : Option AV) : Option AV :=
  match x with
  | .v (.string s) => (bound s.size hi s.size).bind fun h => (bound h lo 0).map fun l => .v (.string (s.extract l h))
  | .s ex n cs => (bound n hi n).bind fun h => (bound h lo 0).map fun l => .s (ex && h == n) (h - l) ((cs.drop (l * sz)).take ((h - l) * sz))
  | .w id o n => (bound n hi n).bind fun h => (bound h lo 0).map fun l => .w id (o + l * sz) (h - l)
  | _ => none

def mx2 (isMax : Bool) : AV → AV → Option AV
  | .v (.int k x), .v (.int _ y) => some (.v (.int k (if isMax then (if y > x then y else x) else (if y < x then y else x))))
  | _, _ => none

/-! closed: is it a value without numbers of the store (nor a row handed over)? -/
mutual
def closed : AV → Bool
  | .v _ => true
  | .p cs => closedL cs
  | .s _ _ cs => closedL cs
  | .a cs => closedL cs
  | .t xs => closedL xs
  | .m _ => true
  | _ => false
def closedL : List AV → Bool
  | [] => true
  | x :: xs => closed x && closedL xs
end

/-- Is it made of plain cells alone? -/
def plain : AV → Bool
  | .v _ => true
  | _ => false

/-- Values one after the other, and the numbers that they reach. -/
def deepC (f : AV → Option (AV × List Nat)) : List AV → Option (List AV × List Nat)
  | [] => some ([], [])
  | x :: xs => (f x).bind fun (y, is) => (deepC f xs).map fun (ys, js) => (y :: ys, is ++ js)

/-- A value told as one that never changes, and the numbers of the store whose blocks it reaches; d: how deep. -/
def deep (σ : Sto) : Nat → AV → Option (AV × List Nat)
  | 0, x => if closed x then some (x, []) else none
  | d + 1, x => match x with
    | .w id lo n => match σ id with
      | some (.row _ sz _ cs) => if lo + n * sz ≤ cs.length then (deepC (deep σ d) cs).map fun (ds, is) => (.s false n ((ds.drop lo).take (n * sz)), id :: is) else none
      | some (.fz cs) => if closedL cs ∧ cs ≠ [] ∧ 0 < n then some (.s false n (cs.drop lo), []) else none
      | _ => none
    | .r id off => match σ id with
      | some (.ob _ cs) => (deepC (deep σ d) cs).map fun (ds, is) => (.p (ds.drop off), id :: is)
      | some (.fz cs) => if closedL cs ∧ cs ≠ [] then some (.p (cs.drop off), []) else none
      | _ => none
    | .a cs => (deepC (deep σ d) cs).map fun (ds, is) => (.a ds, is)
    | x => if closed x then some (x, []) else none

/-- What is of these numbers never changes from now on. -/
def frz (σ : Sto) (d : Nat) (ids : List Nat) : Sto := fun i =>
  if i ∈ ids then (σ i).bind fun s => (deepC (deep σ d) s.cells).bind fun (ds, is) => if is.all (· ∈ ids) then some (.fz ds) else none else σ i

/-- A result taken in: a row handed over gets the number key. -/
def adopt1 (σ : Sto) (key : Nat) : AV → Option (AV × Sto)
  | .o E sz n cs => if closedL cs then some (.w key 0 n, upd σ key (some (.row E sz n cs))) else none
  | x => if closed x then some (x, σ) else none
def adoptL (σ : Sto) (key : Nat) : List AV → Option (List AV × Sto)
  | [] => some ([], σ)
  | x :: xs => (adopt1 σ key x).bind fun (y, σ1) => (adoptL σ1 (key + 1) xs).map fun (ys, σ2) => (y :: ys, σ2)
def adopt (σ : Sto) (key : Nat) : AV → Option (AV × Sto)
  | .t xs => if closedL xs = true then some (.t xs, σ) else if xs.length ≤ 4 then (adoptL σ key xs).map fun (ys, σ1) => (.t ys, σ1) else none
  | x => adopt1 σ key x

/-- How many numbers a result may take. -/
def room : AV → Nat
  | .t xs => if closedL xs = true then 0 else xs.length
  | _ => 1

/-- Is a result plain (so that it can't lead to what was lent)? -/
def flat1 : AV → Bool
  | .v _ => true
  | .o _ _ _ cs => cs.all plain
  | _ => false
def flat : AV → Bool
  | .t xs => xs.all flat1
  | x => flat1 x

/-- What a call of a function gives, of values alone. -/
abbrev Sem1 := FuncId → List AV → Option AV

def zeros (i : TI) : List AV := i.z.map ofC

/-- Parts put into their places. -/
def fillP (places : Nat → Option (Nat × Nat)) : List AV → List (Nat × AV) → Option (List AV)
  | cs, [] => some cs
  | cs, (i, x) :: rest => match places i, leaves x with
    | some (off, sz), some ls => if ls.length = sz then (setRange cs off ls).bind fun cs1 => fillP places cs1 rest else none
    | _, _ => none

def builtinOf (I : Tab) (σ : Sto) (key : Nat) (b : Builtin) (tys : Array TypeId) (xs : List AV) : Option (AV × Sto) :=
  match b, xs with
  | .len, [x] => match tys[0]? with
    | some t => match I t with
      | some ⟨.str, _, _, _⟩ => match x with | .v (.string s) => some (.v (.int .i64 s.size), σ) | _ => none
      | some ⟨.sl _, _, _, _⟩ => match x with | .s _ n _ => some (.v (.int .i64 n), σ) | .w _ _ n => some (.v (.int .i64 n), σ) | _ => none
      | _ => none
    | none => none
  | .max, [x, y] => (mx2 true x y).map (·, σ)
  | .min, [x, y] => (mx2 false x y).map (·, σ)
  | .append, [x, y] =>
    if tys = #[tys.getD 0 0, tys.getD 0 0] then
      match I (tys.getD 0 0) with
      | some ⟨.sl E, _, _, _⟩ => match I E with
        | some ei => match sliceCells σ ei.sz y with
          | some (m, news) =>
            if 0 < ei.sz ∧ news.length = m * ei.sz ∧ news.all leafOk then
              match x with
              | .s true n cs => if cs.length = n * ei.sz ∧ n + m ≤ maxLen ∧ (n + m) * ei.by_ ≤ 140737488355328 then (if m = 0 ∧ 0 < n then some (x, σ) else some (.w key 0 (n + m), upd σ key (some (.row E ei.sz (n + m) (cs ++ news))))) else none
              | .w id 0 n => match σ id with
                | some (.row E' sz' _ cs) => if E' = E ∧ sz' = ei.sz ∧ n * ei.sz ≤ cs.length ∧ n + m ≤ maxLen ∧ (n + m) * ei.by_ ≤ 140737488355328 ∧ key ≠ id then
                    some (.w key 0 (n + m), upd (upd σ id none) key (some (.row E ei.sz (n + m) (cs.take (n * ei.sz) ++ news)))) else none
                | _ => none
              | _ => none
            else none
          | none => none
        | none => none
      | _ => none
    else none
  | _, _ => none

/-- The cells of the first n of N elements. -/
def tk (n N sz : Nat) (ds : List AV) : List AV := if n = N then ds else ds.take (n * sz)
def ni (n : Nat) : AV := .v (.int .i64 n)

/-- A value that reaches nothing of the store. -/
def clear (σ : Sto) (x : AV) : Option (AV × List Nat) := (deep σ 8 x).bind fun (y, is) => if is = [] then some (y, []) else none

/-- A cell of an object that is lent: a row of its own goes along. -/
def leafP (σ : Sto) : AV → Option (AV × List Nat)
  | .w id 0 n => match σ id with
    | some (.row E sz N cs) => if n ≤ N then (deepC (deep σ 8) cs).bind fun (ds, is) => if is = [] then some (.o E sz n (tk n N sz ds), [id]) else none else none
    | _ => none
  | x => clear σ x

/-- What is lent for a while, and the numbers that go along: an object, a part of a row, or a value. -/
def pack1 (σ : Sto) : AV → Option (AV × List Nat)
  | .t _ => none
  | .r id 0 => match σ id with
    | some (.ob T cs) => (deepC (leafP σ) cs).map fun (ps, is) => (.t (.v (.bool true) :: ni T :: ps), id :: is)
    | _ => clear σ (.r id 0)
  | .w id lo n => match σ id with
    | some (.row E sz N cs) => (deepC (deep σ 8) cs).bind fun (ds, is) => if is = [] then some (.t [.v (.bool false), ni lo, ni n, .o E sz N ds], [id]) else none
    | _ => none
  | .p [.w id lo n] => match σ id with
    | some (.row E sz N cs) => (deepC (deep σ 8) cs).bind fun (ds, is) => if is = [] then some (.t [.t [.v (.bool false), ni lo, ni n, .o E sz N ds]], [id]) else none
    | _ => none
  | x => clear σ x

/-- Rows taken in, from number k on. -/
def rowsIn (σ : Sto) (k : Nat) : List AV → List AV × Sto × Nat
  | [] => ([], σ, k)
  | .o E sz n cs :: xs => let (ys, σ1, k1) := rowsIn (upd σ k (some (.row E sz n cs))) (k + 1) xs; (.w k 0 n :: ys, σ1, k1)
  | x :: xs => let (ys, σ1, k1) := rowsIn σ k xs; (x :: ys, σ1, k1)

/-- What was lent comes back. -/
def back (σ : Sto) (k : Nat) : List AV → List AV → Option (Sto × Nat)
  | [], [] => some (σ, k)
  | x :: xs, y :: ys => match x, y with
    | .r id 0, .t (.v (.bool true) :: .v (.int .i64 T) :: ps) => let (ds, σ1, k1) := rowsIn σ k ps; back (upd σ1 id (some (.ob T.toNat ds))) k1 xs ys
    | .w id _ _, .t [.v (.bool false), _, _, .o E sz N cs] => back (upd σ id (some (.row E sz N cs))) k xs ys
    | .p [.w id _ _], .t [.t [.v (.bool false), _, _, .o E sz N cs]] => back (upd σ id (some (.row E sz N cs))) k xs ys
    | _, _ => back σ k xs ys
  | _, _ => none

def killL (σ : Sto) (ids : List Nat) : Sto := fun i => if i ∈ ids then none else σ i

/-- The numbers that a row's cells reach that is lent. -/
def need (σ : Sto) : AV → List Nat
  | .w id _ _ => match σ id with
    | some (.row _ _ _ cs) => match deepC (deep σ 8) cs with
      | some (_, is) => is
      | none => []
    | _ => []
  | _ => []
def needs (σ : Sto) : List AV → List Nat
  | [] => []
  | x :: xs => need σ x ++ needs σ xs
def frz0 (σ : Sto) : List Nat → Sto
  | [] => σ
  | i :: is => frz σ 8 (i :: is)

/-- What a call that lends gives. -/
def callL (C : Sem1) (σ : Sto) (key : Nat) (f : FuncId) (xs : List AV) : Option (AV × Sto) :=
  (deepC (pack1 (frz0 σ (needs σ xs))) xs).bind fun (ps, L) => if L.Nodup then (C f ps).bind fun r => match r with
      | .t [x, .t outs] => (back (killL (frz0 σ (needs σ xs)) L) key xs outs).bind fun (σ1, k1) => if k1 + room x ≤ key + 4 then adopt σ1 k1 x else none
      | _ => none
    else none
open Classical in
/-- The same, if what stands from 12 on, below m, stays as it is. -/
noncomputable def callF (C : Sem1) (m : Nat) (σ : Sto) (key : Nat) (f : FuncId) (xs : List AV) : Option (AV × Sto) :=
  (callL C σ key f xs).bind fun r => if ∀ i, 12 ≤ i → i < m → r.2 i = σ i then some r else none
/-- What a call of a function of the program gives. pf: 1: of values alone; 2: what it is given may change; 3: of values alone, it makes one object that may change. -/
noncomputable def callOp (C : Sem1) (pf : FuncId → Nat) (σ : Sto) (key : Nat) (f : FuncId) (xs : List AV) : Option (AV × Sto) :=
  if pf f = 1 then (if closedL xs then (C f xs).bind fun x => if closed x then some (x, σ) else none else none)
  else if pf f = 2 ∨ pf f = 3 then
    if pf f = 3 then (if closedL xs then (C f xs).bind fun x => match x with
      | .o T 0 _ cs => if closedL cs then some (.r key 0, upd σ key (some (.ob T cs))) else none
      | _ => none else none) else
    (deepC (pack1 (frz0 σ (needs σ xs))) xs).bind fun (ps, L) => if L.Nodup then (C f ps).bind fun r => match r with
      | .t [x, .t outs] => (back (killL (frz0 σ (needs σ xs)) L) key xs outs).bind fun (σ1, k1) => if k1 + room x ≤ key + 4 then adopt σ1 k1 x else none
      | _ => none
    else none
  else if pf f = 4 then callF C (pf 1000000000) σ key f xs
  else (deepC (deep σ 8) xs).bind fun (ys, ids) => (C f ys).bind fun x => if ids = [] ∨ flat x = true then adopt σ key x else adopt (frz σ 8 ids) key x

/-! Options: numbers of pf beyond those of functions. A box of type t that never changes; loads that look at what never changes alone; regions that draw so. -/
def oBox (t : Nat) : Nat := 1000000001 + t
def oStrict : Nat := 3000000000
def oReg (id : Nat) : Nat := 2000000000 + id
/-! A parted region: its loads look below the region's numbers alone; a store of a type so marked goes to what the region made, any other below. -/
def oLow (id : Nat) : Nat := 4000000000 + id
def oMaskOn : Nat := 5000000000
def oMask : Nat := 1000000000
def oHi (t : Nat) : Nat := 6000000000 + t
/-! A floored region: its loads look at numbers from 12 on, its stores go below. -/
def oFl (id : Nat) : Nat := 5100000000 + id
def oFlOn : Nat := 5000000001
/-- A floored region whose loads look below 50 alone. -/
def oFlU : Nat := 5000000002
/-- A floored region whose stores go anywhere (none of them is beside a load). -/
def oFlS : Nat := 5000000003
/-- The store as a load sees it. -/
def lookAt (pf : FuncId → Nat) (σ : Sto) : Sto := if pf oStrict = 1 then (fun _ => none) else if pf oMaskOn = 1 then (fun i => if i < pf oMask then σ i else none) else if pf oFlOn = 1 then (fun i => if 12 ≤ i ∧ i < pf oMask then σ i else none) else σ
/-- May a store of type t go there? -/
def stOk (pf : FuncId → Nat) (t : Nat) (x : AV) : Bool := if pf oMaskOn = 1 then (match x with | .r id _ => if pf (oHi t) = 1 then decide (pf oMask ≤ id) else decide (id < pf oMask) | _ => false) else if pf oFlOn = 1 then (if pf oFlS = 1 then true else match x with | .r id _ => decide (id < 12) | _ => false) else true
/-- pf in a region. -/
def inReg (pf : FuncId → Nat) (id : Nat) : FuncId → Nat := if pf (oReg id) = 1 then (fun f => if f = oStrict then 1 else pf f) else if pf (oLow id) = 1 then (fun f => if f = oMaskOn then 1 else pf f) else if pf (oFl id) = 1 then (fun f => if f = oFlOn then 1 else if pf f = 2 then 4 else pf f) else pf
/-- pf in a region whose numbers begin at b. -/
def atBase (pf : FuncId → Nat) (b : Nat) : FuncId → Nat := if pf oMaskOn = 1 ∨ pf oFlOn = 1 then (fun f => if f = oMask then (if pf oMaskOn = 1 then b else if pf oFlU = 1 then min b 50 else b) else pf f) else pf
/-! A pure function that is called plainly here (its arguments need not be closed). -/
def oPl (f : Nat) : Nat := 7000000000 + f
/-- pf with options. -/
def withOpt (L : List Nat) (pf : FuncId → Nat) : FuncId → Nat := fun f => if 1000000000 ≤ f then (if f ∈ L then 1 else 0) else if oPl f ∈ L ∧ pf f = 1 then 0 else pf f

/-- x[l:m:m] with l = m alone: an empty slice. -/
def cut3 (I : Tab) (t : TypeId) (x : AV) (lo hi : Option AV) (mx : AV) : Option AV :=
  match I t with
  | some ⟨.sl E, _, _, _⟩ => (I E).bind fun _ => match x with
    | .s _ n _ => (bound n (some mx) n).bind fun m => (bound m hi 0).bind fun h => (bound h lo 0).bind fun l => if m = l ∧ hi.isSome = true then some (.s true 0 []) else none
    | .w _ _ n => (bound n (some mx) n).bind fun m => (bound m hi 0).bind fun h => (bound h lo 0).bind fun l => if m = l ∧ hi.isSome = true then some (.s true 0 []) else none
    | _ => none
  | _ => none
/-- A row of zeros. -/
def zrow (n sz : Nat) (z : List AV) : List AV := (List.range n).map fun j => z.getD (j % sz) (.v undef)

/-- What a store gives. -/
def putAt (I : Tab) (σ : Sto) (t : TypeId) (x y : AV) : Option (AV × Sto) := (I t).bind fun i => (leaves y).bind fun ls =>
  if ls.length = i.sz ∧ 0 < i.sz ∧ ls.all leafOk then match x with
    | .r id o => match σ id with
      | some (.ob T cs) => (setRange cs o ls).map fun cs1 => (.v undef, upd σ id (some (.ob T cs1)))
      | some (.row E sz n cs) => (setRange cs o ls).map fun cs1 => (.v undef, upd σ id (some (.row E sz n cs1)))
      | _ => none
    | _ => none
  else none
/-- What one operation gives. key: the number that it may give to what it makes. -/
noncomputable def evOp (I : Tab) (C : Sem1) (pf : FuncId → Nat) (e : Nat → AV) (σ : Sto) (key : Nat) (op : Op) : Option (AV × Sto) :=
  match op with
  | .move x | .assign x => some (val e x, σ)
  | .pick c a b => match val e c with | .v (.bool t) => some (if t then val e a else val e b, σ) | _ => none
  | .binOp op T x y _ => (I T).bind fun i => (bin op i.k (val e x) (val e y)).map (·, σ)
  | .unOp op _ x => match op, val e x with
    | .not, .v (.bool b) => some (.v (.bool (!b)), σ)
    | .neg, .v (.int k n) => some (.v (.int k (k.wrap (0 - n))), σ)
    | _, _ => none
  | .convert s d x => (I s).bind fun si => (I d).bind fun di => (conv I si di (val e x)).map (·, σ)
  | .extract x i => match val e x with | .t xs => (xs[i]?).map (·, σ) | _ => none
  | .nilCheck x => match val e x with | .p cs => some (.p cs, σ) | .r id o => some (.r id o, σ) | _ => none
  | .fieldAddr s x f => match I s with
    | some ⟨.st fs, _, _, _⟩ => (fs[f]?).bind fun fd => (addOff fd.1 (val e x)).map (·, σ)
    | _ => none
  | .field s x f => match I s with
    | some ⟨.st fs, _, _, _⟩ => (fs[f]?).bind fun fd => (I fd.2).bind fun fi => match val e x with
      | .a cs => (takeVal fi (cs.drop fd.1)).map (·, σ)
      | _ => none
    | _ => none
  | .load t x => (I t).bind fun i => (cellsAt (lookAt pf σ) (val e x)).bind fun cs => (takeVal i cs).map (·, σ)
  | .store t x y => if stOk pf t (val e x) = true then putAt I σ t (val e x) (val e y) else none
  | .indexAddr t x ix => match I t, val e ix with
    | some ⟨.sl E, _, _, _⟩, .v (.int _ i) => (I E).bind fun ei => match val e x with
      | .s _ n cs => if 0 ≤ i ∧ i < (n : Int) ∧ cs.length = n * ei.sz ∧ 0 < ei.sz then some (.p (cs.drop (i.toNat * ei.sz)), σ) else none
      | .w id lo n => if 0 ≤ i ∧ i < (n : Int) then some (.r id (lo + i.toNat * ei.sz), σ) else none
      | _ => none
    | some ⟨.arr len E, _, _, _⟩, .v (.int _ i) => (I E).bind fun ei => if 0 ≤ i ∧ i < (len : Int) then (addOff (i.toNat * ei.sz) (val e x)).map (·, σ) else none
    | _, _ => none
  | .index t x ix => match I t, val e ix with
    | some ⟨.str, _, _, _⟩, .v (.int _ i) => match val e x with
      | .v (.string s) => if h : 0 ≤ i ∧ i.toNat < s.size then some (.v (.int .u8 (s[i.toNat]'h.2).toNat), σ) else none
      | _ => none
    | some ⟨.arr len E, _, _, _⟩, .v (.int _ i) => (I E).bind fun ei => match val e x with
      | .a cs => if 0 ≤ i ∧ i < (len : Int) then (takeVal ei (cs.drop (i.toNat * ei.sz))).map (·, σ) else none
      | _ => none
    | _, _ => none
  | .slice t x lo hi (some mx) => (cut3 I t (val e x) (lo.map (val e)) (hi.map (val e)) (val e mx)).map (·, σ)
  | .makeSlice t a b => match I t, val e a, val e b with
    | some ⟨.sl E, _, _, _⟩, .v (.int _ n), .v (.int _ m) => (I E).bind fun ei => if 0 ≤ n ∧ n ≤ m ∧ 0 < ei.sz ∧ m.toNat * ei.by_ ≤ 140737488355328 ∧ m.toNat ≤ 140737488355328 then
        some (.w key 0 n.toNat, upd σ key (some (.row E ei.sz n.toNat (zrow (n.toNat * ei.sz) ei.sz (zeros ei))))) else none
    | _, _, _ => none
  | .slice t x lo hi none => match I t with
    | some ⟨.str, _, _, _⟩ => match val e x with
      | .v (.string s) => (cut 0 (.v (.string s)) (lo.map (val e)) (hi.map (val e))).map (·, σ)
      | _ => none
    | some ⟨.sl E, _, _, _⟩ => (I E).bind fun ei => match val e x with
      | .s ex n cs => if cs.length = n * ei.sz then (cut ei.sz (.s ex n cs) (lo.map (val e)) (hi.map (val e))).map (·, σ) else none
      | .w id o n => if 0 < ei.sz then (cut ei.sz (.w id o n) (lo.map (val e)) (hi.map (val e))).map (·, σ) else none
      | _ => none
    | _ => none
  | .lookup t x k ok => match I t, val e x, val e k with
    | some ⟨.mp, _, _, _⟩, .m f, .v (.string s) => some (if ok then .t [.v (.int .i64 ((f s.data.toList).getD 0)), .v (.bool (f s.data.toList).isSome)] else .v (.int .i64 ((f s.data.toList).getD 0)), σ)
    | _, _, _ => none
  | .build t ps => match I t with
    | some ⟨.st fs, sz, by_, z⟩ => (fillP (fun j => (fs[j]?).bind fun fd => (I fd.2).map fun fi => (fd.1, fi.sz)) (zeros ⟨.st fs, sz, by_, z⟩) (ps.toList.map fun q => (q.1, val e q.2))).map fun cs => (.a cs, σ)
    | some ⟨.arr n E, sz, by_, z⟩ => (I E).bind fun ei => (fillP (fun j => some (j * ei.sz, ei.sz)) (zeros ⟨.arr n E, sz, by_, z⟩) (ps.toList.map fun q => (q.1, val e q.2))).map fun cs => (.a cs, σ)
    | _ => none
  | .buildSlice t len ps => match I t with
    | some ⟨.sl E, _, _, _⟩ => (I E).bind fun ei => if len * ei.sz ≤ 16777216 then
        (fillP (fun j => some (j * ei.sz, ei.sz)) ((List.range (len * ei.sz)).map fun j => (zeros ei).getD (j % ei.sz) (.v undef)) (ps.toList.map fun q => (q.1, val e q.2))).bind fun cs =>
          some (.s true len cs, σ) else none
    | _ => none
  | .box t x => (I t).bind fun i => (leaves (val e x)).bind fun ls => if ls.all leafOk then (if pf (oBox t) = 1 then some (.p ls, σ) else some (.r key 0, upd σ key (some (.ob t ls)))) else none
  | .alloc t => (I t).map fun i => (.r key 0, upd σ key (some (.ob t (zeros i))))
  | .call c => match c.callee with
    | .builtin b => builtinOf I σ key b c.argTypes (c.args.toList.map (val e))
    | .value (.func f) => callOp C pf σ key f (c.args.toList.map (val e))
    | _ => none
  | _ => none

structure St where
  e : Nat → AV
  σ : Sto
  nx : Nat

def St.put (s : St) (d : Option Nat) (x : AV) : St := match d with | some d => { s with e := fun t => if t = d then x else s.e t } | none => s

/-- The guard's answer. -/
def wantedE (ops : Array Oper) (e : Nat → AV) (o : Oper) : Option Bool :=
  match o.guard with
  | none => some true
  | some (j, want) => match ((ops[j]?).bind (·.dst)).map e with
    | some (.v (.bool b)) => some (b == want)
    | some (.v (.tuple _)) => some false     -- of an operation that was passed over
    | _ => none

/-- Operation number i of a region that began with nx = base. -/
noncomputable def ev1 (I : Tab) (C : Sem1) (pf : FuncId → Nat) (ops : Array Oper) (base i : Nat) (s : St) : Option St :=
  match ops[i]? with
  | none => some s
  | some o => match wantedE ops s.e o with
    | none => none
    | some false => some (s.put o.dst (.v undef))
    | some true => (evOp I C pf s.e s.σ (base + 4 * i) o.op).map fun (x, σ1) => ({ s with σ := σ1 } : St).put o.dst x

noncomputable def evL (I : Tab) (C : Sem1) (pf : FuncId → Nat) (ops : Array Oper) (base : Nat) : List Nat → St → Option St
  | [], s => some s
  | i :: is, s => (ev1 I C pf ops base i s).bind (evL I C pf ops base is)

inductive Ex where
  | normal | exit (id : Nat) | ret
def Ex.out : Ex → Exit
  | .normal => .normal
  | .exit id => .exit id
  | .ret => .ret

def roundsE (f : St → Option (Ex × St)) : Nat → St → Option (Ex × St)
  | 0, _ => none
  | m + 1, s => (f s).bind fun (x, s1) => match x with
    | .normal => roundsE f m s1
    | .exit id => some (.exit id, s1)
    | .ret => some (.ret, s1)

/-- What code gives; m: how many rounds a loop may take. -/
noncomputable def evC (I : Tab) (C : Sem1) (pf : FuncId → Nat) (m : Nat) : Code → St → Option (Ex × St)
  | .skip, s => some (.normal, s)
  | .region id ops _, s => (evL I C (atBase (inReg pf id) s.nx) ops s.nx (List.range ops.size) { s with nx := s.nx + 4 * ops.size }).map fun s1 => (.normal, s1)
  | .seq a b, s => (evC I C pf m a s).bind fun (x, s1) => match x with
    | .normal => evC I C pf m b s1
    | .exit id => some (.exit id, s1)
    | .ret => some (.ret, s1)
  | .cond c a b, s => match val s.e c with
    | .v (.bool t) => if t then evC I C pf m a s else evC I C pf m b s
    | _ => none
  | .block id c, s => (evC I C pf m c s).map fun (x, s1) => match x with
    | .normal => (.normal, s1)
    | .exit id' => if id' = id then (.normal, s1) else (.exit id', s1)
    | .ret => (.ret, s1)
  | .loop c, s => roundsE (evC I C pf m c) m s
  | .exit id, s => some (.exit id, s)
  | .label _, s => some (.normal, s)
  | .ret, s => some (.ret, s)
  | _, _ => none

/-- A result as it is handed over: the numbers of rows handed over, the numbers of what never changes from now on. -/
def give1 (σ : Sto) : AV → Option (AV × List Nat × List Nat)
  | .w id 0 n => match σ id with
    | some (.row E sz N cs) => if n ≤ N then (deepC (deep σ 8) cs).map fun (ds, is) => (.o E sz n (tk n N sz ds), [id], is) else none
    | _ => none
  | x => (deep σ 8 x).map fun (y, is) => (y, [], is)
def giveL (σ : Sto) : List AV → Option (List AV × List Nat × List Nat)
  | [] => some ([], [], [])
  | x :: xs => (give1 σ x).bind fun (y, os, is) => (giveL σ xs).map fun (ys, ps, js) => (y :: ys, os ++ ps, is ++ js)
def giveAll (σ : Sto) (xs : List AV) : Option AV :=
  (giveL σ xs).bind fun (ys, os, is) => if os.Nodup ∧ ∀ i ∈ os, i ∉ is then (match ys with | [.t _] => none | [y] => some y | ys => some (.t ys)) else none

/-- The results' values. -/
def evRes (I : Tab) (s : St) : List ResultVar → Option (List AV)
  | [] => some []
  | .tmp t :: rs => (evRes I s rs).map fun xs => s.e t :: xs
  | .cell c ty :: rs => (I ty).bind fun i => (cellsAt s.σ (s.e c)).bind fun cs => (takeVal i cs).bind fun x => (evRes I s rs).map fun xs => x :: xs

def St.init (args : List AV) : St := ⟨fun t => args.getD t (.v undef), fun _ => none, 0⟩

/-- What is lent, as the function called sees it. -/
def inits (σ : Sto) (k : Nat) : List AV → List AV × Sto × Nat
  | [] => ([], σ, k)
  | x :: xs => match x with
    | .t (.v (.bool true) :: .v (.int .i64 T) :: ps) =>
      let (ds, σ1, k1) := rowsIn σ (k + 1) ps
      let (ys, σ2, k2) := inits (upd σ1 k (some (.ob T.toNat ds))) k1 xs
      (.r k 0 :: ys, σ2, k2)
    | .t [.v (.bool false), .v (.int .i64 lo), .v (.int .i64 n), .o E sz N cs] =>
      let (ys, σ2, k2) := inits (upd σ k (some (.row E sz N cs))) (k + 1) xs
      (.w k lo.toNat n.toNat :: ys, σ2, k2)
    | .t [.t [.v (.bool false), .v (.int .i64 lo), .v (.int .i64 n), .o E sz N cs]] =>
      let (ys, σ2, k2) := inits (upd σ k (some (.row E sz N cs))) (k + 1) xs
      (.p [.w k lo.toNat n.toNat] :: ys, σ2, k2)
    | x => let (ys, σ2, k2) := inits σ k xs; (x :: ys, σ2, k2)

/-- What was lent, as it is handed back. -/
def packO (σ : Sto) : AV → Option (AV × List Nat)
  | .r id 0 => match σ id with
    | some (.ob _ _) => pack1 σ (.r id 0)
    | _ => none
  | x => pack1 σ x

/-- What a function gives that may change what it is given. -/
noncomputable def evM (I : Tab) (C : Sem1) (pf : FuncId → Nat) (m : Nat) (fn : Func) (c : Code) (args : List AV) : Option AV :=
  let (vs, σ, k) := inits (fun _ => none) 0 args
  if args.length ≤ fn.ntmps ∧ vs.length = args.length then
    (evC I C pf m c ⟨fun t => vs.getD t (.v undef), σ, k⟩).bind fun (x, s) => match x with
      | .exit _ => none
      | _ => (evRes I s fn.results.toList).bind fun xs => (giveL s.σ xs).bind fun (ys, os, is) => (deepC (packO s.σ) vs).bind fun (outs, L) =>
        if (os ++ L).Nodup ∧ ∀ i ∈ os ++ L, i ∉ is then (match ys with | [.t _] => none | [y] => some (.t [y, .t outs]) | ys => some (.t [.t ys, .t outs])) else none
  else none

/-- What a function gives for arguments that never change. -/
noncomputable def evF (I : Tab) (C : Sem1) (pf : FuncId → Nat) (m : Nat) (fn : Func) (c : Code) (args : List AV) : Option AV :=
  if args.length ≤ fn.ntmps ∧ closedL args then
    (evC I C pf m c (St.init args)).bind fun (x, s) => match x with
      | .exit _ => none
      | _ => (evRes I s fn.results.toList).bind fun xs => giveAll s.σ xs
  else none
/-- What a function gives that makes one object. -/
noncomputable def evN (I : Tab) (C : Sem1) (pf : FuncId → Nat) (m : Nat) (fn : Func) (c : Code) (args : List AV) : Option AV :=
  if args.length ≤ fn.ntmps ∧ closedL args then
    (evC I C pf m c (St.init args)).bind fun (x, s) => match x with
      | .exit _ => none
      | _ => (evRes I s fn.results.toList).bind fun xs => match xs with
        | [.r id 0] => match s.σ id with
          | some (.ob T cs) => if closedL cs then some (.o T 0 0 cs) else none
          | _ => none
        | _ => none
  else none
end
end Go.Proofs.YtegbkihgnofkfaaGreatDoor.Ev

/-
The engine, part 3: operations that only read.
-/
namespace Go.Proofs.YtegbkihgnofkfaaGreatDoor.Ev
section
set_option linter.unusedVariables false
set_option linter.unusedSimpArgs false
open Go
set_option linter.unusedVariables false
set_option linter.unusedSimpArgs false

def TK.tie (P : Program) (t : Nat) : TK → Prop
  | .str => P.underlying t = some .string
  | .bool => P.underlying t = some .bool
  | .int k => P.underlying t = some (.int k)
  | .ptr e => P.underlying t = some (.pointer e)
  | .sl e => P.underlying t = some (.slice e)
  | .arr n e => P.underlying t = some (.array n e)
  | .mp => ∃ K E j, P.underlying t = some (.map K E) ∧ P.underlying K = some .string ∧ P.info? E = some j ∧ j.zero = some (.int .i64 0)
  | .st fs => ∃ F : Array Field, P.underlying t = some (.struct F) ∧ F.toList.map (fun f => (f.offset, f.type)) = fs ∧ ∀ f ∈ F.toList, ∃ q, P.info? f.type = some q ∧ q.size ≠ 0

structure TI.Ok (P : Program) (t : Nat) (i : TI) : Prop where
  k : i.k.tie P t
  info : ∃ j z, P.info? t = some j ∧ j.size = i.sz ∧ j.bytes = i.by_ ∧ j.zero = some z ∧ z.cells.toList = i.z
  len : i.z.length = i.sz
  one : ∀ u ∈ i.z, u.oneCell' = true

def Tab.Ok (I : Tab) (P : Program) : Prop := ∀ t i, I t = some i → i.Ok P t

variable {P : Program} {I : Tab} {w : World} {g : G} {σ : Sto} {e : Nat → AV} {a : Act}

/-- The frame's slots are as e says. -/
def Env (w : World) (g : G) (e : Nat → AV) (a : Act) : Prop := ∀ t, Rep w g (e t) (a.tmps.getD t undef)

theorem rep_ofC0 (x : Value) : Rep w g (ofC0 x) x := by
  unfold ofC0
  split
  · exact .s true 0 0 [] none (fun _ => undef) (Nat.le_refl _) (fun _ => rfl) (fun j x h => by simp at h) (fun j x h => by simp at h)
  · exact .v _
theorem rep_ofC (x : Value) : Rep w g (ofC x) x := by
  unfold ofC
  split
  · exact .s true 0 0 [] none (fun _ => undef) (Nat.le_refl _) (fun _ => rfl) (fun j x h => by simp at h) (fun j x h => by simp at h)
  · rename_i vs
    refine .a _ vs (fun j => (vs[j]?).getD undef) (by simp) (fun j c hc => ?_) (fun j c hc => ?_)
    · simp only [List.getElem?_map, Array.getElem?_toList] at hc
      obtain ⟨u, h1, _⟩ := Option.map_eq_some_iff.1 hc
      rw [h1]
      rfl
    · simp only [List.getElem?_map, Array.getElem?_toList] at hc
      obtain ⟨u, h1, rfl⟩ := Option.map_eq_some_iff.1 hc
      rw [h1]
      exact rep_ofC0 u
  · exact .v _

theorem Env.val (h : Env w g e a) (x : Operand) : Rep w g (val e x) (a.eval x) := by
  cases x with
  | tmp t => exact h t
  | const v => exact rep_ofC v
  | global k => exact .v _
  | func f => exact .v _

theorem run_isAgg' (hI : I.Ok P) {t : Nat} {i : TI} (h : I t = some i) (w : World) : (isAgg t).run P w = .ok i.agg w := by
  have hk := (hI t i h).k
  unfold isAgg TI.agg
  cases hi : i.k <;> rw [hi] at hk <;> simp only [TK.tie] at hk
  case st fs => obtain ⟨F, hF, _⟩ := hk; simp [run_underlying hF]
  case mp => obtain ⟨K, E, j, hF, _⟩ := hk; simp [run_underlying hF]
  all_goals simp [run_underlying hk]

theorem run_sizeOf' (hI : I.Ok P) {t : Nat} {i : TI} (h : I t = some i) (w : World) : (Go.sizeOf t).run P w = .ok i.sz w := by
  obtain ⟨j, z, h1, h2, _⟩ := (hI t i h).info
  simp [Go.sizeOf, typeInfo, h1, h2]

theorem run_zero' (hI : I.Ok P) {t : Nat} {i : TI} (h : I t = some i) (w : World) : ∃ z, (zeroValue t).run P w = .ok z w ∧ z.cells.toList = i.z := by
  obtain ⟨j, z, h1, h2, h3, h4, h5⟩ := (hI t i h).info
  exact ⟨z, by simp [zeroValue, typeInfo, h1, h4], h5⟩

/-- A pointer's cells. -/
def At (w : World) (g : G) (cs : List AV) (ad : Addr) : Prop := ∃ us : Nat → Value, ∀ j c, cs[j]? = some c → w.cell? (ad.add j) = some (us j) ∧ Rep w g c (us j)

theorem add_add (ad : Addr) (m n : Nat) : (ad.add m).add n = ad.add (m + n) := by
  unfold Addr.add
  by_cases hm : m = 0
  · subst hm; simp
  · by_cases hn : n = 0
    · subst hn; simp
    · have : m + n ≠ 0 := by omega
      simp [hm, hn, this, Nat.add_assoc]

theorem add_lit0 (b o n : Nat) : (⟨b, o, none⟩ : Addr).add n = ⟨b, o + n, none⟩ := by unfold Addr.add; split <;> simp_all

theorem At.drop {cs : List AV} {ad : Addr} (h : At w g cs ad) (n : Nat) : At w g (cs.drop n) (ad.add n) := by
  obtain ⟨us, h⟩ := h
  refine ⟨fun j => us (n + j), fun j c hc => ?_⟩
  rw [List.getElem?_drop] at hc
  rw [add_add]
  exact h _ _ hc

theorem cell_at (w : World) (b o : Nat) (us : Array Value) (T : Nat) (fr : Nat × Nat) (h : w.heap[b]? = some (.cells us T fr)) : w.cell? ⟨b, o, none⟩ = us[o]? := by
  simp [World.cell?, h]

theorem at_of_block {b T : Nat} {us : Array Value} {cs : List AV} (h : w.heap[b]? = some (.cells us T (0, 0))) (hc : Cells w g cs us) : At w g cs ⟨b, 0, none⟩ := by
  refine ⟨fun j => us.getD j undef, fun j c hj => ?_⟩
  obtain ⟨u, h1, h2⟩ := hc j c hj
  rw [add_lit0, cell_at w b _ us T _ h, Nat.zero_add]
  have hu : us.getD j undef = u := by simp [Array.getD_eq_getD_getElem?, h1]
  show us[j]? = some (us.getD j undef) ∧ Rep w g c (us.getD j undef)
  rw [hu]
  exact ⟨h1, h2⟩

theorem Inv.at_ (hv : Inv w g σ) {id b : Nat} {s : Slot} (hs : σ id = some s) (hA : (g.ρ id).A = some ⟨b, 0, none⟩) : At w g s.cells ⟨b, 0, none⟩ := by
  have hl := hv.lies id s hs
  cases s with
  | ob T cs =>
    obtain ⟨b', us, hA', hh, _, hc, _⟩ := hl
    rw [hA] at hA'
    simp only [Option.some.injEq, Addr.mk.injEq] at hA'
    obtain ⟨rfl, -, -⟩ := hA'
    exact at_of_block hh hc
  | row E sz n cs =>
    obtain ⟨h1, h2, h3, h4, h⟩ := hl
    rcases h with h0 | ⟨b', us, hA', hh, _, hc, _⟩
    · have : cs = [] := by
        have : n = 0 := by omega
        subst this
        exact List.eq_nil_of_length_eq_zero (by simpa using h1)
      subst this
      exact ⟨fun _ => undef, fun j c hj => by simp [Slot.cells] at hj⟩
    · rw [hA] at hA'
      simp only [Option.some.injEq, Addr.mk.injEq] at hA'
      obtain ⟨rfl, -, -⟩ := hA'
      exact at_of_block hh hc
  | fz cs =>
    rcases hl b hA with h0 | ⟨_, hc⟩
    · subst h0
      exact ⟨fun _ => undef, fun j c hj => by simp [Slot.cells] at hj⟩
    · refine ⟨fun j => (w.cell? ((⟨b, 0, none⟩ : Addr).add j)).getD undef, fun j c hj => ?_⟩
      obtain ⟨u, h1, h2⟩ := hc j c hj
      simp only [h1, Option.getD_some]
      exact ⟨trivial, h2⟩

theorem cellsAt_sound (hv : Inv w g σ) {x : AV} {u : Value} {cs : List AV} (hr : Rep w g x u) (h : cellsAt σ x = some cs) : ∃ ad, u = .pointer (some ad) ∧ At w g cs ad := by
  cases hr <;> simp only [cellsAt, reduceCtorEq] at h
  case p cs' ad us hV h1 h2 =>
    obtain rfl := Option.some.inj h
    exact ⟨ad, rfl, us, fun j c hc => ⟨h1 j c hc, h2 j c hc⟩⟩
  case r id off b hD hA =>
    obtain ⟨s, hs, rfl⟩ := Option.map_eq_some_iff.1 h
    refine ⟨_, rfl, ?_⟩
    have := (hv.at_ hs hA).drop off
    rwa [add_lit0, Nat.zero_add] at this

theorem load_sound (hI : I.Ok P) {t : Nat} {i : TI} (hi : I t = some i) {cs : List AV} {x : AV} {ad : Addr} (hat : At w g cs ad) (h : takeVal i cs = some x) :
    ∃ u, (loadVar t ad).run P w = .ok u w ∧ Rep w g x u := by
  obtain ⟨us, hus⟩ := hat
  unfold takeVal at h
  by_cases hg : i.agg = true
  · rw [if_pos hg] at h
    by_cases hl : i.sz ≤ cs.length
    · rw [if_pos hl] at h
      obtain rfl := Option.some.inj h
      have hcell : ∀ j, j < i.sz → w.cell? (ad.add j) = some (us j) := fun j hj => (hus j _ (List.getElem?_eq_getElem (by omega))).1
      refine ⟨.agg ((List.range i.sz).map us).toArray, ?_, ?_⟩
      · have := run_loadCells (P := P) w ad i.sz us hcell
        simp [loadVar, run_isAgg' hI hi, hg, run_sizeOf' hI hi, this]
      · refine .a _ _ us (by simp; omega) (fun j c hc => ?_) (fun j c hc => ?_)
        · have hj : j < i.sz := by
            have := (List.getElem?_eq_some_iff.1 hc).1
            simp at this
            omega
          simp [hj]
        · rw [List.getElem?_take] at hc
          split at hc
          · exact (hus j c hc).2
          · cases hc
    · rw [if_neg hl] at h
      cases h
  · rw [if_neg hg] at h
    have h0 : cs[0]? = some x := by cases cs <;> simp_all
    obtain ⟨hc, hr⟩ := hus 0 x h0
    have h00 : ad.add 0 = ad := by simp [Addr.add]
    rw [h00] at hc
    refine ⟨us 0, ?_, hr⟩
    simp [loadVar, run_isAgg' hI hi, hg, Bool.eq_false_iff.2 hg, hc]
end
end Go.Proofs.YtegbkihgnofkfaaGreatDoor.Ev

/-
The engine, part 4: an operation that only reads gives what evOp says.
-/
namespace Go.Proofs.YtegbkihgnofkfaaGreatDoor.Ev
section
set_option linter.unusedVariables false
set_option linter.unusedSimpArgs false
open Go
set_option linter.unusedVariables false
set_option linter.unusedSimpArgs false
variable {P : Program} {I : Tab} {w : World} {g : G} {σ : Sto} {e : Nat → AV} {a : Act}

theorem rep_v_inv {x : Value} {u : Value} (h : Rep w g (.v x) u) : u = x := by cases h; rfl

theorem intBin_sound (op : BinOp) (T : TypeId) (xo yo : Operand) (k : IntKind) (m n : Int) {z : AV} (h : intBin op k m n = some z) :
    ∃ r, (do eqGuard op T xo yo (.int k m) (.int k n); binOp op T (.int k m) (.int k n)).run P w = .ok r w ∧ Rep w g z r := by
  unfold intBin at h
  cases op <;> simp only [reduceCtorEq] at h
  case quo =>
    by_cases h0 : n = 0
    · rw [if_pos h0] at h; cases h
    · rw [if_neg h0] at h
      obtain rfl := Option.some.inj h
      exact ⟨_, by simp [eqGuard, binOp, Op.intDiv, h0], .v _⟩
  case rem =>
    by_cases h0 : n = 0
    · rw [if_pos h0] at h; cases h
    · rw [if_neg h0] at h
      obtain rfl := Option.some.inj h
      exact ⟨_, by simp [eqGuard, binOp, Op.intDiv, h0], .v _⟩
  case and => obtain rfl := Option.some.inj h; exact ⟨_, by simp [eqGuard, binOp, Op.intBits, bitsI], .v _⟩
  case or => obtain rfl := Option.some.inj h; exact ⟨_, by simp [eqGuard, binOp, Op.intBits, bitsI], .v _⟩
  case xor => obtain rfl := Option.some.inj h; exact ⟨_, by simp [eqGuard, binOp, Op.intBits, bitsI], .v _⟩
  all_goals
    obtain rfl := Option.some.inj h
    exact ⟨_, by simp [eqGuard, binOp, Op.intArith, Op.intCmp], .v _⟩

theorem strBin_sound (op : BinOp) (T : TypeId) (xo yo : Operand) (m n : ByteArray) {z : AV} (h : strBin op m n = some z) :
    ∃ r, (do eqGuard op T xo yo (.string m) (.string n); binOp op T (.string m) (.string n)).run P w = .ok r w ∧ Rep w g z r := by
  unfold strBin at h
  cases op <;> simp only [reduceCtorEq] at h
  case add =>
    by_cases h0 : m.size + n.size ≤ 9223372036854775807
    · rw [if_pos h0] at h
      obtain rfl := Option.some.inj h
      have h1 : ¬ (((m.size + n.size : Nat) : Int) > IntKind.i64.max) := by
        have : IntKind.i64.max = 9223372036854775807 := by decide
        rw [this]
        omega
      refine ⟨.string (m ++ n), ?_, .v _⟩
      have : (Op.stringOp .add m n) = pure (.string (m ++ n)) := by unfold Op.stringOp; simp only []; rw [if_neg h1]
      simp [eqGuard, binOp, this]
    · rw [if_neg h0] at h; cases h
  all_goals
    obtain rfl := Option.some.inj h
    exact ⟨_, by simp [eqGuard, binOp, Op.stringOp], .v _⟩

theorem eqB_sound (op : BinOp) (T : TypeId) (xo yo : Operand) (u v : Value) (b : Bool) {z : AV} (h : eqB op b = some z)
    (hg : eqGuard op T xo yo u v = pure ()) (hb1 : op = .eql → binOp op T u v = (do pure (.bool (← Op.equal T u v)))) (hb2 : op = .neq → binOp op T u v = (do pure (.bool (!(← Op.equal T u v)))))
    (he : (Op.equal T u v).run P w = .ok b w) :
    ∃ r, (do eqGuard op T xo yo u v; binOp op T u v).run P w = .ok r w ∧ Rep w g z r := by
  unfold eqB at h
  cases op <;> simp only [reduceCtorEq] at h
  case eql =>
    obtain rfl := Option.some.inj h
    refine ⟨_, ?_, .v _⟩
    rw [hg, hb1 rfl]
    simp [he]
  case neq =>
    obtain rfl := Option.some.inj h
    refine ⟨_, ?_, .v _⟩
    rw [hg, hb2 rfl]
    simp [he]

theorem equal_bool {T : TypeId} (hk : P.underlying T = some .bool) (a b : Bool) (d : Nat) : (Op.equalIn (d + 1) T (.bool a) (.bool b)).run P w = .ok (a == b) w := by simp [Op.equalIn, run_underlying hk]
theorem equal_nil2 {T E : TypeId} (hk : P.underlying T = some (.pointer E)) (d : Nat) : (Op.equalIn (d + 1) T (.pointer none) (.pointer none)).run P w = .ok true w := by simp [Op.equalIn, run_underlying hk]
theorem equal_nil1 {T E : TypeId} (hk : P.underlying T = some (.pointer E)) (ad : Addr) (d : Nat) : (Op.equalIn (d + 1) T (.pointer (some ad)) (.pointer none)).run P w = .ok false w := by simp [Op.equalIn, run_underlying hk]

theorem bin_sound (hI : I.Ok P) {T : TypeId} {i : TI} (hi : I T = some i) (op : BinOp) (xo yo : Operand) {x y z : AV} {u v : Value} (hx : Rep w g x u) (hy : Rep w g y v) (h : bin op i.k x y = some z) :
    ∃ r, (do eqGuard op T xo yo u v; binOp op T u v).run P w = .ok r w ∧ Rep w g z r := by
  have hk := (hI T i hi).k
  unfold bin at h
  split at h
  · obtain rfl := rep_v_inv hx
    obtain rfl := rep_v_inv hy
    split at h
    · rename_i hkk
      subst hkk
      exact intBin_sound op T xo yo _ _ _ h
    · cases h
  · obtain rfl := rep_v_inv hx
    obtain rfl := rep_v_inv hy
    exact strBin_sound op T xo yo _ _ h
  · obtain rfl := rep_v_inv hx
    obtain rfl := rep_v_inv hy
    split at h
    · rename_i hkk
      rw [hkk] at hk
      simp only [TK.tie] at hk
      refine eqB_sound op T xo yo _ _ _ h ?_ ?_ ?_ ?_
      · unfold eqGuard; split <;> rfl
      · rintro rfl; rfl
      · rintro rfl; rfl
      · exact equal_bool hk _ _ 9999
    · cases h
  · obtain rfl := rep_v_inv hx
    obtain rfl := rep_v_inv hy
    split at h
    · rename_i hkk
      rw [hkk] at hk
      simp only [TK.tie] at hk
      refine eqB_sound op T xo yo _ _ _ h ?_ ?_ ?_ ?_
      · unfold eqGuard; split <;> rfl
      · rintro rfl; rfl
      · rintro rfl; rfl
      · exact equal_nil2 hk 9999
    · cases h
  · obtain rfl := rep_v_inv hy
    cases hx with
    | p cs ad us hV h1 h2 =>
      split at h
      · rename_i hkk
        rw [hkk] at hk
        simp only [TK.tie] at hk
        refine eqB_sound op T xo yo _ _ _ h ?_ ?_ ?_ ?_
        · unfold eqGuard; split <;> rfl
        · rintro rfl; rfl
        · rintro rfl; rfl
        · exact equal_nil1 hk _ 9999
      · cases h
  · obtain rfl := rep_v_inv hy
    cases hx with
    | r id off b hD hA =>
      split at h
      · rename_i hkk
        rw [hkk] at hk
        simp only [TK.tie] at hk
        refine eqB_sound op T xo yo _ _ _ h ?_ ?_ ?_ ?_
        · unfold eqGuard; split <;> rfl
        · rintro rfl; rfl
        · rintro rfl; rfl
        · exact equal_nil1 hk _ 9999
      · cases h
  · cases h

theorem addOff_sound {x z : AV} {u : Value} (off : Nat) (hx : Rep w g x u) (h : addOff off x = some z) : ∃ ad, u = .pointer (some ad) ∧ Rep w g z (.pointer (some (ad.add off))) := by
  cases hx <;> simp only [addOff, reduceCtorEq] at h
  case p cs ad us hV h1 h2 =>
    obtain rfl := Option.some.inj h
    refine ⟨ad, rfl, .p _ _ (fun j => us (off + j)) (by rw [add_block]; exact hV) (fun j c hc => ?_) (fun j c hc => ?_)⟩
    · rw [List.getElem?_drop] at hc
      rw [add_add]
      exact h1 _ _ hc
    · rw [List.getElem?_drop] at hc
      exact h2 _ _ hc
  case r id o b hD hA =>
    obtain rfl := Option.some.inj h
    refine ⟨_, rfl, ?_⟩
    rw [add_lit0]
    exact .r _ _ _ hD hA

theorem fieldAddr_sound (hI : I.Ok P) {s : TypeId} {fs : List (Nat × Nat)} {sz by_ : Nat} {zz : List Value} (hs : I s = some ⟨.st fs, sz, by_, zz⟩) {f : Nat} {fd : Nat × Nat} (hf : fs[f]? = some fd)
    {x z : AV} {u : Value} (hx : Rep w g x u) (h : addOff fd.1 x = some z) : ∃ r, (Instr.fieldAt s u f).run P w = .ok r w ∧ Rep w g z r := by
  have hk := (hI s _ hs).k
  simp only [TK.tie] at hk
  obtain ⟨F, hF, hm, hz⟩ := hk
  obtain ⟨ad, rfl, hr⟩ := addOff_sound fd.1 hx h
  subst hm
  rw [List.getElem?_map] at hf
  obtain ⟨fl, hfl, rfl⟩ := Option.map_eq_some_iff.1 hf
  have hfa : F[f]? = some fl := by simpa using hfl
  obtain ⟨q, hq, hq0⟩ := hz fl (List.mem_of_getElem? hfl)
  refine ⟨_, ?_, hr⟩
  simp [Instr.fieldAt, run_underlying hF, hfa, Instr.sureAddr, fieldPlace, Go.sizeOf, typeInfo, hq, hq0]
end
end Go.Proofs.YtegbkihgnofkfaaGreatDoor.Ev

/-
The engine, part 5: cuts, elements, parts: operations that only read.
-/
namespace Go.Proofs.YtegbkihgnofkfaaGreatDoor.Ev
section
set_option linter.unusedVariables false
set_option linter.unusedSimpArgs false
open Go
set_option linter.unusedVariables false
set_option linter.unusedSimpArgs false
variable {P : Program} {I : Tab} {w : World} {g : G} {σ : Sto} {e : Nat → AV} {a : Act}

/-- A bound of a cut. -/
theorem bound_sound {n d r : Nat} {x : Option AV} {v : Option Value} (hx : ∀ y, x = some y → ∃ u, v = some u ∧ Rep w g y u) (hn : x = none → v = none) (h : bound n x d = some r) :
    (x = none ∧ v = none ∧ r = d) ∨ (∃ k i, v = some (.int k i) ∧ 0 ≤ i ∧ i ≤ (n : Int) ∧ r = i.toNat) := by
  unfold bound at h
  split at h
  · exact .inl ⟨rfl, hn rfl, (Option.some.inj h).symm⟩
  · rename_i k i
    obtain ⟨u, hv, hr⟩ := hx _ rfl
    obtain rfl := rep_v_inv hr
    by_cases hc : 0 ≤ i ∧ i ≤ (n : Int)
    · rw [if_pos hc] at h
      exact .inr ⟨k, i, hv, hc.1, hc.2, (Option.some.inj h).symm⟩
    · rw [if_neg hc] at h
      cases h
  · cases h

theorem bounds_run (isS : Bool) (len cap n : Nat) (lo hi : Option AV) (vl vh : Option Value) {l h : Nat} (hnc : n ≤ cap) (hlen : len = n)
    (hl : ∀ y, lo = some y → ∃ u, vl = some u ∧ Rep w g y u) (hl0 : lo = none → vl = none) (hh : ∀ y, hi = some y → ∃ u, vh = some u ∧ Rep w g y u) (hh0 : hi = none → vh = none)
    (h1 : bound n hi n = some h) (h2 : bound h lo 0 = some l) : (Instr.sliceBounds isS len cap vl vh none).run P w = .ok (l, h, cap) w ∧ l ≤ h ∧ h ≤ n := by
  subst hlen
  rcases bound_sound hh hh0 h1 with ⟨_, rfl, rfl⟩ | ⟨k, i, rfl, hi0, hi1, rfl⟩
  · rcases bound_sound hl hl0 h2 with ⟨_, rfl, rfl⟩ | ⟨k2, j, rfl, hj0, hj1, rfl⟩
    · refine ⟨?_, Nat.zero_le _, Nat.le_refl _⟩
      simp [Instr.sliceBounds]
    · refine ⟨?_, by omega, Nat.le_refl _⟩
      simp [Instr.sliceBounds, run_sliceBound, hj0, hj1]
  · have hb : ∀ c, (Instr.sliceBound (.int k i) cap c).run P w = .ok i.toNat w := fun c => run_sliceBound w k i cap c hi0 (by omega)
    rcases bound_sound hl hl0 h2 with ⟨_, rfl, rfl⟩ | ⟨k2, j, rfl, hj0, hj1, rfl⟩
    · refine ⟨?_, Nat.zero_le _, by omega⟩
      simp [Instr.sliceBounds, hb]
    · refine ⟨?_, by omega, by omega⟩
      have hb2 : ∀ c, (Instr.sliceBound (.int k2 j) i.toNat c).run P w = .ok j.toNat w := fun c => run_sliceBound w k2 j i.toNat c hj0 (by omega)
      simp [Instr.sliceBounds, hb, hb2]

theorem opt_rep (henv : Env w g e a) (lo : Option Operand) : (∀ y, lo.map (val e) = some y → ∃ u, lo.map a.eval = some u ∧ Rep w g y u) ∧ (lo.map (val e) = none → lo.map a.eval = none) := by
  cases lo with
  | none => exact ⟨fun y h => by simp at h, fun _ => rfl⟩
  | some x => exact ⟨fun y h => by
      obtain rfl := Option.some.inj h
      exact ⟨_, rfl, henv.val x⟩, fun h => by simp at h⟩

theorem cut_str_sound (hI : I.Ok P) (henv : Env w g e a) {t : TypeId} {sz by_ : Nat} {zz : List Value} (ht : I t = some ⟨.str, sz, by_, zz⟩) (s : ByteArray) (lo hi : Option Operand) {z : AV}
    (h : cut 0 (.v (.string s)) (lo.map (val e)) (hi.map (val e)) = some z) :
    ∃ r, (Instr.sliceAt t (.string s) (lo.map a.eval) (hi.map a.eval) none).run P w = .ok r w ∧ Rep w g z r := by
  have hk := (hI t _ ht).k
  simp only [TK.tie] at hk
  simp only [cut] at h
  obtain ⟨hb, h1, h⟩ := Option.bind_eq_some_iff.1 h
  obtain ⟨lb, h2, rfl⟩ := Option.map_eq_some_iff.1 h
  obtain ⟨hr, _, _⟩ := bounds_run (P := P) (w := w) (g := g) false s.size s.size s.size _ _ _ _ (Nat.le_refl _) rfl (opt_rep henv lo).1 (opt_rep henv lo).2 (opt_rep henv hi).1 (opt_rep henv hi).2 h1 h2
  refine ⟨_, ?_, .v _⟩
  simp [Instr.sliceAt, Instr.slice, run_underlying hk, hr]

theorem slice_run (hI : I.Ok P) {t E : TypeId} {sz by_ : Nat} {zz : List Value} {ei : TI} (ht : I t = some ⟨.sl E, sz, by_, zz⟩) (hE : I E = some ei) (A : Option Addr) (n c : Nat) (vl vh : Option Value) {l h : Nat}
    (hb : (Instr.sliceBounds true n c vl vh none).run P w = .ok (l, h, c) w) :
    (Instr.sliceAt t (.slice A n c) vl vh none).run P w = .ok (.slice (if c = l then A else A.map (·.add (l * ei.sz))) (h - l) (c - l)) w := by
  have hk := (hI t _ ht).k
  simp only [TK.tie] at hk
  simp [Instr.sliceAt, Instr.slice, run_underlying hk, hb, run_sizeOf' hI hE]

theorem cut_s_sound (hI : I.Ok P) (henv : Env w g e a) {t E : TypeId} {sz by_ : Nat} {zz : List Value} {ei : TI} (ht : I t = some ⟨.sl E, sz, by_, zz⟩) (hE : I E = some ei)
    {ex : Bool} {n : Nat} {cs : List AV} (hl : cs.length = n * ei.sz) {u : Value} (hu : Rep w g (.s ex n cs) u) (lo hi : Option Operand) {z : AV}
    (h : cut ei.sz (.s ex n cs) (lo.map (val e)) (hi.map (val e)) = some z) :
    ∃ r, (Instr.sliceAt t u (lo.map a.eval) (hi.map a.eval) none).run P w = .ok r w ∧ Rep w g z r := by
  simp only [cut] at h
  obtain ⟨hb, h1, h⟩ := Option.bind_eq_some_iff.1 h
  obtain ⟨lb, h2, rfl⟩ := Option.map_eq_some_iff.1 h
  cases hu with
  | s _ _ c _ A us hn he k1 k2 =>
    obtain ⟨hr, hlh, hhn⟩ := bounds_run (P := P) (w := w) (g := g) true n c n _ _ _ _ hn rfl (opt_rep henv lo).1 (opt_rep henv lo).2 (opt_rep henv hi).1 (opt_rep henv hi).2 h1 h2
    refine ⟨_, slice_run hI ht hE A n c _ _ hr, ?_⟩
    refine .s _ _ _ _ _ (fun j => us (lb * ei.sz + j)) (by omega) (fun hx => ?_) (fun j x hj => ?_) (fun j x hj => ?_)
    · simp only [Bool.and_eq_true, beq_iff_eq] at hx
      have := he hx.1
      omega
    · have hj' := hj
      rw [List.getElem?_take] at hj
      split at hj
      · rw [List.getElem?_drop] at hj
        obtain ⟨ad, hA, hV, hc⟩ := k1 _ _ hj
        have hne : ¬ c = lb := by
          rintro rfl
          have : hb - c = 0 := by omega
          rename_i hlt
          rw [this] at hlt
          omega
        refine ⟨ad.add (lb * ei.sz), by simp [hne, hA], by rw [add_block]; exact hV, ?_⟩
        rw [add_add]
        exact hc
      · cases hj
    · rw [List.getElem?_take] at hj
      split at hj
      · rw [List.getElem?_drop] at hj
        exact k2 _ _ hj
      · cases hj

theorem cut_w_sound (hI : I.Ok P) (henv : Env w g e a) {t E : TypeId} {sz by_ : Nat} {zz : List Value} {ei : TI} (ht : I t = some ⟨.sl E, sz, by_, zz⟩) (hE : I E = some ei) (hsz : 0 < ei.sz)
    {id o n : Nat} {u : Value} (hu : Rep w g (.w id o n) u) (lo hi : Option Operand) {z : AV}
    (h : cut ei.sz (.w id o n) (lo.map (val e)) (hi.map (val e)) = some z) :
    ∃ r, (Instr.sliceAt t u (lo.map a.eval) (hi.map a.eval) none).run P w = .ok r w ∧ Rep w g z r := by
  simp only [cut] at h
  obtain ⟨hb, h1, h⟩ := Option.bind_eq_some_iff.1 h
  obtain ⟨lb, h2, rfl⟩ := Option.map_eq_some_iff.1 h
  cases hu with
  | w _ _ _ c A hD hn k0 k1 =>
    obtain ⟨hr, hlh, hhn⟩ := bounds_run (P := P) (w := w) (g := g) true n c n _ _ _ _ hn rfl (opt_rep henv lo).1 (opt_rep henv lo).2 (opt_rep henv hi).1 (opt_rep henv hi).2 h1 h2
    refine ⟨_, slice_run hI ht hE A n c _ _ hr, .w _ _ _ _ _ hD (by omega) (fun h0 => ?_) (fun hp => ?_)⟩
    · have ho : o = 0 := by omega
      have hlz : lb * ei.sz = 0 := by omega
      have hl0 : lb = 0 := by
        rcases Nat.mul_eq_zero.1 hlz with h | h
        · exact h
        · omega
      subst hl0
      obtain ⟨hA, hc⟩ := k0 ho
      refine ⟨?_, by omega⟩
      rw [← hA]
      split
      · rfl
      · cases A <;> simp [Addr.add]
    · obtain ⟨b, hb1, hb2⟩ := k1 (by omega)
      have hne : ¬ c = lb := by omega
      exact ⟨b, hb1, by simp [hne, hb2, add_lit0]⟩

theorem indexAddr_s_sound (hI : I.Ok P) {t E : TypeId} {sz by_ : Nat} {zz : List Value} {ei : TI} (ht : I t = some ⟨.sl E, sz, by_, zz⟩) (hE : I E = some ei)
    {ex : Bool} {n : Nat} {cs : List AV} {k : IntKind} {i : Int} (h0 : 0 ≤ i) (hn : i < (n : Int)) (hl : cs.length = n * ei.sz) (hz : 0 < ei.sz) {u : Value} (hu : Rep w g (.s ex n cs) u) :
    ∃ r, (Instr.indexAt t u (.int k i)).run P w = .ok r w ∧ Rep w g (.p (cs.drop (i.toNat * ei.sz))) r := by
  have hk := (hI t _ ht).k
  simp only [TK.tie] at hk
  cases hu with
  | s _ _ c _ A us hnc he k1 k2 =>
    have hpos : 0 < cs.length := by
      rw [hl]
      exact Nat.mul_pos (by omega) hz
    obtain ⟨ad, rfl, hV, _⟩ := k1 0 _ (List.getElem?_eq_getElem hpos)
    refine ⟨.pointer (some (ad.add (i.toNat * ei.sz))), ?_, .p _ _ (fun j => us (i.toNat * ei.sz + j)) (by rw [add_block]; exact hV) (fun j x hj => ?_) (fun j x hj => ?_)⟩
    · simp [Instr.indexAt, run_underlying hk, asIntOf, h0, hn, run_sizeOf' hI hE]
    · rw [List.getElem?_drop] at hj
      obtain ⟨ad', hA, _, hc⟩ := k1 _ _ hj
      obtain rfl := Option.some.inj hA
      rw [add_add]
      exact hc
    · rw [List.getElem?_drop] at hj
      exact k2 _ _ hj

theorem indexAddr_w_sound (hI : I.Ok P) {t E : TypeId} {sz by_ : Nat} {zz : List Value} {ei : TI} (ht : I t = some ⟨.sl E, sz, by_, zz⟩) (hE : I E = some ei)
    {id lo n : Nat} {k : IntKind} {i : Int} (h0 : 0 ≤ i) (hn : i < (n : Int)) {u : Value} (hu : Rep w g (.w id lo n) u) :
    ∃ r, (Instr.indexAt t u (.int k i)).run P w = .ok r w ∧ Rep w g (.r id (lo + i.toNat * ei.sz)) r := by
  have hk := (hI t _ ht).k
  simp only [TK.tie] at hk
  cases hu with
  | w _ _ _ c A hD hnc k0 k1 =>
    obtain ⟨b, hA, rfl⟩ := k1 (by omega)
    refine ⟨.pointer (some ⟨b, lo + i.toNat * ei.sz, none⟩), ?_, .r _ _ _ hD hA⟩
    simp [Instr.indexAt, run_underlying hk, asIntOf, h0, hn, run_sizeOf' hI hE, add_lit0]

theorem indexAddr_arr_sound (hI : I.Ok P) {t E : TypeId} {len sz by_ : Nat} {zz : List Value} {ei : TI} (ht : I t = some ⟨.arr len E, sz, by_, zz⟩) (hE : I E = some ei)
    {x z : AV} {k : IntKind} {i : Int} (h0 : 0 ≤ i) (hn : i < (len : Int)) (h : addOff (i.toNat * ei.sz) x = some z) {u : Value} (hu : Rep w g x u) :
    ∃ r, (Instr.indexAt t u (.int k i)).run P w = .ok r w ∧ Rep w g z r := by
  have hk := (hI t _ ht).k
  simp only [TK.tie] at hk
  obtain ⟨ad, rfl, hr⟩ := addOff_sound _ hu h
  refine ⟨_, ?_, hr⟩
  simp [Instr.indexAt, run_underlying hk, asIntOf, h0, hn, run_sizeOf' hI hE, Instr.sureAddr]

theorem index_str_sound (hI : I.Ok P) {t : TypeId} {sz by_ : Nat} {zz : List Value} (ht : I t = some ⟨.str, sz, by_, zz⟩) (s : ByteArray) (k : IntKind) (i : Int) (h : 0 ≤ i ∧ i.toNat < s.size) :
    (Instr.index t (.string s) (.int k i)).run P w = .ok (.int .u8 (s[i.toNat]'h.2).toNat) w := by
  have hk := (hI t _ ht).k
  simp only [TK.tie] at hk
  have hs : s[i.toNat]? = some (s[i.toNat]'h.2) := getElem?_pos s i.toNat h.2
  simp [Instr.index, run_underlying hk, asIntOf, h.1, hs]

/-- A part of an aggregate. -/
theorem part_sound (hI : I.Ok P) {t : TypeId} {i : TI} (hi : I t = some i) {cs : List AV} {vs : Array Value} (off : Nat) {z : AV} (hu : Rep w g (.a cs) (.agg vs)) (h : takeVal i (cs.drop off) = some z) :
    ∃ r, (part t vs off).run P w = .ok r w ∧ Rep w g z r := by
  cases hu with
  | a _ _ us hs k1 k2 =>
    unfold takeVal at h
    by_cases hg : i.agg = true
    · rw [if_pos hg] at h
      by_cases hl : i.sz ≤ (cs.drop off).length
      · rw [if_pos hl] at h
        obtain rfl := Option.some.inj h
        rw [List.length_drop] at hl
        refine ⟨.agg (vs.extract off (off + i.sz)), by simp [part, run_isAgg' hI hi, hg, run_sizeOf' hI hi], ?_⟩
        refine .a _ _ (fun j => us (off + j)) (by simp; omega) (fun j c hj => ?_) (fun j c hj => ?_)
        · rw [List.getElem?_take] at hj
          split at hj
          · rename_i hlt
            rw [List.getElem?_drop] at hj
            have := k1 _ _ hj
            rw [Array.getElem?_extract]
            have hsz : off + j < vs.size := (Array.getElem?_eq_some_iff.1 this).1
            have : j < min (off + i.sz) vs.size - off := by omega
            simp [this, k1 _ _ hj]
          · cases hj
        · rw [List.getElem?_take] at hj
          split at hj
          · rw [List.getElem?_drop] at hj
            exact k2 _ _ hj
          · cases hj
      · rw [if_neg hl] at h
        cases h
    · rw [if_neg hg] at h
      have h0 : cs[off]? = some z := by
        rw [List.head?_drop] at h
        exact h
      refine ⟨us off, ?_, k2 _ _ h0⟩
      simp [part, run_isAgg' hI hi, hg, Bool.eq_false_iff.2 hg, k1 _ _ h0]

theorem field_sound (hI : I.Ok P) {s : TypeId} {fs : List (Nat × Nat)} {sz by_ : Nat} {zz : List Value} (hs : I s = some ⟨.st fs, sz, by_, zz⟩) {f : Nat} {fd : Nat × Nat} (hf : fs[f]? = some fd)
    {fi : TI} (hfi : I fd.2 = some fi) {cs : List AV} {z : AV} {u : Value} (hx : Rep w g (.a cs) u) (h : takeVal fi (cs.drop fd.1) = some z) : ∃ r, (Instr.field s u f).run P w = .ok r w ∧ Rep w g z r := by
  have hk := (hI s _ hs).k
  simp only [TK.tie] at hk
  obtain ⟨F, hF, hm, hz⟩ := hk
  subst hm
  rw [List.getElem?_map] at hf
  obtain ⟨fl, hfl, rfl⟩ := Option.map_eq_some_iff.1 hf
  have hfa : F[f]? = some fl := by simpa using hfl
  have hx' := hx
  cases hx with
  | a _ vs us hs' k1 k2 =>
    obtain ⟨r, hr, hrr⟩ := part_sound hI hfi fl.offset hx' h
    exact ⟨r, by simp [Instr.field, run_underlying hF, hfa, asAgg, hr], hrr⟩

theorem index_arr_sound (hI : I.Ok P) {t E : TypeId} {len sz by_ : Nat} {zz : List Value} {ei : TI} (ht : I t = some ⟨.arr len E, sz, by_, zz⟩) (hE : I E = some ei)
    {cs : List AV} {z : AV} {k : IntKind} {i : Int} (h0 : 0 ≤ i) (hn : i < (len : Int)) {u : Value} (hu : Rep w g (.a cs) u) (h : takeVal ei (cs.drop (i.toNat * ei.sz)) = some z) :
    ∃ r, (Instr.index t u (.int k i)).run P w = .ok r w ∧ Rep w g z r := by
  have hk := (hI t _ ht).k
  simp only [TK.tie] at hk
  have hu' := hu
  cases hu with
  | a _ vs us hs' k1 k2 =>
    obtain ⟨r, hr, hrr⟩ := part_sound hI hE (i.toNat * ei.sz) hu' h
    exact ⟨r, by simp [Instr.index, run_underlying hk, asIntOf, h0, hn, run_sizeOf' hI hE, hr], hrr⟩
end
end Go.Proofs.YtegbkihgnofkfaaGreatDoor.Ev

/-
The engine, part 6: values put together.
-/
namespace Go.Proofs.YtegbkihgnofkfaaGreatDoor.Ev
section
set_option linter.unusedVariables false
set_option linter.unusedSimpArgs false
open Go
set_option linter.unusedVariables false
set_option linter.unusedSimpArgs false
variable {P : Program} {I : Tab} {w : World} {g : G} {σ : Sto} {e : Nat → AV} {a : Act}

/-- The cells us read as cs, as many as these. -/
def Row (w : World) (g : G) (cs : List AV) (us : Array Value) : Prop := us.size = cs.length ∧ Cells w g cs us

theorem Row.get {cs : List AV} {us : Array Value} (h : Row w g cs us) {j : Nat} {c : AV} {u : Value} (hc : cs[j]? = some c) (hu : us[j]? = some u) : Rep w g c u := by
  obtain ⟨u', h1, h2⟩ := h.2 j c hc
  rw [hu] at h1
  obtain rfl := Option.some.inj h1
  exact h2

theorem row_of_a {cs : List AV} {vs : Array Value} (h : Rep w g (.a cs) (.agg vs)) : Row w g cs vs := by
  cases h with
  | a _ _ us hs h1 h2 => exact ⟨hs, fun j c hc => ⟨us j, h1 j c hc, h2 j c hc⟩⟩
theorem a_of_row {cs : List AV} {vs : Array Value} (h : Row w g cs vs) : Rep w g (.a cs) (.agg vs) := by
  refine .a cs vs (fun j => vs.getD j undef) h.1 (fun j c hc => ?_) (fun j c hc => ?_)
  · obtain ⟨u, h1, h2⟩ := h.2 j c hc
    simp [Array.getD_eq_getD_getElem?, h1]
  · obtain ⟨u, h1, h2⟩ := h.2 j c hc
    simpa [Array.getD_eq_getD_getElem?, h1] using h2

theorem leafOk_one {c : AV} {u : Value} (h : Rep w g c u) (hl : leafOk c = true) : u.oneCell' = true := by
  cases h <;> simp_all [leafOk, Value.oneCell']

theorem leaves_sound {x : AV} {u : Value} {ls : List AV} (h : Rep w g x u) (hl : leaves x = some ls) : Row w g ls u.cells := by
  cases h
  case a cs vs us hs h1 h2 =>
    simp only [leaves, Option.some.injEq] at hl
    subst hl
    exact row_of_a (.a cs vs us hs h1 h2)
  case t => simp [leaves] at hl
  case m => simp [leaves] at hl
  case v =>
    simp only [leaves] at hl
    split at hl
    · rename_i ho
      obtain rfl := Option.some.inj hl
      have hcell : u.cells = #[u] := by cases u <;> simp_all [Value.cells, Value.oneCell']
      rw [hcell]
      refine ⟨rfl, fun j c hc => ?_⟩
      cases j with
      | zero =>
        simp at hc
        subst hc
        exact ⟨u, rfl, .v _⟩
      | succ j => simp at hc
    · cases hl
  all_goals
    simp only [leaves, Option.some.injEq] at hl
    subst hl
    refine ⟨rfl, fun j c hc => ?_⟩
    cases j with
    | zero =>
      simp at hc
      subst hc
      refine ⟨_, rfl, ?_⟩
      first
        | exact .p _ _ _ ‹_› ‹_› ‹_›
        | exact .s _ _ _ _ _ _ ‹_› ‹_› ‹_› ‹_›
        | exact .r _ _ _ ‹_› ‹_›
        | exact .w _ _ _ _ _ ‹_› ‹_› ‹_› ‹_›
    | succ j => simp at hc

theorem Row.append {cs ds : List AV} {us vs : List Value} (h : Row w g cs us.toArray) (k : Row w g ds vs.toArray) : Row w g (cs ++ ds) (us ++ vs).toArray := by
  have hs := h.1
  have ks := k.1
  simp only [List.size_toArray] at hs ks
  refine ⟨by simp [hs, ks], fun j c hc => ?_⟩
  rw [List.getElem?_append] at hc
  split at hc
  · rename_i hlt
    obtain ⟨u, h1, h2⟩ := h.2 j c hc
    refine ⟨u, ?_, h2⟩
    simp only [List.getElem?_toArray] at h1 ⊢
    rw [List.getElem?_append_left (by omega)]
    exact h1
  · obtain ⟨u, h1, h2⟩ := k.2 _ c hc
    refine ⟨u, ?_, h2⟩
    simp only [List.getElem?_toArray] at h1 ⊢
    rw [List.getElem?_append_right (by omega), hs]
    exact h1

theorem Row.take {cs : List AV} {us : List Value} (h : Row w g cs us.toArray) (n : Nat) : Row w g (cs.take n) (us.take n).toArray := by
  have hs := h.1
  simp only [List.size_toArray] at hs
  refine ⟨by simp [hs], fun j c hc => ?_⟩
  rw [List.getElem?_take] at hc
  split at hc
  · rename_i hlt
    obtain ⟨u, h1, h2⟩ := h.2 j c hc
    refine ⟨u, ?_, h2⟩
    simp only [List.getElem?_toArray] at h1 ⊢
    rw [List.getElem?_take]
    simp [hlt, h1]
  · cases hc

theorem Row.drop {cs : List AV} {us : List Value} (h : Row w g cs us.toArray) (n : Nat) : Row w g (cs.drop n) (us.drop n).toArray := by
  have hs := h.1
  simp only [List.size_toArray] at hs
  refine ⟨by simp [hs], fun j c hc => ?_⟩
  rw [List.getElem?_drop] at hc
  obtain ⟨u, h1, h2⟩ := h.2 _ c hc
  refine ⟨u, ?_, h2⟩
  simp only [List.getElem?_toArray] at h1 ⊢
  rw [List.getElem?_drop]
  exact h1

theorem setRange_sound {cs ls cs1 : List AV} {us vs : List Value} {o : Nat} (h : Row w g cs us.toArray) (k : Row w g ls vs.toArray) (hs : setRange cs o ls = some cs1) :
    o + vs.length ≤ us.length ∧ Row w g cs1 (us.take o ++ vs ++ us.drop (o + vs.length)).toArray := by
  unfold setRange at hs
  have h1 := h.1
  have k1 := k.1
  simp only [List.size_toArray] at h1 k1
  split at hs
  · rename_i hle
    obtain rfl := Option.some.inj hs
    refine ⟨by omega, ?_⟩
    rw [← k1]
    exact ((h.take o).append k).append (h.drop _)
  · cases hs

theorem fill_fold (off : Nat) : ∀ (vs : List Value) (k : Nat) (us : List Value), off + k + vs.length ≤ us.length →
    (vs.zipIdx k).foldl (fun (cs : Array Value) (q : Value × Nat) => cs.setIfInBounds (off + q.2) q.1) us.toArray = (us.take (off + k) ++ vs ++ us.drop (off + k + vs.length)).toArray
  | [], k, us, h => by simp
  | v :: vs, k, us, h => by
    simp only [List.zipIdx_cons, List.foldl_cons]
    have hs : us.toArray.setIfInBounds (off + k) v = (us.set (off + k) v).toArray := by simp
    rw [hs, fill_fold off vs (k + 1) (us.set (off + k) v) (by simp at h ⊢; omega)]
    congr 1
    simp only [List.length_cons] at h
    have e := list_seg_step us (off + k) v vs (by omega)
    simpa [Nat.add_assoc] using e

theorem fill_one (off : Nat) (x : Value) (us : List Value) (h : off + x.cells.size ≤ us.length) :
    x.cells.zipIdx.foldl (fun cs (q : Value × Nat) => cs.setIfInBounds (off + q.2) q.1) us.toArray = (us.take off ++ x.cells.toList ++ us.drop (off + x.cells.size)).toArray := by
  have := fill_fold off x.cells.toList 0 us (by simpa using h)
  rw [← Array.foldl_toList, Array.toList_zipIdx]
  simpa using this

theorem fillP_sound (henv : Env w g e a) (places : Nat → Option (Nat × Nat)) (place' : Nat → Option (Nat × Nat)) : ∀ (ps : List (Nat × Operand)), (∀ q ∈ ps, ∀ r, places q.1 = some r → place' q.1 = some r) → ∀ (cs cs1 : List AV) (us : List Value), Row w g cs us.toArray →
    fillP places cs (ps.map fun q => (q.1, val e q.2)) = some cs1 → ∃ us1 : List Value, Instr.fill place' us.toArray (ps.map fun q => (q.1, a.eval q.2)) = some us1.toArray ∧ Row w g cs1 us1.toArray
  | [], hp, cs, cs1, us, h, hf => by
    simp only [List.map_nil, fillP, Option.some.injEq] at hf
    subst hf
    exact ⟨us, rfl, h⟩
  | (i, x) :: ps, hp, cs, cs1, us, h, hf => by
    simp only [List.map_cons, fillP] at hf
    split at hf
    · rename_i off sz ls hpl hls
      split at hf
      · rename_i hlen
        obtain ⟨cs2, h2, h3⟩ := Option.bind_eq_some_iff.1 hf
        have hrow := leaves_sound (henv.val x) hls
        have hrow' : Row w g ls (a.eval x).cells.toList.toArray := by simpa using hrow
        obtain ⟨hle, hr2⟩ := setRange_sound h hrow' h2
        obtain ⟨us1, h4, h5⟩ := fillP_sound henv places place' ps (fun q hq => hp q (List.mem_cons_of_mem _ hq)) cs2 cs1 _ hr2 h3
        refine ⟨us1, ?_, h5⟩
        have hsz : (a.eval x).cells.size = sz := by rw [hrow.1, hlen]
        have hle' : off + (a.eval x).cells.size ≤ us.length := by simpa using hle
        have hp0 : place' i = some (off, sz) := hp (i, x) List.mem_cons_self _ hpl
        have hcond : ((a.eval x).cells.size ≠ sz || off + (a.eval x).cells.size > us.toArray.size) = false := by
          simp [hsz]
          rw [← hsz]
          omega
        rw [List.map_cons, Instr.fill, hp0]
        simp only [hcond, Bool.false_eq_true, if_false]
        have := fill_one off (a.eval x) us hle'
        rw [this]
        simpa using h4
      · cases hf
    · cases hf

theorem zeros_row (hI : I.Ok P) {t : TypeId} {i : TI} (hi : I t = some i) : Row w g (zeros i) i.z.toArray := by
  refine ⟨by simp [zeros], fun j c hc => ?_⟩
  simp only [zeros, List.getElem?_map] at hc
  obtain ⟨u, hu, rfl⟩ := Option.map_eq_some_iff.1 hc
  exact ⟨u, by simpa using hu, rep_ofC u⟩

theorem leaf_zeros (hI : I.Ok P) {t : TypeId} {i : TI} (hi : I t = some i) : ∀ c ∈ zeros i, leafOk c = true := by
  intro c hc
  simp only [zeros, List.mem_map] at hc
  obtain ⟨u, hu, rfl⟩ := hc
  have := (hI t i hi).one u hu
  unfold ofC
  split
  · rfl
  · simp [Value.oneCell'] at this
  · exact this
end
end Go.Proofs.YtegbkihgnofkfaaGreatDoor.Ev

/-
The engine, part 7: one operation, all kinds but calls of functions.
-/
namespace Go.Proofs.YtegbkihgnofkfaaGreatDoor.Ev
section
set_option linter.unusedVariables false
set_option linter.unusedSimpArgs false
open Go
set_option linter.unusedVariables false
set_option linter.unusedSimpArgs false
variable {P : Program} {I : Tab} {w : World} {g : G} {σ : Sto} {e : Nat → AV} {a : Act}

/-- One step further: what may have become of the world, and of what is told. -/
structure Adv (w : World) (g : G) (σ : Sto) (key : Nat) (w1 : World) (g1 : G) (σ1 : Sto) : Prop where
  onto : Onto w g w1 g1
  inv : Inv w1 g1 σ1
  os : w1.os = w.os
  tape : w1.tape = w.tape
  output : w1.output = w.output
  size : w.heap.size ≤ w1.heap.size
  keep : ∀ b, b < w.heap.size → (∀ id s, σ id = some s → blockOf g id s ≠ some b) → w1.heap[b]? = w.heap[b]?
  newV : ∀ b, g1.V b → g.V b ∨ w.heap.size ≤ b ∨ ∃ id s, σ id = some s ∧ blockOf g id s = some b
  live : ∀ id s b, σ1 id = some s → blockOf g1 id s = some b → w.heap.size ≤ b ∨ ∃ id0 s0, σ id0 = some s0 ∧ blockOf g id0 s0 = some b
  newD : ∀ i, g1.D i → g.D i ∨ (key ≤ i ∧ i < key + 4)

theorem Adv.same (hv : Inv w g σ) (key : Nat) : Adv w g σ key w g σ :=
  ⟨Onto.refl w g, hv, rfl, rfl, rfl, Nat.le_refl _, fun _ _ _ => rfl, fun _ h => .inl h, fun id s b h1 h2 => .inr ⟨id, s, h1, h2⟩, fun _ h => .inl h⟩

section
variable {o : Oper} {next : Act → World → Prop} {Q : Exit → Act → World → Prop}
theorem wp_of_run {u : Value} {w1 : World} (h : (execOp a.eval o).run P w = .ok (.value u) w1) (hN : next (a.put o.dst u) w1) : o.wp P a w next Q := by
  unfold Oper.wp
  rw [h]
  exact hN
theorem wp_of_skip {w1 : World} (h : (execOp a.eval o).run P w = .ok .skip w1) (hN : next (a.put o.dst undef) w1) : o.wp P a w next Q := by
  unfold Oper.wp
  rw [h]
  exact hN
end

/-! ### what is new in the world -/
theorem blk_old (w : World) (ob : Obj) {b : Nat} (h : b < w.heap.size) : (w.alloc ob).heap[b]? = w.heap[b]? := by
  exact heap_alloc_old w ob h
theorem blk_new (w : World) (ob : Obj) : (w.alloc ob).heap[w.heap.size]? = some ob := heap_alloc_new w ob

/-- The numbers told, and one more, that lies at c. -/
def G.add (g : G) (key : Nat) (c : CR) : G := ⟨g.V, fun i => if i = key then c else g.ρ i, fun i => g.D i ∨ i = key⟩
/-- The blocks that never change, and one more. -/
def G.addV (g : G) (b : Nat) : G := ⟨fun k => g.V k ∨ k = b, g.ρ, g.D⟩

theorem onto_add {w w1 : World} {key : Nat} (c : CR) (hk : ¬ g.D key) (hb : ∀ b, g.V b → w1.heap[b]? = w.heap[b]?) : Onto w g w1 (g.add key c) :=
  ⟨fun _ h => h, hb, fun _ h => .inl h, fun i hi => by
    have : i ≠ key := fun e => hk (e ▸ hi)
    simp [G.add, this]⟩

theorem blockOf_add {key : Nat} (c : CR) {i : Nat} (hi : i ≠ key) (s : Slot) : blockOf (g.add key c) i s = blockOf g i s := by
  cases s <;> simp [blockOf, G.add, hi]

theorem told_ne (hv : Inv w g σ) {key : Nat} (hk : ¬ g.D key) {i : Nat} {s : Slot} (h : σ i = some s) : i ≠ key := fun e => hk (e ▸ hv.told i s h)

/-- A new number of the store, whose block is new in the world. -/
theorem adv_new (hv : Inv w g σ) {key : Nat} (hk : ¬ g.D key) (c : CR) (s : Slot) (w1 : World) (hos : w1.os = w.os) (htp : w1.tape = w.tape) (hout : w1.output = w.output) (hsz : w.heap.size ≤ w1.heap.size)
    (hkeep : ∀ b, b < w.heap.size → w1.heap[b]? = w.heap[b]?) (hlies : Lies w1 (g.add key c) key s) (hblk : ∀ b, blockOf (g.add key c) key s = some b → w.heap.size ≤ b) :
    Adv w g σ key w1 (g.add key c) (upd σ key (some s)) := by
  have hon : Onto w g w1 (g.add key c) := onto_add c hk fun b hb => hkeep b (hv.vlt b hb)
  refine ⟨hon, ⟨fun b hb => Nat.lt_of_lt_of_le (hv.vlt b hb) hsz, fun i t hi => ?_, fun i t hi => ?_, fun i j t u b hij hi hj hb => ?_⟩, hos, htp, hout, hsz, fun b hb _ => hkeep b hb, fun b hb => .inl hb, fun i t b hi hb => ?_, fun i hi => ?_⟩
  · by_cases e : i = key
    · subst e
      simp only [upd, if_true, Option.some.injEq] at hi
      subst hi
      exact hlies
    · simp only [upd, e, if_false] at hi
      refine (hv.lies i t hi).onto hon (hv.told i t hi) fun b hb => ?_
      have hlt := (hv.lies i t hi).lt hb
      exact ⟨hkeep b hlt.1, hlt.2⟩
  · by_cases e : i = key
    · exact .inr e
    · simp only [upd, e, if_false] at hi
      exact .inl (hv.told i t hi)
  · by_cases e : i = key
    · subst e
      simp only [upd, if_true, Option.some.injEq] at hi
      subst hi
      have hj' : σ j = some u := by simpa [upd, Ne.symm hij] using hj
      rw [blockOf_add c (Ne.symm hij)]
      intro hjb
      have h1 := hblk b hb
      have h2 := (hv.lies j u hj').lt hjb
      omega
    · have hi' : σ i = some t := by simpa [upd, e] using hi
      rw [blockOf_add c e] at hb
      by_cases e2 : j = key
      · subst e2
        simp only [upd, if_true, Option.some.injEq] at hj
        subst hj
        intro hjb
        have h1 := hblk b hjb
        have h2 := (hv.lies i t hi').lt hb
        omega
      · have hj' : σ j = some u := by simpa [upd, e2] using hj
        rw [blockOf_add c e2]
        exact hv.apart i j t u b hij hi' hj' hb
  · by_cases e : i = key
    · subst e
      simp only [upd, if_true, Option.some.injEq] at hi
      subst hi
      exact .inl (hblk b hb)
    · have hi' : σ i = some t := by simpa [upd, e] using hi
      rw [blockOf_add c e] at hb
      exact .inr ⟨i, t, hi', hb⟩
  · rcases hi with h | h
    · exact .inl h
    · exact .inr ⟨by omega, by omega⟩

/-- A new block that never changes. -/
theorem adv_const (hv : Inv w g σ) (key : Nat) (ob : Obj) : Adv w g σ key (w.alloc ob) (g.addV w.heap.size) σ := by
  have hon : Onto w g (w.alloc ob) (g.addV w.heap.size) := ⟨fun _ h => .inl h, fun b hb => blk_old w ob (hv.vlt b hb), fun _ h => h, fun _ _ => rfl⟩
  have hbl : ∀ i s, blockOf (g.addV w.heap.size) i s = blockOf g i s := fun i s => by cases s <;> rfl
  refine ⟨hon, ⟨fun b hb => ?_, fun i t hi => ?_, hv.told, fun i j t u b hij hi hj hb => ?_⟩, rfl, rfl, rfl, by simp, fun b hb _ => blk_old w ob hb, fun b hb => ?_, fun i t b hi hb => .inr ⟨i, t, hi, by rwa [hbl] at hb⟩, fun i hi => .inl hi⟩
  · rcases hb with h | h
    · have := hv.vlt b h
      simp
      omega
    · subst h
      simp
  · refine (hv.lies i t hi).onto hon (hv.told i t hi) fun b hb => ?_
    have hlt := (hv.lies i t hi).lt hb
    exact ⟨blk_old w ob hlt.1, fun h => h.elim hlt.2 (fun e => by omega)⟩
  · rw [hbl] at hb ⊢
    exact hv.apart i j t u b hij hi hj hb
  · rcases hb with h | h
    · exact .inl h
    · exact .inr (.inl (by omega))
end
end Go.Proofs.YtegbkihgnofkfaaGreatDoor.Ev

/-
The engine, part 8: what makes or writes memory.
-/
namespace Go.Proofs.YtegbkihgnofkfaaGreatDoor.Ev
section
set_option linter.unusedVariables false
set_option linter.unusedSimpArgs false
open Go
set_option linter.unusedVariables false
set_option linter.unusedSimpArgs false
variable {P : Program} {I : Tab} {w : World} {g : G} {σ : Sto} {e : Nat → AV} {a : Act}

/-- A run that gives what is told. -/
def Gives (P : Program) (s : Sem Value) (w : World) (g : G) (σ : Sto) (key : Nat) (x : AV) (σ1 : Sto) : Prop :=
  ∃ u w1 g1, s.run P w = .ok u w1 ∧ Adv w g σ key w1 g1 σ1 ∧ Rep w1 g1 x u

theorem Gives.same {s : Sem Value} {x : AV} {u : Value} (hv : Inv w g σ) (key : Nat) (h : s.run P w = .ok u w) (hr : Rep w g x u) : Gives P s w g σ key x σ := ⟨u, w, g, h, Adv.same hv key, hr⟩

theorem box_sound (hv : Inv w g σ) {key : Nat} (hk : ¬ g.D key) (t : TypeId) {x : AV} {u : Value} {ls : List AV} (hu : Rep w g x u) (hl : leaves x = some ls) :
    Gives P (Instr.box t u) w g σ key (.r key 0) (upd σ key (some (.ob t ls))) := by
  have hrow := leaves_sound hu hl
  have hb : ∀ b, blockOf (g.add key ⟨some ⟨w.heap.size, 0, none⟩, 0⟩) key (.ob t ls) = some b → w.heap.size ≤ b := by
    intro b hb
    simp [blockOf, G.add] at hb
    omega
  have hon : Onto w g (w.alloc (.cells u.cells t)) (g.add key ⟨some ⟨w.heap.size, 0, none⟩, 0⟩) := onto_add _ hk fun b hb => blk_old w _ (hv.vlt b hb)
  have hlies : Lies (w.alloc (.cells u.cells t)) (g.add key ⟨some ⟨w.heap.size, 0, none⟩, 0⟩) key (.ob t ls) :=
    ⟨w.heap.size, u.cells, by simp [G.add], blk_new w _, hrow.1, hrow.2.onto hon, fun h => by have := hv.vlt _ h; omega⟩
  refine ⟨_, _, _, ?_, adv_new hv hk _ _ (w.alloc (.cells u.cells t)) rfl rfl rfl (by simp) (fun b hb => blk_old w _ hb) hlies hb, .r _ _ w.heap.size (.inr rfl) (by simp [G.add])⟩
  simp [Instr.box, newVar, newRow]

/-- A new block that never changes. -/
theorem box_frozen (hv : Inv w g σ) (key : Nat) (t : TypeId) {x : AV} {u : Value} {ls : List AV} (hu : Rep w g x u) (hl : leaves x = some ls) :
    Gives P (Instr.box t u) w g σ key (.p ls) σ := by
  have hrow := leaves_sound hu hl
  have hnv : ¬ g.V w.heap.size := fun h => by have := hv.vlt _ h; omega
  let g1 : G := ⟨fun b => g.V b ∨ b = w.heap.size, g.ρ, g.D⟩
  have hon : Onto w g (w.alloc (.cells u.cells t)) g1 := ⟨fun _ h => .inl h, fun b hb => blk_old w _ (hv.vlt b hb), fun _ h => h, fun _ _ => rfl⟩
  have hbl : ∀ i s, blockOf g1 i s = blockOf g i s := fun i s => by cases s <;> rfl
  have hcells := hrow.2.onto hon
  refine ⟨.pointer (some ⟨w.heap.size, 0, none⟩), w.alloc (.cells u.cells t), g1, by simp [Instr.box, newVar, newRow], ⟨hon, ⟨fun b hb => ?_, fun i s hi => ?_, fun i s hi => hv.told i s hi, fun i j s q b hij hi hj hb => ?_⟩, rfl, rfl, rfl, by simp, fun b hb _ => blk_old w _ hb, fun b hb => ?_, fun i s b hi hb => .inr ⟨i, s, hi, by rwa [hbl] at hb⟩, fun i hi => .inl hi⟩, ?_⟩
  · rcases hb with hb | rfl
    · have := hv.vlt b hb
      simp
      omega
    · simp
  · refine (hv.lies i s hi).onto hon (hv.told i s hi) fun b hb => ?_
    have hlt := (hv.lies i s hi).lt hb
    refine ⟨blk_old w _ hlt.1, fun h => ?_⟩
    rcases h with h | h
    · exact hlt.2 h
    · omega
  · rw [hbl] at hb ⊢
    exact hv.apart i j s q b hij hi hj hb
  · rcases hb with hb | rfl
    · exact .inl hb
    · exact .inr (.inl (Nat.le_refl _))
  · refine .p ls ⟨w.heap.size, 0, none⟩ (fun j => (u.cells[j]?).getD undef) (.inr rfl) (fun j c hc => ?_) (fun j c hc => ?_)
    · obtain ⟨q, h1, h2⟩ := hcells j c hc
      rw [add_lit0, cell_at _ _ _ _ _ _ (blk_new w _), Nat.zero_add, h1]
      rfl
    · obtain ⟨q, h1, h2⟩ := hcells j c hc
      rw [h1]
      exact h2

theorem alloc_sound (hI : I.Ok P) (hv : Inv w g σ) {key : Nat} (hk : ¬ g.D key) {t : TypeId} {i : TI} (hi : I t = some i) :
    Gives P (Instr.alloc t true (.tuple #[])) w g σ key (.r key 0) (upd σ key (some (.ob t (zeros i)))) := by
  obtain ⟨z, hz, hzc⟩ := run_zero' hI hi w
  have hrow : Row w g (zeros i) z.cells := by
    have := zeros_row (w := w) (g := g) hI hi
    rw [← hzc] at this
    simpa using this
  have hb : ∀ b, blockOf (g.add key ⟨some ⟨w.heap.size, 0, none⟩, 0⟩) key (.ob t (zeros i)) = some b → w.heap.size ≤ b := by
    intro b hb
    simp [blockOf, G.add] at hb
    omega
  have hon : Onto w g (w.alloc (.cells z.cells t)) (g.add key ⟨some ⟨w.heap.size, 0, none⟩, 0⟩) := onto_add _ hk fun b hb => blk_old w _ (hv.vlt b hb)
  have hlies : Lies (w.alloc (.cells z.cells t)) (g.add key ⟨some ⟨w.heap.size, 0, none⟩, 0⟩) key (.ob t (zeros i)) :=
    ⟨w.heap.size, z.cells, by simp [G.add], blk_new w _, hrow.1, hrow.2.onto hon, fun h => by have := hv.vlt _ h; omega⟩
  refine ⟨_, _, _, ?_, adv_new hv hk _ _ (w.alloc (.cells z.cells t)) rfl rfl rfl (by simp) (fun b hb => blk_old w _ hb) hlies hb, .r _ _ w.heap.size (.inr rfl) (by simp [G.add])⟩
  simp [Instr.alloc, newVar, newRow, hz]

theorem map_run {α β : Type} (f : α → Sem β) (h : α → β) : ∀ (l : List α), (∀ x ∈ l, ∀ w, (f x).run P w = .ok (h x) w) → ∀ w, (l.mapM f).run P w = .ok (l.map h) w
  | [], _, w => by simp [Sem.run_pure]
  | x :: l, hx, w => by
    rw [List.mapM_cons]
    simp [hx x List.mem_cons_self, map_run f h l (fun y hy => hx y (List.mem_cons_of_mem _ hy))]

theorem build_sound (hI : I.Ok P) (henv : Env w g e a) {t : TypeId} {fs : List (Nat × Nat)} {sz by_ : Nat} {zz : List Value} (ht : I t = some ⟨.st fs, sz, by_, zz⟩) (ps : Array (Nat × Operand)) {cs : List AV}
    (h : fillP (fun j => (fs[j]?).bind fun fd => (I fd.2).map fun fi => (fd.1, fi.sz)) (zeros ⟨.st fs, sz, by_, zz⟩) (ps.toList.map fun q => (q.1, val e q.2)) = some cs) :
    ∃ u, (Instr.build t (ps.map fun q => (q.1, a.eval q.2))).run P w = .ok u w ∧ Rep w g (.a cs) u := by
  have hk := (hI t _ ht).k
  simp only [TK.tie] at hk
  obtain ⟨F, hF, hm, hq⟩ := hk
  obtain ⟨z, hz, hzc⟩ := run_zero' hI ht w
  have hrow := zeros_row (w := w) (g := g) hI ht
  rw [← hzc] at hrow
  let pl : List (Nat × Nat) := F.toList.map fun f => (f.offset, P.cellsOf f.type)
  have hpl : ∀ q ∈ ps.toList, ∀ r, (fs[q.1]?).bind (fun fd => (I fd.2).map fun fi => (fd.1, fi.sz)) = some r → (pl.toArray)[q.1]? = some r := by
    intro q _ r hr
    obtain ⟨fd, hfd, hr⟩ := Option.bind_eq_some_iff.1 hr
    obtain ⟨fi, hfi, rfl⟩ := Option.map_eq_some_iff.1 hr
    rw [← hm, List.getElem?_map] at hfd
    obtain ⟨fl, hfl, rfl⟩ := Option.map_eq_some_iff.1 hfd
    obtain ⟨j, zz', h1, h2, _⟩ := (hI _ _ hfi).info
    simp [pl, List.getElem?_map, Program.cellsOf]
    exact ⟨fl, by simpa using hfl, rfl, by rw [h1]; simpa using h2⟩
  obtain ⟨us1, h1, h2⟩ := fillP_sound henv _ (fun i => (pl.toArray)[i]?) ps.toList hpl _ _ _ hrow h
  refine ⟨.agg us1.toArray, ?_, a_of_row h2⟩
  have hmap : ∀ w, (F.mapM (fun f : Field => (do pure (f.offset, ← Go.sizeOf f.type) : Sem (Nat × Nat)))).run P w = .ok pl.toArray w := by
    intro w
    have := map_run (P := P) (fun f : Field => (do pure (f.offset, ← Go.sizeOf f.type) : Sem (Nat × Nat))) (fun f => (f.offset, P.cellsOf f.type)) F.toList (fun f hf w => by
      obtain ⟨q, hq1, _⟩ := hq f hf
      simp [Go.sizeOf, typeInfo, hq1, Program.cellsOf]) w
    rw [Array.mapM_eq_mapM_toList, map_eq_pure_bind, Sem.run_bind, this]
    simp [pl, Sem.run_pure]
  simp only [Array.toArray_toList] at h1
  simp only [Instr.build, Sem.run_bind, hz, Result.andThen_ok, run_underlying hF, hmap, Array.toList_map]
  rw [h1]
  simp [Sem.run_pure]

theorem build_arr_sound (hI : I.Ok P) (henv : Env w g e a) {t n E : Nat} {sz by_ : Nat} {zz : List Value} {ei : TI} (ht : I t = some ⟨.arr n E, sz, by_, zz⟩) (hE : I E = some ei) (ps : Array (Nat × Operand)) {cs : List AV}
    (h : fillP (fun j => some (j * ei.sz, ei.sz)) (zeros ⟨.arr n E, sz, by_, zz⟩) (ps.toList.map fun q => (q.1, val e q.2)) = some cs) :
    ∃ u, (Instr.build t (ps.map fun q => (q.1, a.eval q.2))).run P w = .ok u w ∧ Rep w g (.a cs) u := by
  have hk := (hI t _ ht).k
  simp only [TK.tie] at hk
  obtain ⟨z, hz, hzc⟩ := run_zero' hI ht w
  have hrow := zeros_row (w := w) (g := g) hI ht
  rw [← hzc] at hrow
  obtain ⟨us1, h1, h2⟩ := fillP_sound henv _ (fun i => some (i * ei.sz, ei.sz)) ps.toList (fun q _ r hr => hr) _ _ _ hrow h
  refine ⟨.agg us1.toArray, ?_, a_of_row h2⟩
  simp only [Array.toArray_toList] at h1
  simp only [Instr.build, Sem.run_bind, hz, Result.andThen_ok, run_underlying hk, run_sizeOf' hI hE, Array.toList_map]
  rw [h1]
  simp [Sem.run_pure]

theorem range_map {α : Type} (n : Nat) (f : Nat → α) : (Array.range n).map f = ((List.range n).map f).toArray := by
  rw [← List.toArray_range, List.map_toArray]

theorem buildSlice_sound (hI : I.Ok P) (hv : Inv w g σ) (henv : Env w g e a) (key : Nat) {t E : TypeId} {sz by_ : Nat} {zz : List Value} {ei : TI} (ht : I t = some ⟨.sl E, sz, by_, zz⟩) (hE : I E = some ei) (len : Nat)
    (hle : len * ei.sz ≤ 16777216) (ps : Array (Nat × Operand)) {cs : List AV}
    (h : fillP (fun j => some (j * ei.sz, ei.sz)) ((List.range (len * ei.sz)).map fun j => (zeros ei).getD (j % ei.sz) (.v undef)) (ps.toList.map fun q => (q.1, val e q.2)) = some cs) :
    Gives P (Instr.buildSlice t len (ps.map fun q => (q.1, a.eval q.2))) w g σ key (.s true len cs) σ := by
  have hk := (hI t _ ht).k
  simp only [TK.tie] at hk
  obtain ⟨z, hz, hzc⟩ := run_zero' hI hE w
  have hlen : z.cells.size = ei.sz := by rw [← Array.length_toList, hzc, (hI E ei hE).len]
  let us0 : List Value := (List.range (len * ei.sz)).map fun j => (if len * ei.sz = 0 then #[] else z.cells)[j % (if len * ei.sz = 0 then (#[] : Array Value) else z.cells).size]!
  have hrow : Row w g ((List.range (len * ei.sz)).map fun j => (zeros ei).getD (j % ei.sz) (.v undef)) us0.toArray := by
    refine ⟨by simp [us0], fun j c hc => ?_⟩
    simp only [List.getElem?_map, List.getElem?_range] at hc
    obtain ⟨j', hj', rfl⟩ := Option.map_eq_some_iff.1 hc
    have hlt : j < len * ei.sz := by
      by_cases hl : j < len * ei.sz
      · exact hl
      · simp [hl] at hj'
    have hjj : j' = j := by
      simp [hlt] at hj'
      exact hj'.symm
    subst hjj
    have hne : ¬ len * ei.sz = 0 := by omega
    have hpos : 0 < ei.sz := Nat.pos_of_ne_zero fun h0 => hne (by rw [h0]; simp)
    have hmod : j' % ei.sz < ei.z.length := by rw [(hI E ei hE).len]; exact Nat.mod_lt _ hpos
    refine ⟨ei.z[j' % ei.sz], ?_, ?_⟩
    · simp only [us0, hne, if_false, hlen, List.getElem?_toArray, List.getElem?_map, List.getElem?_range hlt, Option.map_some]
      congr 1
      have hmod2 : j' % ei.sz < z.cells.size := by rw [hlen]; exact Nat.mod_lt _ hpos
      rw [getElem!_pos z.cells _ hmod2]
      have : z.cells[j' % ei.sz] = z.cells.toList[j' % ei.sz]'(by simpa using hmod2) := by simp
      rw [this]
      congr 1
    · have : (zeros ei).getD (j' % ei.sz) (.v undef) = ofC ei.z[j' % ei.sz] := by
        simp [zeros, List.getD, List.getElem?_map, List.getElem?_eq_getElem hmod]
      rw [this]
      exact rep_ofC _
  obtain ⟨us1, h1, h2⟩ := fillP_sound henv _ (fun i => some (i * ei.sz, ei.sz)) ps.toList (fun q _ r hr => hr) _ _ _ hrow h
  have hadv := adv_const hv key (.cells us1.toArray E)
  have hr2 : Row (w.alloc (.cells us1.toArray E)) (g.addV w.heap.size) cs us1.toArray := ⟨h2.1, h2.2.onto hadv.onto⟩
  refine ⟨.slice (some ⟨w.heap.size, 0, none⟩) len len, _, _, ?_, hadv, .s true len len cs _ (fun j => us1.toArray.getD j undef) (Nat.le_refl _) (fun _ => rfl) (fun j x hj => ?_) (fun j x hj => ?_)⟩
  · have hn : ¬ (16777216 < len * ei.sz) := by omega
    simp only [Instr.buildSlice, Sem.run_bind, run_underlying hk, Result.andThen_ok, run_sizeOf' hI hE]
    rw [if_neg (by simpa using hn)]
    simp only [us0] at h1
    by_cases h0 : len * ei.sz = 0
    · simp only [h0, if_true] at h1 ⊢
      simp only [Sem.run_bind, Sem.run_pure, Result.andThen_ok, range_map, Array.toList_map, pure_bind]
      rw [h1]
      simp [newRow]
    · simp only [h0, if_false] at h1 ⊢
      simp only [Sem.run_bind, Sem.run_pure, hz, Result.andThen_ok, range_map, Array.toList_map, pure_bind]
      rw [h1]
      simp [newRow]
  · obtain ⟨u, hu1, hu2⟩ := hr2.2 j x hj
    refine ⟨⟨w.heap.size, 0, none⟩, rfl, .inr rfl, ?_⟩
    rw [add_lit0, cell_at _ _ _ _ _ _ (blk_new w _), Nat.zero_add]
    simp [Array.getD_eq_getD_getElem?, hu1]
  · obtain ⟨u, hu1, hu2⟩ := hr2.2 j x hj
    simpa [Array.getD_eq_getD_getElem?, hu1] using hu2
end
end Go.Proofs.YtegbkihgnofkfaaGreatDoor.Ev

/-
The engine, part 9: a store, an append.
-/
namespace Go.Proofs.YtegbkihgnofkfaaGreatDoor.Ev
section
set_option linter.unusedVariables false
set_option linter.unusedSimpArgs false
open Go
set_option linter.unusedVariables false
set_option linter.unusedSimpArgs false
variable {P : Program} {I : Tab} {w : World} {g : G} {σ : Sto} {e : Nat → AV} {a : Act}

theorem setRow_size (w : World) (b : Nat) (us : Array Value) : (w.setRow b us).heap.size = w.heap.size := by simp [World.setRow]

theorem onto_setRow (hv : Inv w g σ) {b : Nat} (hb : ¬ g.V b) (us : Array Value) : Onto w g (w.setRow b us) g :=
  ⟨fun _ h => h, fun k hk => setRow_other w b k us (fun e => hb (e ▸ hk)), fun _ h => h, fun _ _ => rfl⟩

theorem adv_set (hv : Inv w g σ) (key : Nat) {id b : Nat} {s s' : Slot} (hs : σ id = some s) (hb : blockOf g id s = some b) (us : Array Value) (hl : Lies (w.setRow b us) g id s') (hb' : blockOf g id s' = some b) :
    Adv w g σ key (w.setRow b us) g (upd σ id (some s')) := by
  have hlt := (hv.lies id s hs).lt hb
  have hon := onto_setRow hv hlt.2 us
  refine ⟨hon, ⟨fun k hk => by rw [setRow_size]; exact hv.vlt k hk, fun i t hi => ?_, fun i t hi => ?_, fun i j t u k hij hi hj hk => ?_⟩, rfl, rfl, rfl, by rw [setRow_size]; exact Nat.le_refl _, fun k hk hne => setRow_other w b k us (fun e => hne id s hs (e ▸ hb)), fun _ h => .inl h, fun i t k hi hk => ?_, fun i hi => .inl hi⟩
  · by_cases e : i = id
    · subst e
      simp only [upd, if_true, Option.some.injEq] at hi
      subst hi
      exact hl
    · simp only [upd, e, if_false] at hi
      refine (hv.lies i t hi).onto hon (hv.told i t hi) fun k hk => ⟨setRow_other w b k us (fun e2 => ?_), ((hv.lies i t hi).lt hk).2⟩
      subst e2
      exact hv.apart i id t s k e hi hs hk hb
  · by_cases e : i = id
    · subst e
      exact hv.told i s hs
    · simp only [upd, e, if_false] at hi
      exact hv.told i t hi
  · by_cases e : i = id
    · subst e
      simp only [upd, if_true, Option.some.injEq] at hi
      subst hi
      have hj' : σ j = some u := by simpa [upd, Ne.symm hij] using hj
      rw [hb'] at hk
      obtain rfl := Option.some.inj hk
      exact hv.apart i j s u b hij hs hj' hb
    · have hi' : σ i = some t := by simpa [upd, e] using hi
      by_cases e2 : j = id
      · subst e2
        simp only [upd, if_true, Option.some.injEq] at hj
        subst hj
        rw [hb']
        intro h
        obtain rfl := Option.some.inj h
        exact hv.apart i j t s b hij hi' hs hk hb
      · have hj' : σ j = some u := by simpa [upd, e2] using hj
        exact hv.apart i j t u k hij hi' hj' hk
  · by_cases e : i = id
    · subst e
      simp only [upd, if_true, Option.some.injEq] at hi
      subst hi
      rw [hb'] at hk
      obtain rfl := Option.some.inj hk
      exact .inr ⟨i, s, hs, hb⟩
    · have hi' : σ i = some t := by simpa [upd, e] using hi
      exact .inr ⟨i, t, hi', hk⟩

theorem store_run (hI : I.Ok P) {t : TypeId} {i : TI} (hi : I t = some i) {b o T : Nat} {us : Array Value} {u : Value} (hh : w.heap[b]? = some (.cells us T (0, 0))) (hsz : u.cells.size = i.sz)
    (hle : o + u.cells.size ≤ us.size) (h1 : ∀ v ∈ u.cells.toList, v.oneCell' = true) :
    (Instr.storeAt t (.pointer (some ⟨b, o, none⟩)) u).run P w = .ok () (w.setRow b (us.toList.take o ++ u.cells.toList ++ us.toList.drop (o + u.cells.size)).toArray) := by
  have := run_storeCells_at P b o T u.cells.toList 0 us w hh (by simpa using hle) h1
  simp only [Nat.add_zero, Array.length_toList] at this
  simp [Instr.storeAt, Instr.sureAddr, storeVar, run_sizeOf' hI hi, hsz, this]

theorem leaves_one {ls : List AV} {vs : Array Value} (h : Row w g ls vs) (hl : ls.all leafOk = true) : ∀ v ∈ vs.toList, v.oneCell' = true := by
  intro v hv
  obtain ⟨j, hj, rfl⟩ := List.mem_iff_getElem.1 hv
  have hj' : j < vs.size := by simpa using hj
  have hc : ls[j]? = some (ls[j]'(by rw [← h.1]; exact hj')) := List.getElem?_eq_getElem _
  have hr := h.get hc (u := vs[j]) (by simp)
  have hlo : leafOk (ls[j]'(by rw [← h.1]; exact hj')) = true := List.all_eq_true.1 hl _ (List.getElem_mem _)
  have := leafOk_one hr hlo
  simpa using this

theorem store_sound (hI : I.Ok P) (hv : Inv w g σ) (key : Nat) {t : TypeId} {i : TI} (hi : I t = some i) {y : AV} {u : Value} {ls : List AV} (hu : Rep w g y u) (hl : leaves y = some ls) (hlen : ls.length = i.sz) (hok : ls.all leafOk = true)
    {id o : Nat} {v : Value} (hp : Rep w g (.r id o) v) {s s1 : Slot} (hs : σ id = some s)
    (h1 : (∃ T cs cs1, s = .ob T cs ∧ s1 = .ob T cs1 ∧ setRange cs o ls = some cs1) ∨ (∃ E sz n cs cs1, s = .row E sz n cs ∧ s1 = .row E sz n cs1 ∧ setRange cs o ls = some cs1)) (hne : ls ≠ []) :
    ∃ w1, (Instr.storeAt t v u).run P w = .ok () w1 ∧ Adv w g σ key w1 g (upd σ id (some s1)) := by
  have hrow := leaves_sound hu hl
  have hrow' : Row w g ls u.cells.toList.toArray := by simpa using hrow
  have hone := leaves_one hrow hok
  have husz : u.cells.size = i.sz := by rw [hrow.1, hlen]
  cases hp with
  | r _ _ b hD hA =>
    rcases h1 with ⟨T, cs, cs1, rfl, rfl, hset⟩ | ⟨E, sz, n, cs, cs1, rfl, rfl, hset⟩
    · obtain ⟨b', us, hA', hh, hsz, hc, hV⟩ := hv.lies id _ hs
      rw [hA] at hA'
      simp only [Option.some.injEq, Addr.mk.injEq] at hA'
      obtain ⟨rfl, -, -⟩ := hA'
      have hr0 : Row w g cs us.toList.toArray := by
        rw [Array.toArray_toList]
        exact ⟨hsz, hc⟩
      obtain ⟨hle, hr1⟩ := setRange_sound hr0 hrow' hset
      simp only [Array.length_toList] at hle hr1
      refine ⟨_, store_run hI hi hh husz hle hone, adv_set hv key hs (by simp [blockOf, hA]) _ ?_ (by simp [blockOf, hA])⟩
      exact ⟨b, _, hA, setRow_heap w b us _ T (0, 0) hh, hr1.1, hr1.2.onto (onto_setRow hv hV _), hV⟩
    · obtain ⟨k1, k2, k3, k4, k5⟩ := hv.lies id _ hs
      rcases k5 with h0 | ⟨b', us, hA', hh, hsz, hc, hV⟩
      · exfalso
        have : cs = [] := List.eq_nil_of_length_eq_zero (by rw [k1, show n = 0 by omega]; simp)
        subst this
        unfold setRange at hset
        split at hset
        · rename_i hle
          simp only [List.length_nil] at hle
          exact hne (List.eq_nil_of_length_eq_zero (by omega))
        · cases hset
      · rw [hA] at hA'
        simp only [Option.some.injEq, Addr.mk.injEq] at hA'
        obtain ⟨rfl, -, -⟩ := hA'
        have hcap : ¬ (g.ρ id).cap = 0 := by
          intro h0
          have : cs = [] := List.eq_nil_of_length_eq_zero (by rw [k1, show n = 0 by omega]; simp)
          subst this
          unfold setRange at hset
          split at hset
          · rename_i hle
            simp only [List.length_nil] at hle
            exact hne (List.eq_nil_of_length_eq_zero (by omega))
          · cases hset
        -- the cells beyond the row's length stay
        unfold setRange at hset
        split at hset
        · rename_i hle
          obtain rfl := Option.some.inj hset
          have hncap : cs.length ≤ us.size := by
            rw [k1, hsz]
            exact Nat.mul_le_mul_right _ k2
          have hle' : o + u.cells.size ≤ us.size := by rw [hrow.1]; omega
          refine ⟨_, store_run hI hi hh husz hle' hone, adv_set hv key hs (by simp [blockOf, hA, hcap]) _ ?_ (by simp [blockOf, hA, hcap])⟩
          refine ⟨by simp; omega, k2, k3, k4, .inr ⟨b, _, hA, setRow_heap w b us _ E (0, 0) hh, by simp; omega, ?_, hV⟩⟩
          refine Cells.onto (onto_setRow hv hV _) fun j c hj => ?_
          have hlsz : u.cells.size = ls.length := hrow.1
          by_cases hj1 : j < o
          · rw [List.append_assoc, List.getElem?_append_left (by simp; omega), List.getElem?_take] at hj
            simp only [hj1, if_true] at hj
            obtain ⟨x, hx1, hx2⟩ := hc j c hj
            refine ⟨x, ?_, hx2⟩
            rw [List.getElem?_toArray, List.append_assoc, List.getElem?_append_left (by simp; omega), List.getElem?_take]
            simpa [hj1] using hx1
          · by_cases hj2 : j < o + ls.length
            · have e1 : (cs.take o).length = o := by simp; omega
              rw [List.append_assoc, List.getElem?_append_right (by omega), e1, List.getElem?_append_left (by omega)] at hj
              obtain ⟨x, hx1, hx2⟩ := hrow.2 _ c hj
              refine ⟨x, ?_, hx2⟩
              have e2 : (us.toList.take o).length = o := by simp; omega
              rw [List.getElem?_toArray, List.append_assoc, List.getElem?_append_right (by omega), e2, List.getElem?_append_left (by simp; omega)]
              simpa using hx1
            · have e1 : (cs.take o).length = o := by simp; omega
              rw [List.append_assoc, List.getElem?_append_right (by omega), e1, List.getElem?_append_right (by omega), List.getElem?_drop] at hj
              have e3 : o + ls.length + (j - o - ls.length) = j := by omega
              rw [e3] at hj
              obtain ⟨x, hx1, hx2⟩ := hc j c hj
              refine ⟨x, ?_, hx2⟩
              have e2 : (us.toList.take o).length = o := by simp; omega
              rw [List.getElem?_toArray, List.append_assoc, List.getElem?_append_right (by omega), e2, List.getElem?_append_right (by simp; omega), List.getElem?_drop]
              simp only [Array.length_toList, hlsz]
              rw [e3]
              simpa using hx1
        · cases hset
end
end Go.Proofs.YtegbkihgnofkfaaGreatDoor.Ev

/-
The engine, part 10: append.
-/
namespace Go.Proofs.YtegbkihgnofkfaaGreatDoor.Ev
section
set_option linter.unusedVariables false
set_option linter.unusedSimpArgs false
open Go
set_option linter.unusedVariables false
set_option linter.unusedSimpArgs false
variable {P : Program} {I : Tab} {w : World} {g : G} {σ : Sto} {e : Nat → AV} {a : Act}

theorem Adv.trans {key : Nat} {w1 w2 : World} {g1 g2 : G} {σ1 σ2 : Sto} (h : Adv w g σ key w1 g1 σ1) (k : Adv w1 g1 σ1 key w2 g2 σ2) : Adv w g σ key w2 g2 σ2 := by
  refine ⟨h.onto.trans k.onto, k.inv, k.os.trans h.os, k.tape.trans h.tape, k.output.trans h.output, Nat.le_trans h.size k.size, fun b hb hne => ?_, fun b hb => ?_, fun i s b hi hb => ?_, fun i hi => ?_⟩
  · refine (k.keep b (Nat.lt_of_lt_of_le hb h.size) fun i s hi hbl => ?_).trans (h.keep b hb hne)
    rcases h.live i s b hi hbl with h1 | ⟨j, t, h1, h2⟩
    · omega
    · exact hne j t h1 h2
  · rcases k.newV b hb with h1 | h1 | ⟨i, s, h1, h2⟩
    · exact h.newV b h1
    · exact .inr (.inl (Nat.le_trans h.size h1))
    · exact (h.live i s b h1 h2).elim (fun h3 => .inr (.inl h3)) fun ⟨j, t, h3, h4⟩ => .inr (.inr ⟨j, t, h3, h4⟩)
  · rcases k.live i s b hi hb with h1 | ⟨j, t, h1, h2⟩
    · exact .inl (Nat.le_trans h.size h1)
    · exact h.live j t b h1 h2
  · rcases k.newD i hi with h1 | h1
    · exact h.newD i h1
    · exact .inr h1

/-- A number of the store is let go. -/
theorem Adv.kill {key : Nat} {w1 : World} {g1 : G} {σ1 : Sto} (h : Adv w g σ key w1 g1 σ1) (id : Nat) : Adv w g σ key w1 g1 (upd σ1 id none) := by
  have hsub : ∀ i s, upd σ1 id none i = some s → σ1 i = some s := by
    intro i s hi
    by_cases e : i = id
    · simp [upd, e] at hi
    · simpa [upd, e] using hi
  exact ⟨h.onto, ⟨h.inv.vlt, fun i s hi => h.inv.lies i s (hsub i s hi), fun i s hi => h.inv.told i s (hsub i s hi), fun i j s t b hij hi hj => h.inv.apart i j s t b hij (hsub i s hi) (hsub j t hj)⟩,
    h.os, h.tape, h.output, h.size, h.keep, h.newV, fun i s b hi => h.live i s b (hsub i s hi), h.newD⟩

theorem upd_comm (σ : Sto) {i j : Nat} (h : i ≠ j) (x y : Option Slot) : upd (upd σ i x) j y = upd (upd σ j y) i x := by
  funext k
  by_cases h1 : k = j
  · subst h1
    simp [upd, Ne.symm h]
  · by_cases h2 : k = i
    · subst h2
      simp [upd, h]
    · simp [upd, h1, h2]

/-- What lies at one number lies now at a new one. -/
theorem adv_move (hv : Inv w g σ) {key id : Nat} (hk : ¬ g.D key) {s : Slot} (hs : σ id = some s) (s' : Slot) (hl : Lies w (g.add key (g.ρ id)) key s')
    (hb : ∀ b, blockOf (g.add key (g.ρ id)) key s' = some b → blockOf g id s = some b) : Adv w g σ key w (g.add key (g.ρ id)) (upd (upd σ id none) key (some s')) := by
  have hon : Onto w g w (g.add key (g.ρ id)) := onto_add _ hk fun b _ => rfl
  have hne : id ≠ key := told_ne hv hk hs
  have hget : ∀ i t, i ≠ key → upd (upd σ id none) key (some s') i = some t → i ≠ id ∧ σ i = some t := by
    intro i t h1 h2
    simp only [upd, h1, if_false] at h2
    by_cases e : i = id
    · simp [e] at h2
    · exact ⟨e, by simpa [e] using h2⟩
  refine ⟨hon, ⟨hv.vlt, fun i t hi => ?_, fun i t hi => ?_, fun i j t u b hij hi hj hib => ?_⟩, rfl, rfl, rfl, Nat.le_refl _, fun _ _ _ => rfl, fun _ h => .inl h, fun i t b hi hib => ?_, fun i hi => ?_⟩
  · by_cases e : i = key
    · subst e
      simp only [upd, if_true, Option.some.injEq] at hi
      subst hi
      exact hl
    · obtain ⟨_, hi'⟩ := hget i t e hi
      exact (hv.lies i t hi').onto hon (hv.told i t hi') fun b hb => ⟨rfl, ((hv.lies i t hi').lt hb).2⟩
  · by_cases e : i = key
    · exact .inr e
    · exact .inl (hv.told i t (hget i t e hi).2)
  · by_cases e : i = key
    · subst e
      simp only [upd, if_true, Option.some.injEq] at hi
      subst hi
      obtain ⟨h1, hj'⟩ := hget j u (Ne.symm hij) hj
      rw [blockOf_add _ (Ne.symm hij)]
      exact hv.apart id j s u b (Ne.symm h1) hs hj' (hb b hib)
    · obtain ⟨h1, hi'⟩ := hget i t e hi
      rw [blockOf_add _ e] at hib
      by_cases e2 : j = key
      · subst e2
        simp only [upd, if_true, Option.some.injEq] at hj
        subst hj
        intro h
        exact hv.apart i id t s b h1 hi' hs hib (hb b h)
      · obtain ⟨_, hj'⟩ := hget j u e2 hj
        rw [blockOf_add _ e2]
        exact hv.apart i j t u b hij hi' hj' hib
  · by_cases e : i = key
    · subst e
      simp only [upd, if_true, Option.some.injEq] at hi
      subst hi
      exact .inr ⟨id, s, hs, hb b hib⟩
    · obtain ⟨_, hi'⟩ := hget i t e hi
      rw [blockOf_add _ e] at hib
      exact .inr ⟨i, t, hi', hib⟩
  · rcases hi with h | h
    · exact .inl h
    · exact .inr ⟨by omega, by omega⟩

theorem At.list {cs : List AV} {ad : Addr} (h : At w g cs ad) : ∃ nv : List Value, Row w g cs nv.toArray ∧ ∀ j u, nv[j]? = some u → w.cell? (ad.add j) = some u := by
  obtain ⟨us, hus⟩ := h
  refine ⟨(List.range cs.length).map us, ⟨by simp, fun j c hc => ?_⟩, fun j u hj => ?_⟩
  · have hlt : j < cs.length := (List.getElem?_eq_some_iff.1 hc).1
    exact ⟨us j, by simp [hlt], (hus j c hc).2⟩
  · simp only [List.getElem?_map] at hj
    obtain ⟨k, hk, rfl⟩ := Option.map_eq_some_iff.1 hj
    have hlt : j < cs.length := by
      have := (List.getElem?_eq_some_iff.1 hk).1
      simpa using this
    rw [List.getElem?_range hlt] at hk
    obtain rfl := Option.some.inj hk
    exact (hus j _ (List.getElem?_eq_getElem hlt)).1

theorem sliceCells_sound (hv : Inv w g σ) {y : AV} {v : Value} (hy : Rep w g y v) {sz m : Nat} {news : List AV} (h : sliceCells σ sz y = some (m, news)) (hlen : news.length = m * sz) (hsz : 0 < sz) :
    ∃ A c, ∃ nv : List Value, v = .slice A m c ∧ m ≤ c ∧ Row w g news nv.toArray ∧ (m = 0 ∨ ∃ ad, A = some ad ∧ ∀ j u, nv[j]? = some u → w.cell? (ad.add j) = some u) := by
  cases hy <;> simp only [sliceCells, reduceCtorEq] at h
  case s ex n c cs A us hn he h1 h2 =>
    simp only [Option.some.injEq, Prod.mk.injEq] at h
    obtain ⟨rfl, rfl⟩ := h
    by_cases hm : n = 0
    · subst hm
      have : cs = [] := List.eq_nil_of_length_eq_zero (by simpa using hlen)
      subst this
      exact ⟨A, c, [], rfl, hn, ⟨rfl, fun j x hj => by simp at hj⟩, .inl rfl⟩
    · have hpos : 0 < cs.length := by rw [hlen]; exact Nat.mul_pos (by omega) hsz
      obtain ⟨ad, rfl, _, _⟩ := h1 0 _ (List.getElem?_eq_getElem hpos)
      have hat : At w g cs ad := ⟨us, fun j x hj => by
        obtain ⟨ad', ha, _, hc⟩ := h1 j x hj
        obtain rfl := Option.some.inj ha
        exact ⟨hc, h2 j x hj⟩⟩
      obtain ⟨nv, hr, hc⟩ := hat.list
      exact ⟨_, c, nv, rfl, hn, hr, .inr ⟨ad, rfl, hc⟩⟩
  case w id lo n c A hD hn h0 h1 =>
    obtain ⟨s, hs, h⟩ := Option.bind_eq_some_iff.1 h
    split at h
    · rename_i hle
      simp only [Option.some.injEq, Prod.mk.injEq] at h
      obtain ⟨rfl, rfl⟩ := h
      by_cases hm : n = 0
      · subst hm
        exact ⟨A, c, [], rfl, hn, ⟨by simp, fun j x hj => by simp at hj⟩, .inl rfl⟩
      · obtain ⟨b, hA, rfl⟩ := h1 (by omega)
        have hat := (hv.at_ hs hA).drop lo
        rw [add_lit0, Nat.zero_add] at hat
        have hat2 : At w g ((s.cells.drop lo).take (n * sz)) ⟨b, lo, none⟩ := by
          obtain ⟨us, hus⟩ := hat
          refine ⟨us, fun j x hj => hus j x ?_⟩
          rw [List.getElem?_take] at hj
          split at hj
          · exact hj
          · cases hj
        obtain ⟨nv, hr, hc⟩ := hat2.list
        exact ⟨_, c, nv, rfl, hn, hr, .inr ⟨_, rfl, hc⟩⟩
    · cases h

theorem append_nothing {t E ty : TypeId} {i : TypeInfo} (ht : P.underlying t = some (.slice E)) (hi : P.info? E = some i) (A A' : Option Addr) (n c c' : Nat) (hnc : n ≤ c) :
    (Builtin.append_ #[t, t] ty #[.slice A n c, .slice A' 0 c']).run P w = .ok (.slice A n c) w := by
  cases A <;> cases A' <;> simp [Builtin.append_, run_underlying ht, Go.sizeOf, typeInfo, hi, Builtin.lenOf, Builtin.firstCells, loadCells, loadCellsFrom, hnc, storeCells]

theorem append_grows (hI : I.Ok P) {t E ty : TypeId} {sz0 by0 : Nat} {zz : List Value} {ei : TI} (ht : I t = some ⟨.sl E, sz0, by0, zz⟩) (hE : I E = some ei) (A : Option Addr) (n c m c' : Nat) (ad' : Addr) (olds news : List Value)
    (hA0 : A = none → n = 0 ∧ c = 0) (holds : ∀ ad, A = some ad → ∀ j u, olds[j]? = some u → w.cell? (ad.add j) = some u) (hol : olds.length = n * ei.sz)
    (hnews : ∀ j u, news[j]? = some u → w.cell? (ad'.add j) = some u) (hnl : news.length = m * ei.sz) (hm : 0 < m) (hgrow : c < n + m) (hmax : n + m ≤ maxLen) (hby : (n + m) * ei.by_ ≤ 140737488355328) :
    ∃ cap' Z, (Builtin.append_ #[t, t] ty #[.slice A n c, .slice (some ad') m c']).run P w = .ok (.slice (some ⟨w.heap.size, 0, none⟩) (n + m) cap') (w.drew.alloc (.cells (olds ++ news ++ Z).toArray E)) ∧
      n + m ≤ cap' ∧ cap' ≤ maxLen ∧ (olds ++ news ++ Z).length = cap' * ei.sz := by
  have hk := (hI t _ ht).k
  simp only [TK.tie] at hk
  obtain ⟨i, z, hi, h2, h3, h4, h5⟩ := (hI E ei hE).info
  have hzs : z.cells.size = ei.sz := by rw [← Array.length_toList, h5, (hI E ei hE).len]
  have h63 : ((n + m : Nat) : Int) ≤ 9223372036854775807 := by unfold maxLen at hmax; omega
  have hzl : ∀ k, (Builtin.zeroCells z.cells k).size = k * ei.sz := by intro k; simp [Builtin.zeroCells, hzs]
  cases A with
  | none =>
    obtain ⟨rfl, rfl⟩ := hA0 rfl
    have ho : olds = [] := List.eq_nil_of_length_eq_zero (by simpa using hol)
    subst ho
    have hfit := growslice_fits (old := 0) (need := m) (bytes := i.bytes) hm (by rw [h3]; simpa using hby)
    rw [nextslicecap_zero hm] at hfit
    have := run_append_nil (P := P) w t ty E i z hk hi h4 ad' m c' news (by rw [h2]; exact hnl) hnews hm (by simpa using h63) hfit
    refine ⟨grownCap w m 0 E, (Builtin.zeroCells z.cells (grownCap w m 0 E - m)).toList, ?_, ?_, ?_, ?_⟩
    · have he : news.toArray ++ Builtin.zeroCells z.cells (grownCap w m 0 E - m) = ([] ++ news ++ (Builtin.zeroCells z.cells (grownCap w m 0 E - m)).toList).toArray := by apply Array.ext'; simp
      rw [this, he, Nat.zero_add]
    · have := grownCap_ge w m 0 E
      omega
    · exact grownCap_le_maxLen w m 0 E (by omega)
    · have h0 := grownCap_ge w m 0 E
      simp only [List.nil_append, List.length_append, Array.length_toList, hzl, hnl, ← Nat.add_mul]
      congr 1
      omega
  | some ad =>
    have hfit := growslice_fits (old := c) (need := n + m) (bytes := i.bytes) hgrow (by rw [h3]; exact hby)
    have := run_append_grow (P := P) w t ty E i z hk hi h4 ad n c olds (by rw [h2]; exact hol) (holds ad rfl) ad' m c' news (by rw [h2]; exact hnl) hnews hgrow h63 hfit
    refine ⟨grownCap w (n + m) c E, (Builtin.zeroCells z.cells (grownCap w (n + m) c E - (n + m))).toList, ?_, ?_, ?_, ?_⟩
    · have he : olds.toArray ++ news.toArray ++ Builtin.zeroCells z.cells (grownCap w (n + m) c E - (n + m)) = (olds ++ news ++ (Builtin.zeroCells z.cells (grownCap w (n + m) c E - (n + m))).toList).toArray := by apply Array.ext'; simp
      rw [this, he]
    · exact grownCap_ge w (n + m) c E
    · exact grownCap_le_maxLen w (n + m) c E hmax
    · have h0 := grownCap_ge w (n + m) c E
      simp only [List.length_append, Array.length_toList, hzl, hnl, hol, ← Nat.add_mul]
      congr 1
      omega

/-- A new row, which append has made. -/
theorem adv_grown (hv : Inv w g σ) {key : Nat} (hk : ¬ g.D key) (E sz n cap : Nat) (hsz : 0 < sz) (cs : List AV) (us : List Value) (hrow : Row w g cs us.toArray) (hcl : cs.length = n * sz) (Z : List Value) (hn : n ≤ cap) (hmax : cap ≤ maxLen) (hl : (us ++ Z).length = cap * sz) :
    Adv w g σ key (w.drew.alloc (.cells (us ++ Z).toArray E)) (g.add key ⟨some ⟨w.heap.size, 0, none⟩, cap⟩) (upd σ key (some (.row E sz n cs))) := by
  have hkeep : ∀ b, b < w.heap.size → (w.drew.alloc (.cells (us ++ Z).toArray E)).heap[b]? = w.heap[b]? := fun b hb => blk_old w.drew _ hb
  have hnew : (w.drew.alloc (.cells (us ++ Z).toArray E)).heap[w.heap.size]? = some (.cells (us ++ Z).toArray E) := blk_new w.drew _
  have hon : Onto w g (w.drew.alloc (.cells (us ++ Z).toArray E)) (g.add key ⟨some ⟨w.heap.size, 0, none⟩, cap⟩) := onto_add _ hk fun b hb => hkeep b (hv.vlt b hb)
  refine adv_new hv hk _ _ _ rfl rfl rfl (by simp) hkeep ?_ ?_
  · refine ⟨hcl, by simpa [G.add] using hn, by simpa [G.add] using hmax, hsz, .inr ⟨w.heap.size, _, by simp [G.add], hnew, by simpa [G.add] using hl, ?_, fun h => by have := hv.vlt _ h; omega⟩⟩
    refine Cells.onto hon fun j c hc => ?_
    obtain ⟨u, h1, h2⟩ := hrow.2 j c hc
    refine ⟨u, ?_, h2⟩
    simp only [List.getElem?_toArray] at h1 ⊢
    rw [List.getElem?_append_left (List.getElem?_eq_some_iff.1 h1).1]
    exact h1
  · intro b hb
    simp only [blockOf, G.add, if_true] at hb
    split at hb
    · cases hb
    · simp at hb
      omega

theorem make_sound (hI : I.Ok P) (hv : Inv w g σ) {key : Nat} (hk : ¬ g.D key) {t E sz0 by0 : Nat} {zz : List Value} {ei : TI} (ht : I t = some ⟨.sl E, sz0, by0, zz⟩) (hE : I E = some ei) (h0 : 0 < ei.sz) (k k2 : IntKind) (n m : Int) (hn0 : 0 ≤ n) (hnm : n ≤ m)
    (hm : m.toNat * ei.by_ ≤ 140737488355328) (hm2 : m.toNat ≤ 140737488355328) :
    Gives P (Instr.makeSlice t (.int k n) (.int k2 m)) w g σ key (.w key 0 n.toNat) (upd σ key (some (.row E ei.sz n.toNat (zrow (n.toNat * ei.sz) ei.sz (zeros ei))))) := by
  obtain ⟨m, rfl⟩ : ∃ q : Nat, m = (q : Int) := ⟨m.toNat, by omega⟩
  obtain ⟨n, rfl⟩ : ∃ q : Nat, n = (q : Int) := ⟨n.toNat, by omega⟩
  simp only [Int.toNat_natCast] at hm hm2 ⊢
  have hnm' : n ≤ m := by omega
  have hkt := (hI t _ ht).k
  simp only [TK.tie] at hkt
  obtain ⟨i, z, hi, h2, h3, h4, h5⟩ := (hI E ei hE).info
  have hl : ei.z.length = ei.sz := (hI E ei hE).len
  have hzs : z.cells.size = ei.sz := by rw [← Array.length_toList, h5, hl]
  have hb1 : ((i.bytes : Nat) : Int) * (m : Int) ≤ 281474976710656 := by
    rw [← Int.natCast_mul, h3, Nat.mul_comm]
    omega
  have hrun := run_make (P := P) w t E i z hkt hi h4 k k2 (n : Int) (m : Int) (by omega) hnm hb1 (by omega)
  simp only [Int.toNat_natCast, h2] at hrun
  have hkeep : ∀ b, b < w.heap.size → (w.alloc (.cells (madeCells z.cells (m * ei.sz)) E)).heap[b]? = w.heap[b]? := fun b hb => blk_old w _ hb
  have hnew : (w.alloc (.cells (madeCells z.cells (m * ei.sz)) E)).heap[w.heap.size]? = some (.cells (madeCells z.cells (m * ei.sz)) E) := blk_new w _
  have hon : Onto w g (w.alloc (.cells (madeCells z.cells (m * ei.sz)) E)) (g.add key ⟨some ⟨w.heap.size, 0, none⟩, m⟩) := onto_add _ hk fun b hb => hkeep b (hv.vlt b hb)
  refine ⟨_, _, _, hrun, adv_new hv hk ⟨some ⟨w.heap.size, 0, none⟩, m⟩ _ _ rfl rfl rfl (by simp) hkeep ?_ ?_, .w _ _ _ m _ (.inr rfl) hnm' (fun _ => by simp [G.add]) (fun _ => ⟨w.heap.size, by simp [G.add], rfl⟩)⟩
  · refine ⟨by simp [zrow], by simpa [G.add] using hnm', by simp [G.add, maxLen]; omega, h0, .inr ⟨w.heap.size, _, by simp [G.add], hnew, by simp [G.add, size_madeCells], ?_, fun h => by have := hv.vlt _ h; omega⟩⟩
    intro j c hc
    simp only [zrow, List.getElem?_map] at hc
    obtain ⟨j', hj, rfl⟩ := Option.map_eq_some_iff.1 hc
    obtain ⟨hlt, rfl⟩ := List.getElem?_eq_some_iff.1 hj
    simp only [List.length_range] at hlt
    simp only [List.getElem_range]
    have hm3 : j % ei.sz < ei.z.length := by rw [hl]; exact Nat.mod_lt _ h0
    have hle : n * ei.sz ≤ m * ei.sz := Nat.mul_le_mul_right _ hnm'
    refine ⟨ei.z[j % ei.sz], ?_, ?_⟩
    · have h6 : z.cells[j % ei.sz]! = ei.z[j % ei.sz] := by
        have h7 : z.cells[j % ei.sz]? = some ei.z[j % ei.sz] := by
          rw [← Array.getElem?_toList, h5]
          exact List.getElem?_eq_getElem hm3
        rw [getElem!_def, h7]
      unfold madeCells
      rw [Array.getElem?_map]
      have h8 : (Array.range (m * ei.sz))[j]? = some j := by
        rw [Array.getElem?_eq_getElem (by simp; omega)]
        simp
      rw [h8, hzs]
      simp only [Option.map_some, h6]
    · have : (zeros ei).getD (j % ei.sz) (.v undef) = ofC ei.z[j % ei.sz] := by
        unfold zeros
        rw [List.getD_eq_getElem?_getD, List.getElem?_map, List.getElem?_eq_getElem hm3]
        rfl
      rw [this]
      exact rep_ofC _
  · intro b hb
    simp only [blockOf, G.add, if_true] at hb
    split at hb
    · cases hb
    · simp at hb
      omega
/-- An empty slice cut with its capacity. -/
theorem cut3_sound (hI : I.Ok P) {t : TypeId} {x : AV} {u : Value} {lo hi : Option AV} {mx : AV} {vl vh : Option Value} {vm : Value} {z : AV} (hx : Rep w g x u)
    (hl : ∀ y, lo = some y → ∃ u, vl = some u ∧ Rep w g y u) (hl0 : lo = none → vl = none) (hh : ∀ y, hi = some y → ∃ u, vh = some u ∧ Rep w g y u) (hh0 : hi = none → vh = none) (hm : Rep w g mx vm) (h : cut3 I t x lo hi mx = some z) :
    ∃ r, (Instr.sliceAt t u vl vh (some vm)).run P w = .ok r w ∧ Rep w g z r := by
  unfold cut3 at h
  split at h
  case h_2 => cases h
  rename_i E a b c ht
  have hk := (hI t _ ht).k
  simp only [TK.tie] at hk
  obtain ⟨ei, hE, h⟩ := Option.bind_eq_some_iff.1 h
  have main : ∀ (n cap : Nat) (A : Option Addr), n ≤ cap → ((bound n (some mx) n).bind fun m => (bound m hi 0).bind fun h => (bound h lo 0).bind fun l => if m = l ∧ hi.isSome = true then some (AV.s true 0 []) else none) = some z →
      ∃ r, (Instr.sliceAt t (.slice A n cap) vl vh (some vm)).run P w = .ok r w ∧ Rep w g z r := by
    intro n cap A hnc h
    obtain ⟨m, h1, h⟩ := Option.bind_eq_some_iff.1 h
    obtain ⟨q, h2, h⟩ := Option.bind_eq_some_iff.1 h
    obtain ⟨l, h3, h⟩ := Option.bind_eq_some_iff.1 h
    split at h
    case isFalse => cases h
    rename_i hc
    obtain ⟨rfl, his⟩ := hc
    obtain rfl := Option.some.inj h
    obtain ⟨y, rfl⟩ := Option.isSome_iff_exists.1 his
    rcases bound_sound (v := some vm) (fun y hy => by obtain rfl := Option.some.inj hy; exact ⟨vm, rfl, hm⟩) (fun e => by cases e) h1 with ⟨e, _⟩ | ⟨k1, i1, e1, a1, a2, a3⟩
    · cases e
    obtain rfl := Option.some.inj e1
    rcases bound_sound hh hh0 h2 with ⟨e, _⟩ | ⟨k2, i2, rfl, b1, b2, rfl⟩
    · cases e
    have r1 : ∀ c, (Instr.sliceBound (.int k1 i1) cap c).run P w = .ok m w := fun c => by rw [a3]; exact run_sliceBound w k1 i1 cap c a1 (by omega)
    have r2 : ∀ c, (Instr.sliceBound (.int k2 i2) m c).run P w = .ok i2.toNat w := fun c => run_sliceBound w k2 i2 m c b1 b2
    have hb : (Instr.sliceBounds true n cap vl (some (.int k2 i2)) (some (.int k1 i1))).run P w = .ok (m, i2.toNat, m) w ∧ m = i2.toNat := by
      rcases bound_sound hl hl0 h3 with ⟨_, rfl, e⟩ | ⟨k3, i3, rfl, c1, c2, e⟩
      · refine ⟨?_, by omega⟩
        subst e
        simp [Instr.sliceBounds, r1, r2]
      · have r3 : ∀ c, (Instr.sliceBound (.int k3 i3) i2.toNat c).run P w = .ok m w := fun c => by rw [e]; exact run_sliceBound w k3 i3 i2.toNat c c1 c2
        refine ⟨?_, by omega⟩
        simp [Instr.sliceBounds, r1, r2, r3]
    obtain ⟨hb, hmq⟩ := hb
    refine ⟨.slice A 0 0, ?_, .s true 0 0 [] A (fun _ => undef) (Nat.le_refl _) (fun _ => rfl) (fun j x h => by simp at h) (fun j x h => by simp at h)⟩
    simp [Instr.sliceAt, Instr.slice, run_underlying hk, hb, run_sizeOf' hI hE, ← hmq]
  cases hx <;> simp only at h
  all_goals first
    | (cases h; done)
    | exact main _ _ _ (by assumption) h
end
end Go.Proofs.YtegbkihgnofkfaaGreatDoor.Ev

/-
The engine, part 11: builtins, conversions.
-/
namespace Go.Proofs.YtegbkihgnofkfaaGreatDoor.Ev
section
set_option linter.unusedVariables false
set_option linter.unusedSimpArgs false
open Go
set_option linter.unusedVariables false
set_option linter.unusedSimpArgs false
variable {P : Program} {I : Tab} {w : World} {g : G} {σ : Sto} {e : Nat → AV} {a : Act}

theorem append_s_sound (hI : I.Ok P) (hv : Inv w g σ) {key : Nat} (hk : ¬ g.D key) {t E ty : TypeId} {sz0 by0 : Nat} {zz : List Value} {ei : TI} (ht : I t = some ⟨.sl E, sz0, by0, zz⟩) (hE : I E = some ei)
    {n m : Nat} {cs news : List AV} {y : AV} {u v : Value} (hx : Rep w g (.s true n cs) u) (hy : Rep w g y v) (hsc : sliceCells σ ei.sz y = some (m, news)) (hsz : 0 < ei.sz) (hnl : news.length = m * ei.sz)
    (hcl : cs.length = n * ei.sz) (hmax : n + m ≤ maxLen) (hby : (n + m) * ei.by_ ≤ 140737488355328) :
    (m = 0 ∧ 0 < n → Gives P (Builtin.append_ #[t, t] ty #[u, v]) w g σ key (.s true n cs) σ) ∧
    (¬ (m = 0 ∧ 0 < n) → Gives P (Builtin.append_ #[t, t] ty #[u, v]) w g σ key (.w key 0 (n + m)) (upd σ key (some (.row E ei.sz (n + m) (cs ++ news))))) := by
  have hkk := (hI t _ ht).k
  simp only [TK.tie] at hkk
  obtain ⟨i, z, hi, _⟩ := (hI E ei hE).info
  obtain ⟨A', c', nv, rfl, hmc, hnr, hnc⟩ := sliceCells_sound hv hy hsc hnl hsz
  have hx' := hx
  cases hx with
  | s _ _ c _ A us hn he h1 h2 =>
    obtain rfl := he rfl
    refine ⟨fun hm => ?_, fun hm => ?_⟩
    · obtain ⟨rfl, hpos⟩ := hm
      exact Gives.same hv key (append_nothing hkk hi A A' c c c' (Nat.le_refl _)) hx'
    · by_cases hm0 : m = 0
      · subst hm0
        have hc0 : c = 0 := by omega
        subst hc0
        have hcs : cs = [] := List.eq_nil_of_length_eq_zero (by simpa using hcl)
        have hnn : news = [] := List.eq_nil_of_length_eq_zero (by simpa using hnl)
        subst hcs hnn
        refine ⟨.slice A 0 0, w, g.add key ⟨A, 0⟩, append_nothing hkk hi A A' 0 0 c' (Nat.le_refl _), ?_, ?_⟩
        · refine adv_new hv hk _ _ _ rfl rfl rfl (Nat.le_refl _) (fun _ _ => rfl) ?_ ?_
          · exact ⟨by simp, by simp, by simp [G.add], hsz, .inl (by simp [G.add])⟩
          · intro b hb
            simp [blockOf, G.add] at hb
        · exact .w _ _ _ _ _ (.inr rfl) (Nat.le_refl _) (fun _ => by simp [G.add]) (fun h => by omega)
      · rcases hnc with h0 | ⟨ad', rfl, hcell⟩
        · exact absurd h0 hm0
        have hA : ∃ olds : List Value, Row w g cs olds.toArray ∧ ∀ ad, A = some ad → ∀ j u, olds[j]? = some u → w.cell? (ad.add j) = some u := by
          refine ⟨(List.range cs.length).map us, ⟨by simp, fun j x hj => ?_⟩, fun ad hAd j u hj => ?_⟩
          · have hlt : j < cs.length := (List.getElem?_eq_some_iff.1 hj).1
            exact ⟨us j, by simp [hlt], h2 j x hj⟩
          · simp only [List.getElem?_map] at hj
            obtain ⟨k, hk', rfl⟩ := Option.map_eq_some_iff.1 hj
            have hlt : j < cs.length := by
              have := (List.getElem?_eq_some_iff.1 hk').1
              simpa using this
            rw [List.getElem?_range hlt] at hk'
            obtain rfl := Option.some.inj hk'
            obtain ⟨ad2, e2, _, hc⟩ := h1 j _ (List.getElem?_eq_getElem hlt)
            rw [hAd] at e2
            obtain rfl := Option.some.inj e2
            exact hc
        obtain ⟨olds, hor, hoc⟩ := hA
        have hA0 : A = none → c = 0 ∧ c = 0 := by
          rintro rfl
          by_cases hc : c = 0
          · exact ⟨hc, hc⟩
          · exfalso
            have hpos : 0 < cs.length := by rw [hcl]; exact Nat.mul_pos (by omega) hsz
            obtain ⟨ad2, e2, _⟩ := h1 0 _ (List.getElem?_eq_getElem hpos)
            cases e2
        have hol : olds.length = c * ei.sz := by
          have := hor.1
          simp only [List.size_toArray] at this
          omega
        have hnvl : nv.length = m * ei.sz := by
          have := hnr.1
          simp only [List.size_toArray] at this
          omega
        obtain ⟨cap', Z, hrun, hc1, hc2, hc3⟩ := append_grows (ty := ty) hI ht hE A c c m c' ad' olds nv hA0 hoc hol hcell hnvl (by omega) (by omega) hmax hby
        refine ⟨_, _, _, hrun, adv_grown hv hk E ei.sz (c + m) cap' hsz (cs ++ news) (olds ++ nv) (hor.append hnr) (by simp [hcl, hnl, Nat.add_mul]) Z hc1 hc2 hc3, ?_⟩
        exact .w _ _ _ _ _ (.inr rfl) hc1 (fun _ => by simp [G.add]) (fun _ => ⟨w.heap.size, by simp [G.add], rfl⟩)

theorem append_w_sound (hI : I.Ok P) (hv : Inv w g σ) {key : Nat} (hk : ¬ g.D key) {t E ty : TypeId} {sz0 by0 : Nat} {zz : List Value} {ei : TI} (ht : I t = some ⟨.sl E, sz0, by0, zz⟩) (hE : I E = some ei)
    {id n n0 m : Nat} {cs news : List AV} {y : AV} {u v : Value} (hx : Rep w g (.w id 0 n) u) (hs : σ id = some (.row E ei.sz n0 cs)) (hy : Rep w g y v) (hsc : sliceCells σ ei.sz y = some (m, news)) (hsz : 0 < ei.sz) (hnl : news.length = m * ei.sz)
    (hok : news.all leafOk = true) (hcl : n * ei.sz ≤ cs.length) (hmax : n + m ≤ maxLen) (hby : (n + m) * ei.by_ ≤ 140737488355328) :
    Gives P (Builtin.append_ #[t, t] ty #[u, v]) w g σ key (.w key 0 (n + m)) (upd (upd σ id none) key (some (.row E ei.sz (n + m) (cs.take (n * ei.sz) ++ news)))) := by
  have hkk := (hI t _ ht).k
  simp only [TK.tie] at hkk
  obtain ⟨i, z, hi, hi2, _⟩ := (hI E ei hE).info
  obtain ⟨A', c', nv, rfl, hmc, hnr, hnc⟩ := sliceCells_sound hv hy hsc hnl hsz
  have hne : id ≠ key := told_ne hv hk hs
  have htl : (cs.take (n * ei.sz)).length = n * ei.sz := by simp; omega
  have hnvl : nv.length = m * ei.sz := by
    have := hnr.1
    simp only [List.size_toArray] at this
    omega
  cases hx with
  | w _ _ _ c A hD hnc' h0 h1 =>
    obtain ⟨hA, hcap⟩ := h0 rfl
    obtain ⟨k1, k2, k3, k4, k5⟩ := hv.lies id _ hs
    have hn0 : n ≤ n0 := by
      rw [k1] at hcl
      exact Nat.le_of_mul_le_mul_right hcl hsz
    by_cases hm0 : m = 0
    · subst hm0
      have hnn : news = [] := List.eq_nil_of_length_eq_zero (by simpa using hnl)
      subst hnn
      refine ⟨.slice A n c, w, g.add key (g.ρ id), append_nothing hkk hi A A' n c c' hnc', ?_, ?_⟩
      · refine adv_move hv hk hs _ ?_ ?_
        · refine ⟨by simpa using htl, by simp [G.add]; omega, by simpa [G.add] using k3, hsz, ?_⟩
          rcases k5 with h | ⟨b, us, e1, e2, e3, e4, e5⟩
          · exact .inl (by simpa [G.add] using h)
          · refine .inr ⟨b, us, by simpa [G.add] using e1, e2, by simpa [G.add] using e3, ?_, e5⟩
            refine Cells.onto (onto_add _ hk fun b _ => rfl) fun j x hj => e4 j x ?_
            simp only [List.append_nil, List.getElem?_take] at hj
            split at hj
            · exact hj
            · cases hj
        · intro b hb
          simpa [blockOf, G.add] using hb
      · exact .w _ _ _ _ _ (.inr rfl) (by simpa using hnc') (fun _ => by simp [G.add, hA, hcap]) (fun h => by
          obtain ⟨b, e1, e2⟩ := h1 (by omega)
          exact ⟨b, by simpa [G.add] using e1, e2⟩)
    · rcases hnc with h | ⟨ad', rfl, hcell⟩
      · exact absurd h hm0
      -- the cells of the row, as they lie
      have hrow : ∃ olds : List Value, Row w g (cs.take (n * ei.sz)) olds.toArray ∧ (∀ ad, A = some ad → ∀ j u, olds[j]? = some u → w.cell? (ad.add j) = some u) ∧ (∀ us b, (g.ρ id).A = some ⟨b, 0, none⟩ → w.heap[b]? = some (.cells us E (0, 0)) → (g.ρ id).cap ≠ 0 → olds = us.toList.take (n * ei.sz)) := by
        rcases k5 with h | ⟨b, us, e1, e2, e3, e4, e5⟩
        · have hn : n = 0 := by omega
          subst hn
          exact ⟨[], by refine ⟨by simp, fun j x hj => by simp at hj⟩, fun ad _ j u hj => by simp at hj, fun _ _ _ _ h' => absurd h h'⟩
        · have hcu : cs.length ≤ us.size := by
            rw [k1, e3]
            exact Nat.mul_le_mul_right _ k2
          refine ⟨us.toList.take (n * ei.sz), ⟨by simp; omega, fun j x hj => ?_⟩, fun ad hAd j u hj => ?_, fun us' b' f1 f2 _ => ?_⟩
          · rw [List.getElem?_take] at hj
            split at hj
            · rename_i hlt
              obtain ⟨u, g1, g2⟩ := e4 j x hj
              exact ⟨u, by rw [List.getElem?_toArray, List.getElem?_take]; simpa [hlt] using g1, g2⟩
            · cases hj
          · rw [hA, e1] at hAd
            obtain rfl := Option.some.inj hAd
            rw [add_lit0, cell_at w b _ us E _ e2, Nat.zero_add]
            rw [List.getElem?_take] at hj
            split at hj
            · simpa using hj
            · cases hj
          · rw [e1] at f1
            simp only [Option.some.injEq, Addr.mk.injEq] at f1
            obtain ⟨rfl, -, -⟩ := f1
            rw [e2] at f2
            simp only [Option.some.injEq, Obj.cells.injEq] at f2
            obtain ⟨rfl, -, -⟩ := f2
            rfl
      obtain ⟨olds, hor, hoc, hoe⟩ := hrow
      have hol : olds.length = n * ei.sz := by
        have := hor.1
        simp only [List.size_toArray] at this
        omega
      by_cases hroom : n + m ≤ c
      · -- in place
        have hc0 : (g.ρ id).cap ≠ 0 := by omega
        rcases k5 with h | ⟨b, us, e1, e2, e3, e4, e5⟩
        · exact absurd h hc0
        have hfit : n * i.size + nv.length ≤ us.size := by
          rw [hi2, hnvl, e3, ← Nat.add_mul]
          exact Nat.mul_le_mul_right _ (by omega)
        have hone : ∀ v ∈ nv, v.oneCell' = true := by
          have := leaves_one hnr hok
          simpa using this
        have hrun := run_append_room (P := P) w t ty E i hkk hi b n c us e2 ad' m c' nv (by rw [hi2]; exact hnvl) hcell hone hroom hfit
        rw [hi2] at hrun
        have hold := hoe us b e1 e2 hc0
        have hsize : (us.toList.take (n * ei.sz) ++ nv ++ us.toList.drop (n * ei.sz + nv.length)).length = (g.ρ id).cap * ei.sz := by
          simp only [List.length_append, List.length_take, List.length_drop, Array.length_toList, e3]
          rw [hi2] at hfit
          rw [← e3]
          omega
        have honb := onto_setRow hv e5 (us.toList.take (n * ei.sz) ++ nv ++ us.toList.drop (n * ei.sz + nv.length)).toArray
        have hcells : Cells (w.setRow b (us.toList.take (n * ei.sz) ++ nv ++ us.toList.drop (n * ei.sz + nv.length)).toArray) g (cs.take (n * ei.sz) ++ news) (us.toList.take (n * ei.sz) ++ nv ++ us.toList.drop (n * ei.sz + nv.length)).toArray := by
          refine Cells.onto honb fun j x hj => ?_
          have hr2 := hor.append hnr
          rw [hold] at hr2
          obtain ⟨u, g1, g2⟩ := hr2.2 j x hj
          refine ⟨u, ?_, g2⟩
          simp only [List.getElem?_toArray] at g1 ⊢
          rw [List.getElem?_append_left (List.getElem?_eq_some_iff.1 g1).1]
          exact g1
        have hheap := setRow_heap w b us (us.toList.take (n * ei.sz) ++ nv ++ us.toList.drop (n * ei.sz + nv.length)).toArray E (0, 0) e2
        have hlen2 : (cs.take (n * ei.sz) ++ news).length = (n + m) * ei.sz := by rw [List.length_append, htl, hnl, Nat.add_mul]
        have hb0 : blockOf g id (.row E ei.sz n0 cs) = some b := by simp [blockOf, hc0, e1]
        have hb1 : blockOf g id (.row E ei.sz (n + m) (cs.take (n * ei.sz) ++ news)) = some b := by simp [blockOf, hc0, e1]
        have hl1 : Lies (w.setRow b (us.toList.take (n * ei.sz) ++ nv ++ us.toList.drop (n * ei.sz + nv.length)).toArray) g id (.row E ei.sz (n + m) (cs.take (n * ei.sz) ++ news)) :=
          ⟨hlen2, by omega, k3, hsz, .inr ⟨b, _, e1, hheap, by simpa using hsize, hcells, e5⟩⟩
        have hadv := adv_set hv key hs hb0 _ hl1 hb1
        have hs1 : (upd σ id (some (.row E ei.sz (n + m) (cs.take (n * ei.sz) ++ news)))) id = some (.row E ei.sz (n + m) (cs.take (n * ei.sz) ++ news)) := by simp [upd]
        have hadv2 := adv_move hadv.inv hk hs1 (.row E ei.sz (n + m) (cs.take (n * ei.sz) ++ news)) ?_ ?_
        · have hcomb := hadv.trans hadv2
          have hupd : upd (upd (upd σ id (some (.row E ei.sz (n + m) (cs.take (n * ei.sz) ++ news)))) id none) key (some (.row E ei.sz (n + m) (cs.take (n * ei.sz) ++ news))) = upd (upd σ id none) key (some (.row E ei.sz (n + m) (cs.take (n * ei.sz) ++ news))) := by
            funext k
            simp only [upd]
            split
            · rfl
            · split <;> rfl
          rw [hupd] at hcomb
          have hAb : A = some ⟨b, 0, none⟩ := hA.trans e1
          subst hAb
          refine ⟨_, _, _, hrun, hcomb, .w _ _ _ _ _ (.inr rfl) (by omega) (fun _ => by simp [G.add, e1, hcap]) (fun _ => ⟨b, by simp [G.add, e1], rfl⟩)⟩
        · refine ⟨hlen2, by simp [G.add]; omega, by simpa [G.add] using k3, hsz, .inr ⟨b, _, by simpa [G.add] using e1, hheap, by simpa [G.add] using hsize, ?_, e5⟩⟩
          exact Cells.onto (onto_add _ hk fun b _ => rfl) hcells
        · intro b' hb'
          simpa [blockOf, G.add] using hb'
      · -- a new row
        have hA0 : A = none → n = 0 ∧ c = 0 := by
          rintro rfl
          rcases k5 with h | ⟨b, us, e1, _⟩
          · exact ⟨by omega, by omega⟩
          · rw [← hA] at e1
            cases e1
        obtain ⟨cap', Z, hrun, hc1, hc2, hc3⟩ := append_grows (ty := ty) hI ht hE A n c m c' ad' olds nv hA0 hoc hol hcell hnvl (by omega) (by omega) hmax hby
        have hadv := adv_grown hv hk E ei.sz (n + m) cap' hsz (cs.take (n * ei.sz) ++ news) (olds ++ nv) (hor.append hnr) (by rw [List.length_append, htl, hnl, Nat.add_mul]) Z hc1 hc2 hc3
        have hadv2 := hadv.kill id
        rw [← upd_comm σ hne] at hadv2
        refine ⟨_, _, _, hrun, hadv2, .w _ _ _ _ _ (.inr rfl) hc1 (fun _ => by simp [G.add]) (fun _ => ⟨w.heap.size, by simp [G.add], rfl⟩)⟩
end
end Go.Proofs.YtegbkihgnofkfaaGreatDoor.Ev

/-
The engine, part 12: one operation that is no call of a function.
-/
namespace Go.Proofs.YtegbkihgnofkfaaGreatDoor.Ev
section
set_option linter.unusedVariables false
set_option linter.unusedSimpArgs false
open Go
set_option linter.unusedVariables false
set_option linter.unusedSimpArgs false
variable {P : Program} {I : Tab} {w : World} {g : G} {σ : Sto} {e : Nat → AV} {a : Act}

theorem bytesOf_spec : ∀ (cs : List AV) (l : List UInt8), bytesOf cs = some l → ∃ ns : List Int, cs = ns.map (fun n => AV.v (.int .u8 n)) ∧ l = ns.map fun n => UInt8.ofNat n.toNat
  | [], l, h => by
    simp only [bytesOf, Option.some.injEq] at h
    subst h
    exact ⟨[], rfl, rfl⟩
  | x :: cs, l, h => by
    unfold bytesOf at h
    split at h
    · rename_i h0
      cases h0
    · rename_i n cs' h0
      simp only [List.cons.injEq] at h0
      obtain ⟨rfl, rfl⟩ := h0
      obtain ⟨l', h1, rfl⟩ := Option.map_eq_some_iff.1 h
      obtain ⟨ns, rfl, rfl⟩ := bytesOf_spec _ _ h1
      exact ⟨n :: ns, rfl, rfl⟩
    · cases h

theorem push_fold : ∀ (ns : List Int) (r : ByteArray), ns.foldl (fun r n => r.push (UInt8.ofNat n.toNat)) r = ⟨r.data ++ (ns.map fun n => UInt8.ofNat n.toNat).toArray⟩
  | [], r => by simp
  | n :: ns, r => by
    rw [List.foldl_cons, push_fold ns]
    simp [ByteArray.push, Array.append_assoc]

theorem conv_sound (hI : I.Ok P) {s d : TypeId} {si di : TI} (hs : I s = some si) (hd : I d = some di) {x z : AV} {u : Value} (hx : Rep w g x u) (h : conv I si di x = some z) :
    ∃ r, (convert s d u).run P w = .ok r w ∧ Rep w g z r := by
  have hks := (hI s si hs).k
  have hkd := (hI d di hd).k
  have hus : ∃ q, P.underlying s = some q := by
    cases hk : si.k <;> rw [hk] at hks <;> simp only [TK.tie] at hks
    case st => obtain ⟨F, hF, _⟩ := hks; exact ⟨_, hF⟩
    case mp => obtain ⟨K, E, j, hF, _⟩ := hks; exact ⟨_, hF⟩
    all_goals exact ⟨_, hks⟩
  obtain ⟨q, hq⟩ := hus
  unfold conv at h
  split at h
  · obtain rfl := rep_v_inv hx
    split at h
    · rename_i hk
      rw [hk] at hkd
      simp only [TK.tie] at hkd
      obtain rfl := Option.some.inj h
      refine ⟨_, ?_, .v _⟩
      simp [convert, run_underlying hq, run_underlying hkd, Conv.intToInt]
    · cases h
  · obtain rfl := rep_v_inv hx
    split at h
    · rename_i h1 h2
      rw [h1] at hks
      rw [h2] at hkd
      simp only [TK.tie] at hks hkd
      obtain rfl := Option.some.inj h
      exact ⟨_, by simp [convert, run_underlying hks, run_underlying hkd], .v _⟩
    · cases h
  · rename_i ex n cs
    split at h
    · rename_i E h1 h2
      rw [h1] at hks
      rw [h2] at hkd
      simp only [TK.tie] at hks hkd
      split at h
      · rename_i hE
        have hkE := (hI E _ hE).k
        simp only [TK.tie] at hkE
        split at h
        · rename_i hlen
          obtain ⟨l, hl, rfl⟩ := Option.map_eq_some_iff.1 h
          obtain ⟨ns, rfl, rfl⟩ := bytesOf_spec _ _ hl
          cases hx with
          | s _ _ c _ A us hn he k1 k2 =>
            have hrun : (Conv.bytesToString (.slice A n c)).run P w = .ok (.string ⟨(ns.map fun n => UInt8.ofNat n.toNat).toArray⟩) w := by
              by_cases h0 : n = 0
              · have hns : ns = [] := List.eq_nil_of_length_eq_zero (by simp at hlen; omega)
                subst hns h0
                cases A with
                | none => simp [Conv.bytesToString, Sem.run_pure]; rfl
                | some ad =>
                  exact run_bytesToString (P := P) w ad 0 c [] (by simp [loadCells, loadCellsFrom, Sem.run_pure])
              · have hpos : 0 < (ns.map fun n => AV.v (.int .u8 n)).length := by omega
                obtain ⟨ad, rfl, _, _⟩ := k1 0 _ (List.getElem?_eq_getElem hpos)
                have hcell : ∀ j, j < n → w.cell? (ad.add j) = some (us j) := by
                  intro j hj
                  obtain ⟨ad', e1, _, e2⟩ := k1 j _ (List.getElem?_eq_getElem (by omega))
                  obtain rfl := Option.some.inj e1
                  exact e2
                have hload := run_loadCells (P := P) w ad n us hcell
                have heq : ((List.range n).map us).toArray = (ns.map (Value.int .u8)).toArray := by
                  congr 1
                  apply List.ext_getElem?
                  intro j
                  by_cases hj : j < n
                  · have hjl : j < ns.length := by simp at hlen; omega
                    have hr := k2 j (.v (.int .u8 ns[j])) (by simp [hjl])
                    have := rep_v_inv hr
                    simp [hj, hjl, this]
                  · have hjl : ¬ j < ns.length := by simp at hlen; omega
                    rw [List.getElem?_eq_none (by simp; omega), List.getElem?_eq_none (by simp; omega)]
                rw [heq] at hload
                have := run_bytesToString (P := P) w ad n c ns hload
                rw [this, push_fold]
                have he : (ByteArray.empty.data : Array UInt8) = #[] := rfl
                rw [he, Array.empty_append]
            refine ⟨_, ?_, .v _⟩
            simp [convert, run_underlying hks, run_underlying hkd, run_underlying hkE, hrun]
        · cases h
      · cases h
    · cases h
  · cases h

theorem mx2_sound (m : Bool) (ty : TypeId) (tys : Array TypeId) {x y z : AV} {u v : Value} (hx : Rep w g x u) (hy : Rep w g y v) (h : mx2 m x y = some z) :
    ∃ r, (if m then Builtin.max_ tys ty #[u, v] else Builtin.min_ tys ty #[u, v]).run P w = .ok r w ∧ Rep w g z r := by
  unfold mx2 at h
  split at h
  · obtain rfl := rep_v_inv hx
    obtain rfl := rep_v_inv hy
    obtain rfl := Option.some.inj h
    cases m
    · exact ⟨_, by simp [Builtin.min_, Builtin.min2, List.foldlM], .v _⟩
    · exact ⟨_, by simp [Builtin.max_, Builtin.max2, List.foldlM], .v _⟩
  · cases h

theorem builtin_sound (hI : I.Ok P) (hv : Inv w g σ) {key : Nat} (hk : ¬ g.D key) (b : Builtin) (tys : Array TypeId) (ty : TypeId) (consts : Array Bool) {xs : List AV} {us : List Value} {z : AV} {σ1 : Sto}
    (hus : us.length = xs.length) (hr : ∀ (j : Nat) (x : AV) (u : Value), xs[j]? = some x → us[j]? = some u → Rep w g x u) (h : builtinOf I σ key b tys xs = some (z, σ1)) :
    ∃ u w1 g1, (builtin b tys ty consts us.toArray).run P w = .ok (.value u) w1 ∧ Adv w g σ key w1 g1 σ1 ∧ Rep w1 g1 z u := by
  unfold builtinOf at h
  split at h
  · -- len
    rename_i x
    obtain ⟨u, rfl⟩ : ∃ u, us = [u] := by
      match us, hus with
      | [u], _ => exact ⟨u, rfl⟩
    have hx := hr 0 x u rfl rfl
    split at h
    · rename_i t ht
      split at h
      · rename_i hIt
        have hkt := (hI t _ hIt).k
        simp only [TK.tie] at hkt
        split at h
        · obtain rfl := rep_v_inv hx
          simp only [Option.some.injEq, Prod.mk.injEq] at h
          obtain ⟨rfl, rfl⟩ := h
          exact ⟨_, w, g, by simp [builtin, Builtin.len_, ht, run_underlying hkt, goInt], Adv.same hv key, .v _⟩
        · cases h
      · rename_i hIt
        have hkt := (hI t _ hIt).k
        simp only [TK.tie] at hkt
        split at h
        · simp only [Option.some.injEq, Prod.mk.injEq] at h
          obtain ⟨rfl, rfl⟩ := h
          cases hx with
          | s ex n c cs A us hn he k1 k2 => exact ⟨_, w, g, by simp [builtin, Builtin.len_, ht, run_underlying hkt, goInt], Adv.same hv key, .v _⟩
        · simp only [Option.some.injEq, Prod.mk.injEq] at h
          obtain ⟨rfl, rfl⟩ := h
          cases hx with
          | w id lo n c A hD hn h0 h1 => exact ⟨_, w, g, by simp [builtin, Builtin.len_, ht, run_underlying hkt, goInt], Adv.same hv key, .v _⟩
        · cases h
      · cases h
    · cases h
  · -- max
    rename_i x y
    obtain ⟨u, v, rfl⟩ : ∃ u v, us = [u, v] := by
      match us, hus with
      | [u, v], _ => exact ⟨u, v, rfl⟩
    obtain ⟨z', hz, hzz⟩ := Option.map_eq_some_iff.1 h
    simp only [Prod.mk.injEq] at hzz
    obtain ⟨rfl, rfl⟩ := hzz
    obtain ⟨r, h1, h2⟩ := mx2_sound (P := P) true ty tys (hr 0 x u rfl rfl) (hr 1 y v rfl rfl) hz
    simp only [if_true] at h1
    exact ⟨r, w, g, by simp [builtin, h1], Adv.same hv key, h2⟩
  · -- min
    rename_i x y
    obtain ⟨u, v, rfl⟩ : ∃ u v, us = [u, v] := by
      match us, hus with
      | [u, v], _ => exact ⟨u, v, rfl⟩
    obtain ⟨z', hz, hzz⟩ := Option.map_eq_some_iff.1 h
    simp only [Prod.mk.injEq] at hzz
    obtain ⟨rfl, rfl⟩ := hzz
    obtain ⟨r, h1, h2⟩ := mx2_sound (P := P) false ty tys (hr 0 x u rfl rfl) (hr 1 y v rfl rfl) hz
    simp only [Bool.false_eq_true, if_false] at h1
    exact ⟨r, w, g, by simp [builtin, h1], Adv.same hv key, h2⟩
  · -- append
    rename_i x y
    obtain ⟨u, v, rfl⟩ : ∃ u v, us = [u, v] := by
      match us, hus with
      | [u, v], _ => exact ⟨u, v, rfl⟩
    have hx := hr 0 x u rfl rfl
    have hy := hr 1 y v rfl rfl
    have lift : ∀ {s : Sem Value} {q : AV} {σ2 : Sto}, Gives P s w g σ key q σ2 → ∃ u w1 g1, (do pure (Next.value (← s)) : Sem Next).run P w = .ok (.value u) w1 ∧ Adv w g σ key w1 g1 σ2 ∧ Rep w1 g1 q u := by
      rintro s q σ2 ⟨u, w1, g1, h1, h2, h3⟩
      exact ⟨u, w1, g1, by simp [h1], h2, h3⟩
    split at h
    · rename_i htys
      obtain ⟨t, rfl⟩ : ∃ t, tys = #[t, t] := ⟨_, htys⟩
      simp only [show (#[t, t] : Array Nat).getD 0 0 = t from rfl] at h
      split at h
      · rename_i E sz0 by0 zz ht
        split at h
        · rename_i ei hE
          split at h
          · rename_i m news hsc
            split at h
            · rename_i hc
              obtain ⟨hsz, hnl, hok⟩ := hc
              split at h
              · rename_i n cs
                split at h
                · rename_i hc2
                  obtain ⟨hcl, hmax, hby⟩ := hc2
                  have hs := append_s_sound (ty := ty) hI hv hk ht hE hx hy hsc hsz hnl hcl hmax hby
                  split at h
                  · rename_i hm
                    simp only [Option.some.injEq, Prod.mk.injEq] at h
                    obtain ⟨rfl, rfl⟩ := h
                    exact lift (hs.1 hm)
                  · rename_i hm
                    simp only [Option.some.injEq, Prod.mk.injEq] at h
                    obtain ⟨rfl, rfl⟩ := h
                    exact lift (hs.2 hm)
                · cases h
              · rename_i id n
                split at h
                · rename_i E' sz' n0 cs hs
                  split at h
                  · rename_i hc2
                    obtain ⟨rfl, rfl, hcl, hmax, hby, hne⟩ := hc2
                    simp only [Option.some.injEq, Prod.mk.injEq] at h
                    obtain ⟨rfl, rfl⟩ := h
                    exact lift (append_w_sound (ty := ty) hI hv hk ht hE hx hs hy hsc hsz hnl hok hcl hmax hby)
                  · cases h
                · cases h
              · cases h
            · cases h
          · cases h
        · cases h
      · cases h
    · cases h
  · cases h
end
end Go.Proofs.YtegbkihgnofkfaaGreatDoor.Ev

/-
The engine, part 13: a call of a function; one operation, all kinds.
-/
namespace Go.Proofs.YtegbkihgnofkfaaGreatDoor.Ev
section
set_option linter.unusedVariables false
set_option linter.unusedSimpArgs false
open Go Go.RowKit
set_option linter.unusedVariables false
set_option linter.unusedSimpArgs false
variable {P : Program} {I : Tab} {w : World} {g : G} {σ : Sto} {e : Nat → AV} {a : Act}

def gV (V : Nat → Prop) : G := ⟨V, fun _ => ⟨none, 0⟩, fun _ => False⟩

theorem closedL_mem : ∀ (cs : List AV), closedL cs = true → ∀ (j : Nat) (c : AV), cs[j]? = some c → closed c = true
  | [], _, j, c, h => by simp at h
  | x :: cs, hc, j, c, h => by
    simp only [closedL, Bool.and_eq_true] at hc
    cases j with
    | zero => simp at h; subst h; exact hc.1
    | succ j => exact closedL_mem cs hc.2 j c (by simpa using h)

/-- A closed value is as it is wherever its blocks are told. -/
theorem Rep.closed_to {g' : G} {x : AV} {u : Value} (h : Rep w g x u) (hc : closed x = true) (hV : ∀ b, g.V b → g'.V b) : Rep w g' x u := by
  induction h with
  | v x => exact .v x
  | p cs ad us hV' h1 _ ih =>
    simp only [closed] at hc
    exact .p cs ad us (hV _ hV') h1 (fun j c hj => ih j c hj (closedL_mem cs hc j c hj))
  | s ex n c cs A us hn he h1 _ ih =>
    simp only [closed] at hc
    exact .s ex n c cs A us hn he (fun j x hj => by
      obtain ⟨ad, e1, e2, e3⟩ := h1 j x hj
      exact ⟨ad, e1, hV _ e2, e3⟩) (fun j c hj => ih j c hj (closedL_mem cs hc j c hj))
  | r => simp [closed] at hc
  | w => simp [closed] at hc
  | a cs vs us hs h1 _ ih =>
    simp only [closed] at hc
    exact .a cs vs us hs h1 (fun j c hj => ih j c hj (closedL_mem cs hc j c hj))
  | t xs vs us hs h1 _ ih =>
    simp only [closed] at hc
    exact .t xs vs us hs h1 (fun j c hj => ih j c hj (closedL_mem xs hc j c hj))
  | m f b clock es hV' hb hf => exact .m f b clock es (hV _ hV') hb hf

/-- A result: a row handed over lies in a block of its own (B). -/
def Res1 (w : World) (V : Nat → Prop) : AV → Value → List Nat → Prop
  | .o E sz n cs, u, B => ∃ A c, u = .slice A n c ∧ cs.length = n * sz ∧ n ≤ c ∧ c ≤ maxLen ∧ 0 < sz ∧ closedL cs = true ∧
      ((c = 0 ∧ B = []) ∨ ∃ b vs, B = [b] ∧ A = some ⟨b, 0, none⟩ ∧ w.heap[b]? = some (.cells vs E (0, 0)) ∧ vs.size = c * sz ∧ Cells w (gV V) cs vs ∧ ¬ V b)
  | x, u, B => B = [] ∧ closed x = true ∧ Rep w (gV V) x u
inductive ResL (w : World) (V : Nat → Prop) : List AV → List Value → List Nat → Prop
  | nil : ResL w V [] [] []
  | cons {x u B xs us Bs} (h : Res1 w V x u B) (k : ResL w V xs us Bs) : ResL w V (x :: xs) (u :: us) (B ++ Bs)
def Res (w : World) (V : Nat → Prop) : AV → Value → List Nat → Prop
  | .t xs, u, B => ∃ us, u = .tuple us ∧ ResL w V xs us.toList B
  | x, u, B => Res1 w V x u B

/-- What a call of f gives, for arguments that never change. -/
def PureOk (P : Program) (f : FuncId) (args : List AV) (x : AV) : Prop :=
  (∃ fn, P.funcs[f]? = some fn ∧ (fn.name == "runtime.NumGoroutine") = false ∧ fn.body.isNone = false) ∧
  ∀ (w : World) (V : Nat → Prop) (us : List Value), (∀ b, V b → b < w.heap.size) → us.length = args.length → (∀ (j : Nat) (y : AV) (u : Value), args[j]? = some y → us[j]? = some u → Rep w (gV V) y u) →
    Calls P f us.toArray w fun en w' => ∃ V' u B, en = .returned u ∧ Below w.heap.size w w' ∧ (∀ b, V b → V' b) ∧ (∀ b, V' b → (V b ∨ w.heap.size ≤ b) ∧ b < w'.heap.size) ∧ Res w' V' x u B ∧ B.Nodup ∧ ∀ b ∈ B, w.heap.size ≤ b ∧ b < w'.heap.size

/-- Another number taken in, behind a step. -/
theorem Adv.adopt {key k : Nat} {w1 : World} {g1 : G} {σ1 : Sto} (h : Adv w g σ key w1 g1 σ1) (hk : ¬ g1.D k) (hkr : key ≤ k ∧ k < key + 4) (c : CR) (s : Slot) (hl : Lies w1 (g1.add k c) k s)
    (hb : ∀ b, blockOf (g1.add k c) k s = some b → (w.heap.size ≤ b ∨ ∃ j0 t0, σ j0 = some t0 ∧ blockOf g j0 t0 = some b) ∧ ∀ j t, σ1 j = some t → blockOf g1 j t ≠ some b) : Adv w g σ key w1 (g1.add k c) (upd σ1 k (some s)) := by
  have hon : Onto w1 g1 w1 (g1.add k c) := onto_add c hk fun _ _ => rfl
  have hv := h.inv
  refine ⟨h.onto.trans hon, ⟨hv.vlt, fun i t hi => ?_, fun i t hi => ?_, fun i j t u b hij hi hj hib => ?_⟩, h.os, h.tape, h.output, h.size, h.keep, h.newV, fun i t b hi hib => ?_, fun i hi => ?_⟩
  · by_cases e : i = k
    · subst e
      simp only [upd, if_true, Option.some.injEq] at hi
      subst hi
      exact hl
    · simp only [upd, e, if_false] at hi
      exact (hv.lies i t hi).onto hon (hv.told i t hi) fun b hb => ⟨rfl, ((hv.lies i t hi).lt hb).2⟩
  · by_cases e : i = k
    · exact .inr e
    · simp only [upd, e, if_false] at hi
      exact .inl (hv.told i t hi)
  · by_cases e : i = k
    · subst e
      simp only [upd, if_true, Option.some.injEq] at hi
      subst hi
      have hj' : σ1 j = some u := by simpa [upd, Ne.symm hij] using hj
      rw [blockOf_add c (Ne.symm hij)]
      exact (hb b hib).2 j u hj'
    · have hi' : σ1 i = some t := by simpa [upd, e] using hi
      rw [blockOf_add c e] at hib
      by_cases e2 : j = k
      · subst e2
        simp only [upd, if_true, Option.some.injEq] at hj
        subst hj
        intro h2
        exact (hb b h2).2 i t hi' hib
      · have hj' : σ1 j = some u := by simpa [upd, e2] using hj
        rw [blockOf_add c e2]
        exact hv.apart i j t u b hij hi' hj' hib
  · by_cases e : i = k
    · subst e
      simp only [upd, if_true, Option.some.injEq] at hi
      subst hi
      exact (hb b hib).1
    · have hi' : σ1 i = some t := by simpa [upd, e] using hi
      rw [blockOf_add c e] at hib
      exact h.live i t b hi' hib
  · rcases hi with h2 | h2
    · exact h.newD i h2
    · exact .inr (h2 ▸ hkr)

theorem adopt1_sound {key k : Nat} {w1 : World} {g1 : G} {σ1 : Sto} (h : Adv w g σ key w1 g1 σ1) (hk : ¬ g1.D k) (hkr : key ≤ k ∧ k < key + 4) {x y : AV} {u : Value} {B : List Nat} {σ2 : Sto}
    (hr : Res1 w1 g1.V x u B) (hB : ∀ b ∈ B, (w.heap.size ≤ b ∨ ∃ j0 t0, σ j0 = some t0 ∧ blockOf g j0 t0 = some b) ∧ ∀ j t, σ1 j = some t → blockOf g1 j t ≠ some b) (ha : adopt1 σ1 k x = some (y, σ2)) :
    ∃ g2, Adv w g σ key w1 g2 σ2 ∧ Rep w1 g2 y u ∧ Onto w1 g1 w1 g2 ∧ g2.V = g1.V ∧ (∀ i, g2.D i → g1.D i ∨ i = k) ∧ (∀ j t b, σ2 j = some t → blockOf g2 j t = some b → b ∈ B ∨ ∃ j0 t0, σ1 j0 = some t0 ∧ blockOf g1 j0 t0 = some b) := by
  have closed_case : closed x = true → adopt1 σ1 k x = some (x, σ1) → Rep w1 (gV g1.V) x u → ∃ g2, Adv w g σ key w1 g2 σ2 ∧ Rep w1 g2 y u ∧ Onto w1 g1 w1 g2 ∧ g2.V = g1.V ∧ (∀ i, g2.D i → g1.D i ∨ i = k) ∧ (∀ j t b, σ2 j = some t → blockOf g2 j t = some b → b ∈ B ∨ ∃ j0 t0, σ1 j0 = some t0 ∧ blockOf g1 j0 t0 = some b) := by
    intro hc ha' hrep
    rw [ha'] at ha
    simp only [Option.some.injEq, Prod.mk.injEq] at ha
    obtain ⟨rfl, rfl⟩ := ha
    exact ⟨g1, h, hrep.closed_to hc (fun _ h => h), Onto.refl _ _, rfl, fun i hi => .inl hi, fun j t b hj hb => .inr ⟨j, t, hj, hb⟩⟩
  cases x
  case o E sz n cs =>
    obtain ⟨A, c, rfl, hl, hn, hm, hsz, hcc, hb⟩ := hr
    simp only [adopt1, hcc, if_true, Option.some.injEq, Prod.mk.injEq] at ha
    obtain ⟨rfl, rfl⟩ := ha
    have hon : Onto w1 g1 w1 (g1.add k ⟨A, c⟩) := onto_add _ hk fun _ _ => rfl
    have hlies : Lies w1 (g1.add k ⟨A, c⟩) k (.row E sz n cs) := by
      refine ⟨hl, by simpa [G.add] using hn, by simpa [G.add] using hm, hsz, ?_⟩
      rcases hb with ⟨h0, _⟩ | ⟨b, vs, _, e1, e2, e3, e4, e5⟩
      · exact .inl (by simpa [G.add] using h0)
      · refine .inr ⟨b, vs, by simpa [G.add] using e1, e2, by simpa [G.add] using e3, fun j x hj => ?_, e5⟩
        obtain ⟨v, f1, f2⟩ := e4 j x hj
        exact ⟨v, f1, f2.closed_to (closedL_mem cs hcc j x hj) (fun _ h => h)⟩
    have hblk : ∀ b, blockOf (g1.add k ⟨A, c⟩) k (.row E sz n cs) = some b → b ∈ B := by
      intro b hb'
      simp only [blockOf, G.add, if_true] at hb'
      split at hb'
      · cases hb'
      · rcases hb with ⟨h0, _⟩ | ⟨b2, vs, e0, e1, _⟩
        · contradiction
        · rw [e1] at hb'
          simp only [Option.map_some, Option.some.injEq] at hb'
          rw [e0, ← hb']
          simp
    refine ⟨_, h.adopt hk hkr ⟨A, c⟩ (.row E sz n cs) hlies (fun b hb' => hB b (hblk b hb')), ?_, hon, rfl, fun i hi => hi, fun j t b hj hb' => ?_⟩
    · refine .w _ _ _ _ _ (.inr rfl) hn (fun _ => by simp [G.add]) (fun hp => ?_)
      rcases hb with ⟨h0, _⟩ | ⟨b2, vs, e0, e1, _⟩
      · omega
      · exact ⟨b2, by simpa [G.add] using e1, e1⟩
    · by_cases e : j = k
      · subst e
        simp only [upd, if_true, Option.some.injEq] at hj
        subst hj
        exact .inl (hblk b hb')
      · have hj' : σ1 j = some t := by simpa [upd, e] using hj
        rw [blockOf_add _ e] at hb'
        exact .inr ⟨j, t, hj', hb'⟩
  all_goals
    obtain ⟨_, hc, hrep⟩ := hr
    first
      | exact closed_case hc (by simp only [adopt1, hc, if_true]) hrep
      | (simp [closed] at hc)

theorem adoptL_sound {key : Nat} : ∀ (xs : List AV) (us : List Value) (B : List Nat) (k : Nat) (w1 : World) (g1 : G) (σ1 σ2 : Sto) (ys : List AV), Adv w g σ key w1 g1 σ1 → (∀ i, k ≤ i → i < key + 4 → ¬ g1.D i) → key ≤ k → k + xs.length ≤ key + 4 →
    ResL w1 g1.V xs us B → B.Nodup → (∀ b ∈ B, (w.heap.size ≤ b ∨ ∃ j0 t0, σ j0 = some t0 ∧ blockOf g j0 t0 = some b) ∧ ∀ j t, σ1 j = some t → blockOf g1 j t ≠ some b) → adoptL σ1 k xs = some (ys, σ2) →
    ∃ g2, Adv w g σ key w1 g2 σ2 ∧ Onto w1 g1 w1 g2 ∧ ys.length = us.length ∧ ∀ (j : Nat) (y : AV) (u : Value), ys[j]? = some y → us[j]? = some u → Rep w1 g2 y u
  | [], us, B, k, w1, g1, σ1, σ2, ys, h, hD, hk, hkl, hr, hnd, hB, ha => by
    cases hr
    simp only [adoptL, Option.some.injEq, Prod.mk.injEq] at ha
    obtain ⟨rfl, rfl⟩ := ha
    exact ⟨g1, h, Onto.refl _ _, rfl, fun j y u hj => by simp at hj⟩
  | x :: xs, _, _, k, w1, g1, σ1, σ2, ys, h, hD, hk, hkl, .cons (u := u) (B := B) (us := us) (Bs := Bs) hr1 hr2, hnd, hB, ha => by
    simp only [List.length_cons] at hkl
    simp only [adoptL] at ha
    obtain ⟨⟨y, σ3⟩, ha1, ha2⟩ := Option.bind_eq_some_iff.1 ha
    obtain ⟨⟨ys', σ4⟩, ha3, ha4⟩ := Option.map_eq_some_iff.1 ha2
    simp only [Prod.mk.injEq] at ha4
    obtain ⟨rfl, rfl⟩ := ha4
    rw [List.nodup_append] at hnd
    obtain ⟨g2, h2, hrep, hon, hV, hDD, hlv⟩ := adopt1_sound h (hD k (Nat.le_refl _) (by omega)) ⟨hk, by omega⟩ hr1 (fun b hb => hB b (List.mem_append_left _ hb)) ha1
    obtain ⟨g3, h3, hon3, hlen, hreps⟩ := adoptL_sound xs us Bs (k + 1) w1 g2 σ3 σ4 ys' h2 (fun i h4 h5 h6 => by
      rcases hDD i h6 with h7 | h7
      · exact hD i (by omega) h5 h7
      · omega) (by omega) (by omega) (by rw [hV]; exact hr2) hnd.2.1 (fun b hb => ⟨(hB b (List.mem_append_right _ hb)).1, fun j t hj hbl => by
        rcases hlv j t b hj hbl with h7 | ⟨j0, t0, h7, h8⟩
        · exact hnd.2.2 b h7 b hb rfl
        · exact (hB b (List.mem_append_right _ hb)).2 j0 t0 h7 h8⟩) ha3
    refine ⟨g3, h3, hon.trans hon3, by simp [hlen], fun j y' u' hj hu => ?_⟩
    cases j with
    | zero =>
      simp at hj hu
      subst hj hu
      exact hrep.onto hon3
    | succ j => exact hreps j y' u' (by simpa using hj) (by simpa using hu)

theorem resL_all {w : World} {V : Nat → Prop} : ∀ {xs : List AV} {us : List Value} {B : List Nat}, ResL w V xs us B → closedL xs = true → xs.length = us.length ∧ ∀ (g : G), g.V = V → ∀ (j : Nat) (y : AV) (u : Value), xs[j]? = some y → us[j]? = some u → Rep w g y u
  | _, _, _, .nil, _ => ⟨rfl, fun g hg j y u hj => by simp at hj⟩
  | x :: xs, _, _, .cons (u := u) h k, hc => by
    simp only [closedL, Bool.and_eq_true] at hc
    obtain ⟨h1, h2⟩ := resL_all k hc.2
    refine ⟨by simp [h1], fun g hg j y v hj hv => ?_⟩
    cases j with
    | zero =>
      simp only [List.getElem?_cons_zero, Option.some.injEq] at hj hv
      subst hj hv
      have hx := hc.1
      cases x
      case o => simp [closed] at hx
      all_goals
        obtain ⟨_, _, hr⟩ := h
        exact hr.closed_to hx (fun b hb => by rw [hg]; exact hb)
    | succ j => exact h2 g hg j y v (by simpa using hj) (by simpa using hv)

theorem adopt_sound {x : AV} {key k : Nat} {w1 : World} {g1 : G} {σ1 : Sto} (h : Adv w g σ key w1 g1 σ1) (hD : ∀ i, k ≤ i → i < key + 4 → ¬ g1.D i) (hk : key ≤ k) (hkr : k + room x ≤ key + 4) {y : AV} {u : Value} {B : List Nat} {σ2 : Sto}
    (hr : Res w1 g1.V x u B) (hnd : B.Nodup) (hB : ∀ b ∈ B, (w.heap.size ≤ b ∨ ∃ j0 t0, σ j0 = some t0 ∧ blockOf g j0 t0 = some b) ∧ ∀ j t, σ1 j = some t → blockOf g1 j t ≠ some b) (ha : adopt σ1 k x = some (y, σ2)) :
    ∃ g2, Adv w g σ key w1 g2 σ2 ∧ Rep w1 g2 y u := by
  have one : ∀ {x : AV}, Res1 w1 g1.V x u B → k < key + 4 → adopt1 σ1 k x = some (y, σ2) → ∃ g2, Adv w g σ key w1 g2 σ2 ∧ Rep w1 g2 y u := by
    intro x hr hlt ha
    obtain ⟨g2, h2, hrep, _⟩ := adopt1_sound h (hD k (Nat.le_refl _) hlt) ⟨hk, hlt⟩ hr hB ha
    exact ⟨g2, h2, hrep⟩
  cases x
  case t xs =>
    obtain ⟨us, rfl, hrl⟩ := hr
    simp only [adopt] at ha
    by_cases hcl : closedL xs = true
    · rw [if_pos hcl] at ha
      simp only [Option.some.injEq, Prod.mk.injEq] at ha
      obtain ⟨rfl, rfl⟩ := ha
      obtain ⟨hl, hreps⟩ := resL_all hrl hcl
      refine ⟨g1, h, .t _ _ (fun j => us.getD j undef) (by simpa using hl.symm) (fun j c hj => ?_) (fun j c hj => ?_)⟩
      · have hlt : j < us.size := by
          have := (List.getElem?_eq_some_iff.1 hj).1
          simp at hl
          omega
        simp [Array.getD_eq_getD_getElem?, hlt]
      · have hlt : j < us.size := by
          have := (List.getElem?_eq_some_iff.1 hj).1
          simp at hl
          omega
        have := hreps g1 rfl j c us[j] hj (by simp [hlt])
        simpa [Array.getD_eq_getD_getElem?, hlt] using this
    rw [if_neg hcl] at ha
    simp only [room, if_neg hcl] at hkr
    split at ha
    · rename_i hlen
      obtain ⟨⟨ys, σ3⟩, ha1, ha2⟩ := Option.map_eq_some_iff.1 ha
      simp only [Prod.mk.injEq] at ha2
      obtain ⟨rfl, rfl⟩ := ha2
      obtain ⟨g2, h2, _, hl, hreps⟩ := adoptL_sound xs us.toList B k w1 g1 σ1 σ3 ys h hD hk hkr hrl hnd hB ha1
      refine ⟨g2, h2, .t _ _ (fun j => us.getD j undef) (by simpa using hl.symm) (fun j c hj => ?_) (fun j c hj => ?_)⟩
      · have hlt : j < us.size := by
          have := (List.getElem?_eq_some_iff.1 hj).1
          simp at hl
          omega
        simp [Array.getD_eq_getD_getElem?, hlt]
      · have hlt : j < us.size := by
          have := (List.getElem?_eq_some_iff.1 hj).1
          simp at hl
          omega
        have := hreps j c us[j] hj (by simp [hlt])
        simpa [Array.getD_eq_getD_getElem?, hlt] using this
    · cases ha
  case v q => exact one (x := .v q) hr (by simp only [room] at hkr; omega) ha
  case m q => exact one (x := .m q) hr (by simp only [room] at hkr; omega) ha
  case p cs => exact one (x := .p cs) hr (by simp only [room] at hkr; omega) ha
  case s ex n cs => exact one (x := .s ex n cs) hr (by simp only [room] at hkr; omega) ha
  case r id off => exact one (x := .r id off) hr (by simp only [room] at hkr; omega) ha
  case w id lo n => exact one (x := .w id lo n) hr (by simp only [room] at hkr; omega) ha
  case o E sz n cs => exact one (x := .o E sz n cs) hr (by simp only [room] at hkr; omega) ha
  case a cs => exact one (x := .a cs) hr (by simp only [room] at hkr; omega) ha
end
end Go.Proofs.YtegbkihgnofkfaaGreatDoor.Ev
