/- A symbolic executor for Go code in the model, proved sound for any program: expressions, abstract values, blocks, trees of outcomes, reading operations. No condition. -/
import Derived.RangeFuncIn
import Derived.OrdersIn
import Derived.Below
import Derived.KernelRfl
import Derived.Laws.Strings
import Derived.Laws.Cells
import Derived.Laws.Rows
namespace Go.Ex
open Go Go.RowKit

/-- Scalars that symbolic variables stand for. -/
inductive Sc where
  | i (n : Int)
  | b (v : Bool)
  | s (x : ByteArray)
  | v (x : Value)
  | a (k : Nat)

abbrev Env := List (List Sc)

/-- A value that no scalar stands for. -/
def isRef : Value → Bool
  | .agg _ | .tuple _ | .int _ _ | .bool _ | .string _ => false
  | _ => true

/-- A value of one cell. -/
def isOne : Value → Bool
  | .agg _ | .tuple _ => false
  | _ => true


inductive X where
  | ci (n : Int)
  | cb (v : Bool)
  | cs (x : List UInt8)
  | nilv
  | var (id idx : Nat)
  | bin (o : BinOp) (k : IntKind) (x y : X)
  | shf (o : BinOp) (k : IntKind) (x y : X)
  | conv (k : IntKind) (x : X)
  | neg (k : IntKind) (x : X)
  | not (x : X)
  | and (x y : X)
  | seq (x y : X)
  | beq (x y : X)
  | len (x : X)
  | min (x y : X)
  | max (x y : X)
  deriving Inhabited, Repr

def BinOp.eqb (a b : BinOp) : Bool := a.ctorIdx == b.ctorIdx
def kindEqb (a b : IntKind) : Bool := a.ctorIdx == b.ctorIdx

def binSem (o : BinOp) (k : IntKind) (x y : Int) : Option Sc :=
  match o with
  | .add => some (.i (k.wrap (x + y)))
  | .sub => some (.i (k.wrap (x - y)))
  | .mul => some (.i (k.wrap (x * y)))
  | .quo => if y = 0 then none else some (.i (k.wrap (x.tdiv y)))
  | .rem => if y = 0 then none else some (.i (x.tmod y))
  | .and => some (.i (k.wrap (BitVec.ofInt k.bits x &&& BitVec.ofInt k.bits y).toNat))
  | .or => some (.i (k.wrap (BitVec.ofInt k.bits x ||| BitVec.ofInt k.bits y).toNat))
  | .eql => some (.b (x == y))
  | .lss => some (.b (decide (x < y)))
  | _ => none

def shfSem (o : BinOp) (k : IntKind) (x y : Int) : Option Sc :=
  if y < 0 then none else
  match o with
  | .shl => some (.i (k.wrap (x * 2 ^ (Min.min y.toNat k.bits))))
  | .shr => some (.i (x.fdiv (2 ^ (Min.min y.toNat k.bits))))
  | _ => none

def X.den (env : Env) : X → Option Sc
  | .ci n => some (.i n)
  | .cb v => some (.b v)
  | .cs x => some (.s ⟨x.toArray⟩)
  | .nilv => some (.v (.slice none 0 0))
  | .var id idx => (env[id]?).bind (·[idx]?)
  | .bin o k x y => match x.den env, y.den env with
    | some (.i a), some (.i b) => binSem o k a b
    | _, _ => none
  | .shf o k x y => match x.den env, y.den env with
    | some (.i a), some (.i b) => shfSem o k a b
    | _, _ => none
  | .conv k x => match x.den env with
    | some (.i a) => some (.i (k.wrap a))
    | _ => none
  | .neg k x => match x.den env with
    | some (.i a) => some (.i (k.wrap (0 - a)))
    | _ => none
  | .not x => match x.den env with
    | some (.b a) => some (.b (!a))
    | _ => none
  | .and x y => match x.den env, y.den env with
    | some (.b a), some (.b b) => some (.b (a && b))
    | _, _ => none
  | .seq x y => match x.den env, y.den env with
    | some (.s a), some (.s b) => some (.b (a.toList == b.toList))
    | _, _ => none
  | .beq x y => match x.den env, y.den env with
    | some (.b a), some (.b b) => some (.b (a == b))
    | _, _ => none
  | .len x => match x.den env with
    | some (.s a) => some (.i a.size)
    | _ => none
  | .min x y => match x.den env, y.den env with
    | some (.i a), some (.i b) => some (.i (if b < a then b else a))
    | _, _ => none
  | .max x y => match x.den env, y.den env with
    | some (.i a), some (.i b) => some (.i (if b > a then b else a))
    | _, _ => none

theorem getElem?_prefix {α : Type} {l l' : List α} (h : l <+: l') {i : Nat} {x : α} (hx : l[i]? = some x) : l'[i]? = some x := by
  obtain ⟨t, rfl⟩ := h
  rw [List.getElem?_append_left (List.getElem?_eq_some_iff.1 hx).1]; exact hx

theorem X.den_mono {env env' : Env} (h : env <+: env') : ∀ (x : X) {r : Sc}, x.den env = some r → x.den env' = some r := by
  intro x
  induction x with
  | ci n => intro r hr; exact hr
  | cb n => intro r hr; exact hr
  | cs n => intro r hr; exact hr
  | nilv => intro r hr; exact hr
  | var id idx =>
    intro r hr
    simp only [X.den, Option.bind_eq_some_iff] at hr ⊢
    obtain ⟨l, hl, hi⟩ := hr
    exact ⟨l, getElem?_prefix h hl, hi⟩
  | bin o k x y ihx ihy | shf o k x y ihx ihy =>
    intro r hr
    simp only [X.den] at hr ⊢
    split at hr
    · rename_i a b ha hb; rw [ihx ha, ihy hb]; exact hr
    · cases hr
  | conv k x ih | neg k x ih =>
    intro r hr
    simp only [X.den] at hr ⊢
    split at hr
    · rename_i a ha; rw [ih ha]; exact hr
    · cases hr
  | not x ih | len x ih =>
    intro r hr
    simp only [X.den] at hr ⊢
    split at hr
    · rename_i a ha; rw [ih ha]; exact hr
    · cases hr
  | and x y ihx ihy | seq x y ihx ihy | beq x y ihx ihy | min x y ihx ihy | max x y ihx ihy =>
    intro r hr
    simp only [X.den] at hr ⊢
    split at hr
    · rename_i a b ha hb; rw [ihx ha, ihy hb]; exact hr
    · cases hr

/-! syntactic equality -/
def bytesEqb : List UInt8 → List UInt8 → Bool
  | [], [] => true
  | a :: l, b :: m => a.toNat.beq b.toNat && bytesEqb l m
  | _, _ => false

def intEqb : Int → Int → Bool
  | .ofNat a, .ofNat b => a.beq b
  | .negSucc a, .negSucc b => a.beq b
  | _, _ => false

def X.eqb : X → X → Bool
  | .ci a, .ci b => intEqb a b
  | .cb a, .cb b => a == b
  | .cs a, .cs b => bytesEqb a b
  | .nilv, .nilv => true
  | .var a b, .var c d => a.beq c && b.beq d
  | .bin o k x y, .bin o' k' x' y' => BinOp.eqb o o' && (kindEqb k k' && (x.eqb x' && y.eqb y'))
  | .shf o k x y, .shf o' k' x' y' => BinOp.eqb o o' && (kindEqb k k' && (x.eqb x' && y.eqb y'))
  | .conv k x, .conv k' x' => kindEqb k k' && x.eqb x'
  | .neg k x, .neg k' x' => kindEqb k k' && x.eqb x'
  | .not x, .not x' => x.eqb x'
  | .and x y, .and x' y' => x.eqb x' && y.eqb y'
  | .seq x y, .seq x' y' => x.eqb x' && y.eqb y'
  | .beq x y, .beq x' y' => x.eqb x' && y.eqb y'
  | .len x, .len x' => x.eqb x'
  | .min x y, .min x' y' => x.eqb x' && y.eqb y'
  | .max x y, .max x' y' => x.eqb x' && y.eqb y'
  | _, _ => false

theorem bytesEqb_eq : ∀ (a b : List UInt8), bytesEqb a b = true → a = b
  | [], [], _ => rfl
  | a :: l, b :: m, h => by
    simp only [bytesEqb, Bool.and_eq_true] at h
    have h1 := Nat.eq_of_beq_eq_true h.1
    rw [UInt8.toNat_inj.1 h1, bytesEqb_eq l m h.2]
  | [], _ :: _, h => by cases h
  | _ :: _, [], h => by cases h

theorem intEqb_eq : ∀ (a b : Int), intEqb a b = true → a = b
  | .ofNat a, .ofNat b, h => by rw [Nat.eq_of_beq_eq_true h]
  | .negSucc a, .negSucc b, h => by rw [Nat.eq_of_beq_eq_true h]
  | .ofNat _, .negSucc _, h => by cases h
  | .negSucc _, .ofNat _, h => by cases h

theorem binEqb_eq {a b : BinOp} (h : BinOp.eqb a b = true) : a = b := by cases a <;> cases b <;> first | rfl | cases h
theorem kindEqb_eq {a b : IntKind} (h : kindEqb a b = true) : a = b := by cases a <;> cases b <;> first | rfl | cases h

theorem X.eqb_eq : ∀ (x y : X), x.eqb y = true → x = y := by
  intro x
  induction x with
  | ci n => intro y h; cases y <;> simp only [X.eqb] at h <;> first | (cases h; done) | rw [intEqb_eq _ _ h]
  | cb n => intro y h; cases y <;> simp only [X.eqb] at h <;> first | (cases h; done) | (rw [eq_of_beq h])
  | cs n => intro y h; cases y <;> simp only [X.eqb] at h <;> first | (cases h; done) | rw [bytesEqb_eq _ _ h]
  | nilv => intro y h; cases y <;> simp only [X.eqb] at h <;> first | (cases h; done) | rfl
  | var a b =>
    intro y h; cases y <;> simp only [X.eqb] at h <;> first | (cases h; done) | skip
    simp only [Bool.and_eq_true] at h
    rw [Nat.eq_of_beq_eq_true h.1, Nat.eq_of_beq_eq_true h.2]
  | bin o k x y ihx ihy | shf o k x y ihx ihy =>
    intro z h; cases z <;> simp only [X.eqb] at h <;> first | (cases h; done) | skip
    simp only [Bool.and_eq_true] at h
    rw [binEqb_eq h.1, kindEqb_eq h.2.1, ihx _ h.2.2.1, ihy _ h.2.2.2]
  | conv k x ih | neg k x ih =>
    intro z h; cases z <;> simp only [X.eqb] at h <;> first | (cases h; done) | skip
    simp only [Bool.and_eq_true] at h
    rw [kindEqb_eq h.1, ih _ h.2]
  | not x ih | len x ih =>
    intro z h; cases z <;> simp only [X.eqb] at h <;> first | (cases h; done) | skip
    rw [ih _ h]
  | and x y ihx ihy | seq x y ihx ihy | beq x y ihx ihy | min x y ihx ihy | max x y ihx ihy =>
    intro z h; cases z <;> simp only [X.eqb] at h <;> first | (cases h; done) | skip
    simp only [Bool.and_eq_true] at h
    rw [ihx _ h.1, ihy _ h.2]

/-! smart constructors (constants folded) -/
def X.mkBin (o : BinOp) (k : IntKind) (x y : X) : X :=
  match x, y with
  | .ci a, .ci b => match binSem o k a b with
    | some (.i n) => .ci n
    | some (.b v) => .cb v
    | _ => .bin o k x y
  | _, _ => .bin o k x y

def X.mkShf (o : BinOp) (k : IntKind) (x y : X) : X :=
  match x, y with
  | .ci a, .ci b => match shfSem o k a b with
    | some (.i n) => .ci n
    | _ => .shf o k x y
  | _, _ => .shf o k x y

def X.mkConv (k : IntKind) : X → X
  | .ci a => .ci (k.wrap a)
  | x => .conv k x
def X.mkNeg (k : IntKind) : X → X
  | .ci a => .ci (k.wrap (0 - a))
  | x => .neg k x
def X.mkNot : X → X
  | .cb v => .cb (!v)
  | .not x => .not (.not x)
  | x => .not x
def X.mkBeq (x y : X) : X :=
  match x, y with
  | .cb a, .cb b => .cb (a == b)
  | x, y => .beq x y
def X.mkAnd (x y : X) : X :=
  match x, y with
  | .cb true, y => y
  | x, .cb true => x
  | .cb false, _ => .and x y
  | x, y => .and x y
def X.mkSeq (x y : X) : X :=
  match x, y with
  | .cs a, .cs b => .cb (bytesEqb a b)
  | x, y => .seq x y
def X.mkLen : X → X
  | .cs a => .ci a.length
  | x => .len x
def X.mkMin (x y : X) : X :=
  match x, y with
  | .ci a, .ci b => .ci (if b < a then b else a)
  | x, y => .min x y
def X.mkMax (x y : X) : X :=
  match x, y with
  | .ci a, .ci b => .ci (if b > a then b else a)
  | x, y => .max x y

theorem X.mkBin_den (env : Env) (o : BinOp) (k : IntKind) (x y : X) {r : Sc} (h : (X.bin o k x y).den env = some r) : (X.mkBin o k x y).den env = some r := by
  unfold X.mkBin
  split
  · rename_i a b
    simp only [X.den] at h
    split
    · rename_i n hn; rw [hn] at h; exact h
    · rename_i n hn; rw [hn] at h; exact h
    · exact h
  · exact h
theorem X.mkShf_den (env : Env) (o : BinOp) (k : IntKind) (x y : X) {r : Sc} (h : (X.shf o k x y).den env = some r) : (X.mkShf o k x y).den env = some r := by
  unfold X.mkShf
  split
  · rename_i a b
    simp only [X.den] at h
    split
    · rename_i n hn; rw [hn] at h; exact h
    · exact h
  · exact h
theorem X.mkConv_den (env : Env) (k : IntKind) (x : X) {r : Sc} (h : (X.conv k x).den env = some r) : (X.mkConv k x).den env = some r := by
  unfold X.mkConv; split <;> exact h
theorem X.mkNeg_den (env : Env) (k : IntKind) (x : X) {r : Sc} (h : (X.neg k x).den env = some r) : (X.mkNeg k x).den env = some r := by
  unfold X.mkNeg; split <;> exact h
theorem X.mkNot_den (env : Env) (x : X) {r : Sc} (h : (X.not x).den env = some r) : (X.mkNot x).den env = some r := by
  unfold X.mkNot; split <;> exact h
theorem X.mkBeq_den (env : Env) (x y : X) {r : Sc} (h : (X.beq x y).den env = some r) : (X.mkBeq x y).den env = some r := by
  unfold X.mkBeq
  split
  · simpa only [X.den] using h
  · exact h
theorem X.mkAnd_den (env : Env) (x y : X) {r : Sc} (h : (X.and x y).den env = some r) : (X.mkAnd x y).den env = some r := by
  unfold X.mkAnd
  split
  · simp only [X.den] at h
    split at h
    · rename_i a b ha hb; cases ha; simp at h; rw [hb, ← h]
    · cases h
  · simp only [X.den] at h
    split at h
    · rename_i a b ha hb; cases hb; simp at h; rw [ha, ← h]
    · cases h
  · exact h
  · exact h
theorem bytesEqb_refl : ∀ (a : List UInt8), bytesEqb a a = true
  | [] => rfl
  | a :: l => by simp [bytesEqb, bytesEqb_refl l]
theorem bytesEqb_beq (a b : List UInt8) : bytesEqb a b = (a == b) := by
  cases h : bytesEqb a b
  · symm; rw [beq_eq_false_iff_ne]; intro e; subst e; rw [bytesEqb_refl] at h; cases h
  · rw [bytesEqb_eq _ _ h]; simp
theorem byteArray_toList_mk (l : List UInt8) : (ByteArray.mk l.toArray).toList = l := by
  rw [ByteArray.toList_eq]
theorem X.mkSeq_den (env : Env) (x y : X) {r : Sc} (h : (X.seq x y).den env = some r) : (X.mkSeq x y).den env = some r := by
  unfold X.mkSeq
  split
  · rename_i a b
    simp only [X.den, byteArray_toList_mk] at h
    simp only [X.den, bytesEqb_beq]; exact h
  · exact h
theorem X.mkLen_den (env : Env) (x : X) {r : Sc} (h : (X.len x).den env = some r) : (X.mkLen x).den env = some r := by
  unfold X.mkLen
  split
  · simp only [X.den] at h ⊢
    rw [← h]; rfl
  · exact h
theorem X.mkMin_den (env : Env) (x y : X) {r : Sc} (h : (X.min x y).den env = some r) : (X.mkMin x y).den env = some r := by
  unfold X.mkMin; split <;> exact h
theorem X.mkMax_den (env : Env) (x y : X) {r : Sc} (h : (X.max x y).den env = some r) : (X.mkMax x y).den env = some r := by
  unfold X.mkMax; split <;> exact h

/-! ### Facts: what is known on a path -/
abbrev Facts := List (X × Bool)

def lookFact : Facts → X → Option Bool
  | [], _ => none
  | (y, v) :: l, x => if y.eqb x then some v else lookFact l x

/-- Is a condition decided? -/
def decideX (fs : Facts) : X → Option Bool
  | .cb v => some v
  | .not x => (decideX fs x).map (!·)
  | x => lookFact fs x

def FactsOk (env : Env) (fs : Facts) : Prop := ∀ p ∈ fs, p.1.den env = some (.b p.2)

theorem FactsOk.mono {env env' : Env} (h : env <+: env') {fs : Facts} (hf : FactsOk env fs) : FactsOk env' fs :=
  fun p hp => X.den_mono h _ (hf p hp)

theorem lookFact_ok {env : Env} {fs : Facts} (hf : FactsOk env fs) {x : X} {v : Bool} (h : lookFact fs x = some v) : x.den env = some (.b v) := by
  induction fs with
  | nil => cases h
  | cons p l ih =>
    obtain ⟨y, u⟩ := p
    simp only [lookFact] at h
    split at h
    · rename_i he; cases h; rw [← X.eqb_eq _ _ he]; exact hf (y, v) (List.mem_cons_self ..)
    · exact ih (fun p hp => hf p (List.mem_cons_of_mem _ hp)) h

theorem decideX_ok {env : Env} {fs : Facts} (hf : FactsOk env fs) : ∀ (x : X) {v : Bool}, decideX fs x = some v → x.den env = some (.b v) := by
  intro x
  induction x with
  | cb b => intro v h; simp only [decideX] at h; cases h; rfl
  | not x ih =>
    intro v h
    simp only [decideX, Option.map_eq_some_iff] at h
    obtain ⟨u, hu, rfl⟩ := h
    simp only [X.den, ih hu]
  | _ => intro v h; exact lookFact_ok hf h

/-! ### Abstract values -/
inductive AV where
  | int (k : IntKind) (x : X)
  | bool (x : X)
  | str (x : X)
  | val (x : X)
  | ptr (id off : Nat)
  | gptr (b off : Nat)
  | nilptr
  | slice (id off len cap : Nat)
  | vsl (id len : Nat)
  -- a row that is only read, and a place in it
  | rsl (id : Nat) (len : X)
  | rptr (id off : Nat)
  | nilslice
  | map (id : Nat)
  | func (f : Nat) (first captured : List AV)
  | yield (id : Nat)
  | nilFunc
  | nilmap
  | iface (t : Nat) (v : AV)
  | nilIface
  | agg (l : List AV)
  | tup (l : List AV)
  deriving Inhabited, Repr

def addr (env : Env) (id : Nat) : Option Nat :=
  match env[id]? with
  | some (.a k :: _) => some k
  | _ => none

/-- A block that a slice grows in: its place, the slice's capacity. -/
def capAt (env : Env) (id : Nat) : Option (Nat × Nat) :=
  match env[id]? with
  | some [.a k, .i c] => some (k, c.toNat)
  | _ => none

theorem capAt_mono {env env' : Env} (h : env <+: env') {id : Nat} {kc : Nat × Nat} (hk : capAt env id = some kc) : capAt env' id = some kc := by
  unfold capAt at *
  split at hk
  · rename_i k' c' hx
    rw [getElem?_prefix h hx]; exact hk
  · cases hk

theorem addr_of_cap {env : Env} {id k c : Nat} (h : capAt env id = some (k, c)) : addr env id = some k := by
  unfold capAt at h
  unfold addr
  split at h
  · rename_i k' c' hx
    cases h
    rw [hx]
  · cases h

theorem addr_mono {env env' : Env} (h : env <+: env') {id k : Nat} (hk : addr env id = some k) : addr env' id = some k := by
  unfold addr at *
  split at hk
  · rename_i k' hx
    rw [getElem?_prefix h hx]; exact hk
  · cases hk

/-- A row that is only read: its block, its place there, the slice's capacity. -/
def rowAt (env : Env) (id : Nat) : Option (Nat × Nat × Nat) :=
  match env[id]? with
  | some (.a k :: .i o :: .i c :: _) => some (k, o.toNat, c.toNat)
  | _ => none

theorem rowAt_mono {env env' : Env} (h : env <+: env') {id : Nat} {r : Nat × Nat × Nat} (hk : rowAt env id = some r) : rowAt env' id = some r := by
  unfold rowAt at *
  split at hk
  · rename_i hx
    rw [getElem?_prefix h hx]; exact hk
  · cases hk

mutual
def AV.den (env : Env) : AV → Option Value
  | .int k x => match x.den env with
    | some (.i n) => some (.int k n)
    | _ => none
  | .bool x => match x.den env with
    | some (.b v) => some (.bool v)
    | _ => none
  | .str x => match x.den env with
    | some (.s v) => some (.string v)
    | _ => none
  | .val x => match x.den env with
    | some (.v V) => if isRef V then some V else none
    | _ => none
  | .ptr id off => match addr env id with
    | some k => some (.pointer (some ⟨k, off, none⟩))
    | none => none
  | .gptr b off => some (.pointer (some ⟨b, off, none⟩))
  | .nilptr => some (.pointer none)
  | .slice id off len cap => match addr env id with
    | some k => some (.slice (some ⟨k, off, none⟩) len cap)
    | none => none
  | .vsl id len => match capAt env id with
    | some (k, c) => if len ≤ c then some (.slice (some ⟨k, 0, none⟩) len c) else none
    | none => none
  | .rsl id len => match rowAt env id, len.den env with
    | some (k, o, c), some (.i n) => if 0 ≤ n then some (.slice (some ⟨k, o, none⟩) n.toNat c) else none
    | _, _ => none
  | .rptr id off => match rowAt env id with
    | some (k, o, _) => some (.pointer (some ⟨k, o + off, none⟩))
    | none => none
  | .nilslice => some (.slice none 0 0)
  | .map id => match addr env id with
    | some k => some (.map (some k))
    | none => none
  | .func f a c => match AV.dens env a, AV.dens env c with
    | some a, some c => some (.func (.func f) a.toArray c.toArray)
    | _, _ => none
  | .yield id => match addr env id with
    | some k => some (.func (.yield k) #[] #[])
    | none => none
  | .nilFunc => some .nilFunc
  | .nilmap => some (.map none)
  | .iface t v => match AV.den env v with
    | some v => some (.iface t v)
    | none => none
  | .nilIface => some .nilIface
  | .agg l => match AV.dens env l with
    | some vs => some (.agg vs.toArray)
    | none => none
  | .tup l => match AV.dens env l with
    | some vs => some (.tuple vs.toArray)
    | none => none
def AV.dens (env : Env) : List AV → Option (List Value)
  | [] => some []
  | a :: l => match AV.den env a, AV.dens env l with
    | some v, some vs => some (v :: vs)
    | _, _ => none
end

mutual
theorem AV.den_mono {env env' : Env} (h : env <+: env') : ∀ (a : AV) {v : Value}, a.den env = some v → a.den env' = some v
  | .int k x, v, hv | .bool x, v, hv | .str x, v, hv | .val x, v, hv => by
    simp only [AV.den] at hv ⊢
    split at hv
    · rename_i n hn; rw [X.den_mono h _ hn]; exact hv
    · cases hv
  | .ptr id off, v, hv | .slice id off len cap, v, hv | .map id, v, hv | .yield id, v, hv => by
    simp only [AV.den] at hv ⊢
    split at hv
    · rename_i n hn; rw [addr_mono h hn]; exact hv
    · cases hv
  | .vsl id len, v, hv => by
    simp only [AV.den] at hv ⊢
    split at hv
    · rename_i k c hn; rw [capAt_mono h hn]; exact hv
    · cases hv
  | .rsl id len, v, hv => by
    simp only [AV.den] at hv ⊢
    split at hv
    · rename_i k o c n hr hn; rw [rowAt_mono h hr, X.den_mono h _ hn]; exact hv
    · cases hv
  | .rptr id off, v, hv => by
    simp only [AV.den] at hv ⊢
    split at hv
    · rename_i k o c hr; rw [rowAt_mono h hr]; exact hv
    · cases hv
  | .gptr _ _, v, hv | .nilptr, v, hv | .nilslice, v, hv | .nilFunc, v, hv | .nilmap, v, hv | .nilIface, v, hv => hv
  | .func f a c, v, hv => by
    simp only [AV.den] at hv ⊢
    split at hv
    · rename_i x y hx hy; rw [AV.dens_mono h a hx, AV.dens_mono h c hy]; exact hv
    · cases hv
  | .iface t x, v, hv => by
    simp only [AV.den] at hv ⊢
    split at hv
    · rename_i n hn; rw [AV.den_mono h x hn]; exact hv
    · cases hv
  | .agg l, v, hv | .tup l, v, hv => by
    simp only [AV.den] at hv ⊢
    split at hv
    · rename_i n hn; rw [AV.dens_mono h l hn]; exact hv
    · cases hv
theorem AV.dens_mono {env env' : Env} (h : env <+: env') : ∀ (l : List AV) {vs : List Value}, AV.dens env l = some vs → AV.dens env' l = some vs
  | [], vs, hv => hv
  | a :: l, vs, hv => by
    simp only [AV.dens] at hv ⊢
    split at hv
    · rename_i x y hx hy; rw [AV.den_mono h a hx, AV.dens_mono h l hy]; exact hv
    · cases hv
end

theorem AV.dens_length {env : Env} : ∀ {l : List AV} {vs : List Value}, AV.dens env l = some vs → vs.length = l.length
  | [], vs, h => by simp only [AV.dens] at h; cases h; rfl
  | a :: l, vs, h => by
    simp only [AV.dens] at h
    split at h
    · rename_i x y hx hy; cases h; simp [AV.dens_length hy]
    · cases h

theorem AV.dens_get {env : Env} : ∀ {l : List AV} {vs : List Value}, AV.dens env l = some vs → ∀ {i : Nat} {a : AV}, l[i]? = some a → ∃ v, vs[i]? = some v ∧ a.den env = some v
  | [], vs, h, i, a, hi => by simp at hi
  | b :: l, vs, h, i, a, hi => by
    simp only [AV.dens] at h
    split at h
    · rename_i x y hx hy
      cases h
      cases i with
      | zero => simp at hi; subst hi; exact ⟨x, by simp, hx⟩
      | succ i => simp at hi ⊢; exact AV.dens_get hy hi
    · cases h

theorem AV.dens_append {env : Env} : ∀ {l m : List AV} {vs us : List Value}, AV.dens env l = some vs → AV.dens env m = some us → AV.dens env (l ++ m) = some (vs ++ us)
  | [], m, vs, us, h, h' => by simp only [AV.dens] at h; cases h; exact h'
  | a :: l, m, vs, us, h, h' => by
    simp only [AV.dens] at h
    split at h
    · rename_i x y hx hy; cases h; simp only [List.cons_append, AV.dens, hx, AV.dens_append hy h']
    · cases h

theorem AV.dens_take {env : Env} : ∀ {l : List AV} {vs : List Value} (n : Nat), AV.dens env l = some vs → AV.dens env (l.take n) = some (vs.take n)
  | l, vs, 0, h => by simp [AV.dens]
  | [], vs, n+1, h => by simp only [AV.dens] at h; cases h; simp [AV.dens]
  | a :: l, vs, n+1, h => by
    simp only [AV.dens] at h
    split at h
    · rename_i x y hx hy; cases h; simp only [List.take_succ_cons, AV.dens, hx, AV.dens_take n hy]
    · cases h

theorem AV.dens_drop {env : Env} : ∀ {l : List AV} {vs : List Value} (n : Nat), AV.dens env l = some vs → AV.dens env (l.drop n) = some (vs.drop n)
  | l, vs, 0, h => by simpa using h
  | [], vs, n+1, h => by simp only [AV.dens] at h; cases h; simp [AV.dens]
  | a :: l, vs, n+1, h => by
    simp only [AV.dens] at h
    split at h
    · rename_i x y hx hy; cases h; simpa using AV.dens_drop n hy
    · cases h

theorem AV.dens_set {env : Env} : ∀ {l : List AV} {vs : List Value}, AV.dens env l = some vs → ∀ (i : Nat) {a : AV} {v : Value}, a.den env = some v → AV.dens env (l.set i a) = some (vs.set i v)
  | [], vs, h, i, a, v, _ => by simp only [AV.dens] at h; cases h; simp [AV.dens]
  | b :: l, vs, h, i, a, v, ha => by
    simp only [AV.dens] at h
    split at h
    · rename_i x y hx hy
      cases h
      cases i with
      | zero => simp only [List.set_cons_zero, AV.dens, ha, hy]
      | succ i => simp only [List.set_cons_succ, AV.dens, hx, AV.dens_set hy i ha]
    · cases h

theorem AV.dens_replicate {env : Env} {a : AV} {v : Value} (h : a.den env = some v) : ∀ (n : Nat), AV.dens env (List.replicate n a) = some (List.replicate n v)
  | 0 => rfl
  | n+1 => by simp only [List.replicate_succ, AV.dens, h, AV.dens_replicate h n]

/-- The cells of a value: what a variable that holds it holds. -/
def AV.cells : AV → List AV
  | .agg l => l
  | a => [a]

def AV.isCell : AV → Bool
  | .agg _ | .tup _ => false
  | _ => true

theorem AV.one_of {env : Env} {a : AV} {v : Value} (hc : a.isCell = true) (h : a.den env = some v) : isOne v = true := by
  cases a with
  | agg l => cases hc
  | tup l => cases hc
  | val x =>
    simp only [AV.den] at h
    split at h
    · rename_i V _
      split at h
      · rename_i ho; cases h; cases v <;> first | rfl | (cases ho; done)
      · cases h
    · cases h
  | rsl id len =>
    simp only [AV.den] at h
    split at h
    · split at h
      · cases h; rfl
      · cases h
    · cases h
  | vsl id len =>
    simp only [AV.den] at h
    split at h
    · split at h
      · cases h; rfl
      · cases h
    · cases h
  | gptr b o => cases h; rfl
  | nilptr => cases h; rfl
  | nilslice => cases h; rfl
  | nilFunc => cases h; rfl
  | nilmap => cases h; rfl
  | nilIface => cases h; rfl
  | _ =>
    simp only [AV.den] at h
    split at h
    · cases h; rfl
    · cases h

theorem AV.cells_den {env : Env} {a : AV} {v : Value} (h : a.den env = some v) (hv : isOne v = true ∨ ∃ l, a = .agg l) : AV.dens env a.cells = some v.cells.toList := by
  have single : ∀ {a : AV}, a.den env = some v → isOne v = true → AV.dens env [a] = some v.cells.toList := by
    intro a h hv
    simp only [AV.dens, h]
    cases v <;> simp [isOne] at hv <;> rfl
  rcases hv with hv | ⟨l, rfl⟩
  · cases a <;> first
      | exact single h hv
      | skip
    simp only [AV.den] at h
    split at h
    · cases h; simp [isOne] at hv
    · cases h
  · simp only [AV.den] at h
    split at h
    · rename_i vs hvs; cases h; simpa [AV.cells, Value.cells] using hvs
    · cases h

/-! literals of the program -/
def AV.ofValue : Value → Option AV
  | .bool v => some (.bool (.cb v))
  | .int k n => some (.int k (.ci n))
  | .string s => some (.str (.cs s.data.toList))
  | .pointer none => some .nilptr
  | .slice none 0 0 => some .nilslice
  | .nilFunc => some .nilFunc
  | .map none => some .nilmap
  | .nilIface => some .nilIface
  | .func (.func f) a c => if a.isEmpty && c.isEmpty then some (.func f [] []) else none
  | .tuple vs => if vs.isEmpty then some (.tup []) else none
  | _ => none

theorem AV.ofValue_den {env : Env} {v : Value} {a : AV} (h : AV.ofValue v = some a) : a.den env = some v := by
  unfold AV.ofValue at h
  split at h
  case h_9 f a c =>
    split at h
    · rename_i hh
      simp only [Bool.and_eq_true, Array.isEmpty_iff] at hh
      obtain ⟨rfl, rfl⟩ := hh
      cases h; simp [AV.den, AV.dens]
    · cases h
  case h_10 vs =>
    split at h
    · rename_i hh
      simp only [Array.isEmpty_iff] at hh
      subst hh
      cases h; simp [AV.den, AV.dens]
    · cases h
  all_goals first
    | (cases h; done)
    | (cases h; simp [AV.den, X.den])

/-! ### Temporaries: a tree, so that one is found and set in few steps -/
def undefA : AV := .tup []

inductive Tree where
  | emp
  | leaf (v : AV)
  | node (l r : Tree)
  deriving Inhabited

def Tree.get : Nat → Tree → Nat → AV
  | 0, t, _ => match t with
    | .leaf v => v
    | _ => undefA
  | d + 1, t, k => match t with
    | .node l r => match k % 2 with
      | 0 => Tree.get d l (k / 2)
      | _ => Tree.get d r (k / 2)
    | _ => undefA

def Tree.set : Nat → Tree → Nat → AV → Tree
  | 0, _, _, v => .leaf v
  | d + 1, t, k, v => match t with
    | .node l r => match k % 2 with
      | 0 => .node (Tree.set d l (k / 2) v) r
      | _ => .node l (Tree.set d r (k / 2) v)
    | _ => match k % 2 with
      | 0 => .node (Tree.set d .emp (k / 2) v) .emp
      | _ => .node .emp (Tree.set d .emp (k / 2) v)

theorem Tree.get_emp : ∀ (d k : Nat), Tree.get d .emp k = undefA
  | 0, _ => rfl
  | _ + 1, _ => rfl

theorem Tree.get_set : ∀ (d : Nat) (t : Tree) (k j : Nat) (v : AV), k < 2 ^ d → j < 2 ^ d → Tree.get d (Tree.set d t k v) j = if k = j then v else Tree.get d t j
  | 0, t, k, j, v, hk, hj => by
    have : k = j := by simp at hk hj; omega
    simp [Tree.set, Tree.get, this]
  | d + 1, t, k, j, v, hk, hj => by
    have hk' : k / 2 < 2 ^ d := by rw [Nat.pow_succ] at hk; omega
    have hj' : j / 2 < 2 ^ d := by rw [Nat.pow_succ] at hj; omega
    have iff : (k = j) ↔ (k % 2 = j % 2 ∧ k / 2 = j / 2) := by omega
    have ih := fun t => Tree.get_set d t (k / 2) (j / 2) v hk' hj'
    have two : ∀ n : Nat, n % 2 = 0 ∨ n % 2 = 1 := fun n => by omega
    cases t <;> simp only [Tree.set, Tree.get] <;> rcases two k with h1 | h1 <;> rcases two j with h2 | h2 <;> simp only [h1, h2, iff, ih, true_and, false_and, Tree.get_emp, if_false, Nat.zero_ne_one, Nat.one_ne_zero]

structure Tm where
  n : Nat
  t : Tree
  deriving Inhabited

def Tm.dep (n : Nat) : Nat := Nat.log2 n + 1

theorem Tm.dep_lt {n k : Nat} (h : k < n) : k < 2 ^ Tm.dep n := Nat.lt_trans h Nat.lt_log2_self

def Tm.get? (tm : Tm) (k : Nat) : Option AV :=
  match Nat.blt k tm.n with
  | true => some (Tree.get (Tm.dep tm.n) tm.t k)
  | false => none

def Tm.set (tm : Tm) (k : Nat) (v : AV) : Tm :=
  match Nat.blt k tm.n with
  | true => ⟨tm.n, Tree.set (Tm.dep tm.n) tm.t k v⟩
  | false => tm

/-- The temporaries as a list. -/
def Tm.toL (tm : Tm) : List AV := (List.range tm.n).map fun k => Tree.get (Tm.dep tm.n) tm.t k

theorem Tm.toL_length (tm : Tm) : tm.toL.length = tm.n := by simp [Tm.toL]

theorem Tm.get?_eq (tm : Tm) (k : Nat) : tm.get? k = tm.toL[k]? := by
  unfold Tm.get? Tm.toL
  by_cases h : k < tm.n
  · have hb : Nat.blt k tm.n = true := by simpa using h
    simp [hb, h]
  · have hb : Nat.blt k tm.n = false := by
      cases hb : Nat.blt k tm.n with
      | true => exact absurd (by simpa using hb) h
      | false => rfl
    simp [hb, h]

theorem Tm.set_toL (tm : Tm) (k : Nat) (v : AV) : (tm.set k v).toL = tm.toL.set k v := by
  unfold Tm.set
  by_cases h : k < tm.n
  · have hb : Nat.blt k tm.n = true := by simpa using h
    simp only [hb]
    apply List.ext_getElem?
    intro j
    simp only [Tm.toL, List.getElem?_set, List.length_map, List.length_range]
    by_cases hj : j < tm.n
    · simp only [List.getElem?_map, List.getElem?_range, hj, Option.map_some]
      rw [Tree.get_set _ _ _ _ _ (Tm.dep_lt h) (Tm.dep_lt hj)]
      by_cases e : k = j
      · subst e; simp [hj]
      · simp [e]
    · have e : ¬ k = j := by omega
      simp [hj, e]
  · have hb : Nat.blt k tm.n = false := by
      cases hb : Nat.blt k tm.n with
      | true => exact absurd (by simpa using hb) h
      | false => rfl
    simp only [hb]
    rw [List.set_eq_of_length_le]
    rw [Tm.toL_length]; omega

theorem Tm.set_n (tm : Tm) (k : Nat) (v : AV) : (tm.set k v).n = tm.n := by
  unfold Tm.set; split <;> rfl

theorem Tm.get?_set (tm : Tm) (k j : Nat) (v : AV) : (tm.set k v).get? j = if k = j then (match Nat.blt k tm.n with | true => some v | false => none) else tm.get? j := by
  rw [Tm.get?_eq, Tm.set_toL, List.getElem?_set, Tm.toL_length, Tm.get?_eq]
  split
  · by_cases h : k < tm.n
    · have hb : Nat.blt k tm.n = true := by simpa using h
      simp [h, hb]
    · have hb : Nat.blt k tm.n = false := by
        cases hb : Nat.blt k tm.n with
        | true => exact absurd (by simpa using hb) h
        | false => rfl
      simp [h, hb]
  · rfl

theorem Tm.get?_set_ne (tm : Tm) {k j : Nat} (v : AV) (h : k ≠ j) : (tm.set k v).get? j = tm.get? j := by
  rw [Tm.get?_set, if_neg h]

theorem Tm.lt_of_get? {tm : Tm} {k : Nat} {a : AV} (h : tm.get? k = some a) : k < tm.n := by
  unfold Tm.get? at h
  split at h
  · rename_i hb; simpa using hb
  · cases h

def Tm.fill : Tm → Nat → List AV → Tm
  | tm, _, [] => tm
  | tm, k, a :: l => Tm.fill (tm.set k a) (k + 1) l

def Tm.ofL (l : List AV) (n : Nat) : Tm := Tm.fill ⟨Nat.max n l.length, .emp⟩ 0 l

theorem Tm.fill_toL : ∀ (l : List AV) (tm : Tm) (k : Nat) (pre suf : List AV), tm.toL = pre ++ suf → pre.length = k → l.length ≤ suf.length → (Tm.fill tm k l).toL = pre ++ l ++ suf.drop l.length
  | [], tm, k, pre, suf, h, _, _ => by simpa [Tm.fill] using h
  | a :: l, tm, k, pre, suf, h, hk, hl => by
    cases suf with
    | nil => simp at hl
    | cons b suf =>
      simp only [Tm.fill]
      have h2 : (tm.set k a).toL = (pre ++ [a]) ++ suf := by
        rw [Tm.set_toL, h, ← hk]
        simp
      rw [Tm.fill_toL l (tm.set k a) (k + 1) (pre ++ [a]) suf h2 (by simp [hk]) (by simpa using hl)]
      simp

theorem Tm.ofL_toL (l : List AV) (n : Nat) : (Tm.ofL l n).toL = l ++ List.replicate (n - l.length) undefA := by
  unfold Tm.ofL
  have h0 : (⟨Nat.max n l.length, .emp⟩ : Tm).toL = [] ++ List.replicate (Nat.max n l.length) undefA := by
    simp only [Tm.toL, List.nil_append, Tree.get_emp]
    apply List.ext_getElem?
    intro j
    by_cases hj : j < Nat.max n l.length
    · simp [hj]
    · simp [hj]
  have hle : l.length ≤ Nat.max n l.length := Nat.le_max_right _ _
  rw [Tm.fill_toL l _ 0 [] _ h0 rfl (by simpa using hle)]
  simp only [List.nil_append, List.drop_replicate]
  congr 2
  have : Nat.max n l.length = max n l.length := rfl
  rw [this]; omega

end Go.Ex

namespace Go.Ex
open Go Go.RowKit

/-- Abstract blocks. -/
inductive AO where
  | cells (c : List AV) (elem : Nat)
  | loop (state : LoopState) (pend : Option Code) (tmps : Tm) (params : List Nat) (assign body : Code)
  | marks
  | dead
  -- the head of the row of a slice that grows: its cells, its elements' type and size, its key
  | pref (c : List AV) (elem size id : Nat)
  -- a map: its keys and values
  | map (es : List (Value × AV))
  deriving Inhabited

/-- What a frame has put off: to close what a loop over a function collected; a call. -/
inductive DI where
  | mark (id : Nat)
  | fn (f : Nat) (args : List AV)
  deriving Inhabited

structure St where
  nb : Nat
  heap : List (Nat × AO)
  facts : Facts
  deriving Inhabited

/-- Trees of outcomes. -/
inductive Tr (α : Type) where
  | ret (a : α)
  | br (c : X) (t e : Tr α)
  | call (sym : Nat) (args : List X) (k : Tr α)
  | new (k : Tr α)
  | newc (k : Tr α)
  | fail (why : Nat)
  deriving Inhabited

def Tr.bind {α β : Type} : Tr α → (α → Tr β) → Tr β
  | .ret a, f => f a
  | .br c t e, f => .br c (t.bind f) (e.bind f)
  | .call s xs k, f => .call s xs (k.bind f)
  | .new k, f => .new (k.bind f)
  | .newc k, f => .newc (k.bind f)
  | .fail n, _ => .fail n

def densX (env : Env) : List X → Option (List Sc)
  | [] => some []
  | x :: l => match x.den env, densX env l with
    | some v, some vs => some (v :: vs)
    | _, _ => none

theorem densX_mono {env env' : Env} (h : env <+: env') : ∀ {l : List X} {vs : List Sc}, densX env l = some vs → densX env' l = some vs
  | [], vs, hv => hv
  | x :: l, vs, hv => by
    simp only [densX] at hv ⊢
    split at hv
    · rename_i a b ha hb; rw [X.den_mono h _ ha, densX_mono h hb]; exact hv
    · cases hv

/-- What the symbols of calls stand for, and what they ask. -/
structure Sy where
  F : Nat → List Sc → List Sc
  Pre : Nat → List Sc → Prop

/-- What a tree promises. -/
def Tr.sat {α : Type} (F : Sy) : Tr α → Env → (Env → α → Prop) → Prop
  | .ret a, env, Q => Q env a
  | .br c t e, env, Q => match c.den env with
    | some (.b true) => t.sat F env Q
    | some (.b false) => e.sat F env Q
    | _ => False
  | .call s xs k, env, Q => match densX env xs with
    | some vs => F.Pre s vs ∧ k.sat F (env ++ [F.F s vs]) Q
    | none => False
  | .new k, env, Q => ∀ n, k.sat F (env ++ [[.a n]]) Q
  | .newc k, env, Q => ∀ n c, k.sat F (env ++ [[.a n, .i c]]) Q
  | .fail _, _, _ => False

theorem Tr.sat_bind {α β : Type} {F : Sy} {f : α → Tr β} {Q : Env → β → Prop} : ∀ {t : Tr α} {env : Env},
    (t.bind f).sat F env Q → t.sat F env (fun env' a => (f a).sat F env' Q)
  | .ret a, env, h => h
  | .br c t e, env, h => by
    simp only [Tr.bind, Tr.sat] at h ⊢
    split at h
    · exact Tr.sat_bind h
    · exact Tr.sat_bind h
    · exact h
  | .call s xs k, env, h => by
    simp only [Tr.bind, Tr.sat] at h ⊢
    split at h
    · exact ⟨h.1, Tr.sat_bind h.2⟩
    · exact h
  | .new k, env, h => fun n => Tr.sat_bind (h n)
  | .newc k, env, h => fun n c => Tr.sat_bind (h n c)
  | .fail _, _, h => h

theorem Tr.sat_mono {α : Type} {F : Sy} {Q Q' : Env → α → Prop} : ∀ {t : Tr α} {env : Env}, (∀ env' a, env <+: env' → Q env' a → Q' env' a) →
    t.sat F env Q → t.sat F env Q'
  | .ret a, env, hq, h => hq env a (List.prefix_refl _) h
  | .br c t e, env, hq, h => by
    simp only [Tr.sat] at h ⊢
    split at h
    · exact Tr.sat_mono hq h
    · exact Tr.sat_mono hq h
    · exact h
  | .call s xs k, env, hq, h => by
    simp only [Tr.sat] at h ⊢
    split at h
    · exact ⟨h.1, Tr.sat_mono (fun env' a hp => hq env' a ((List.prefix_append _ _).trans hp)) h.2⟩
    · exact h
  | .new k, env, hq, h => fun n => Tr.sat_mono (fun env' a hp => hq env' a ((List.prefix_append _ _).trans hp)) (h n)
  | .newc k, env, hq, h => fun n c => Tr.sat_mono (fun env' a hp => hq env' a ((List.prefix_append _ _).trans hp)) (h n c)
  | .fail _, _, _, h => h

/-! ### The table: what the executor knows of the program -/
inductive CK where
  | int (k : IntKind) | str | bool | val
  deriving Inhabited, Repr


structure TI where
  desc : TypeDesc
  size : Nat
  bytes : Nat
  zero : List AV          -- the cells of the zero value
  plain : Bool            -- comparisons of values of this type are plain ones

/-- The shape of a value: one scalar, or a struct or an array of scalars. -/
inductive OutT where
  | one (k : CK) | agg (ks : List CK)
  deriving Inhabited, Repr

/-- A function that is met by its contract: its symbol; what it may panic with (an interface value: the type, its shape); its results. -/
structure Spec where
  sym : Nat
  ins : List OutT
  pan : Option (Nat × OutT)
  outs : List OutT
  deriving Inhabited, Repr

structure Tab where
  tys : Nat → Option TI
  funs : Nat → Option Func
  specs : Nat → Option Spec
  gtab : Nat → Option (List AV)
  eqk : Nat → Option (List CK)
  add64 : Nat → Bool
  -- blocks that are never written to: those that global variables lead to
  ro : Nat → Option AO
  -- rows that are only read: their first cells
  rs : Nat → Option (List AV)
  -- calls whose answer is known
  memo : Nat → List AV → Option AV

/-! ### Blocks -/
def lookB : List (Nat × AO) → Nat → Option AO
  | [], _ => none
  | (n, o) :: l, id => if n.beq id then some o else lookB l id

def setB : List (Nat × AO) → Nat → AO → List (Nat × AO)
  | [], _, _ => []
  | (n, o) :: l, id, o' => if n.beq id then (n, o') :: l else (n, o) :: setB l id o'

theorem lookB_mem {l : List (Nat × AO)} {id : Nat} {o : AO} (h : lookB l id = some o) : (id, o) ∈ l := by
  induction l with
  | nil => cases h
  | cons p l ih =>
    obtain ⟨n, q⟩ := p
    simp only [lookB] at h
    split at h
    · rename_i hb; cases h; rw [Nat.eq_of_beq_eq_true hb]; exact List.mem_cons_self ..
    · exact List.mem_cons_of_mem _ (ih h)

theorem keys_setB (l : List (Nat × AO)) (id : Nat) (o : AO) : (setB l id o).map (·.1) = l.map (·.1) := by
  induction l with
  | nil => rfl
  | cons p l ih =>
    obtain ⟨n, q⟩ := p
    simp only [setB]
    split
    · rfl
    · simp [ih]

theorem mem_setB {l : List (Nat × AO)} {id : Nat} {o : AO} (hn : (l.map (·.1)).Nodup) {p : Nat × AO} (hp : p ∈ setB l id o) : (p = (id, o) ∧ id ∈ l.map (·.1)) ∨ (p ∈ l ∧ p.1 ≠ id) := by
  induction l with
  | nil => cases hp
  | cons q l ih =>
    obtain ⟨n, r⟩ := q
    simp only [List.map_cons, List.nodup_cons] at hn
    simp only [setB] at hp
    split at hp
    · rename_i hb
      have hni := Nat.eq_of_beq_eq_true hb
      subst hni
      rcases List.mem_cons.1 hp with rfl | hp
      · exact .inl ⟨rfl, by simp⟩
      · exact .inr ⟨List.mem_cons_of_mem _ hp, fun e => hn.1 (by rw [← e]; exact List.mem_map_of_mem hp)⟩
    · rename_i hb
      rcases List.mem_cons.1 hp with rfl | hp
      · refine .inr ⟨List.mem_cons_self .., fun e => hb ?_⟩
        simp only at e; subst e; exact Nat.beq_refl _
      · rcases ih hn.2 hp with ⟨rfl, hm⟩ | ⟨hm, hne⟩
        · exact .inl ⟨rfl, List.mem_cons_of_mem _ hm⟩
        · exact .inr ⟨List.mem_cons_of_mem _ hm, hne⟩

/-- What a block of the machine is. -/
def ORel (env : Env) : AO → Obj → Prop
  | .cells c e, o => ∃ vs, AV.dens env c = some vs ∧ (∀ v ∈ vs, isOne v = true) ∧ o = .cells vs.toArray e (0, 0)
  | .loop s p t ps asg bd, o => ∃ fn vs d, AV.dens env t.toL = some vs ∧ o = .loop { state := s, pending := p, fn, tmps := vs.toArray, params := ps.toArray, assign := asg, body := bd, defers := d }
  | .marks, o => o = .deferred (some [])
  | .dead, _ => True
  | .pref c e size id, o => ∃ vs cur kc, AV.dens env c = some vs ∧ (∀ v ∈ vs, isOne v = true) ∧ capAt env id = some kc ∧ o = .cells cur e (0, 0) ∧ cur.toList.take vs.length = vs ∧ vs.length ≤ cur.size ∧ cur.size = kc.2 * size ∧ kc.2 ≤ maxLen
  | .map es, o => ∃ vs arr clock, AV.dens env (es.map (·.2)) = some vs ∧ o = .map arr clock ∧ (arr.toList.map (fun e => (e.key, e.val))).Perm ((es.map (·.1)).zip vs)

theorem ORel.mono {env env' : Env} (h : env <+: env') : ∀ {a : AO} {o : Obj}, ORel env a o → ORel env' a o
  | .cells _ _, _, ⟨vs, hv, h1, ho⟩ => ⟨vs, AV.dens_mono h _ hv, h1, ho⟩
  | .loop .., _, ⟨fn, vs, d, hv, ho⟩ => ⟨fn, vs, d, AV.dens_mono h _ hv, ho⟩
  | .marks, _, h => h
  | .dead, _, h => h
  | .pref .., _, ⟨vs, cur, kc, h1, h2, h3, h4⟩ => ⟨vs, cur, kc, AV.dens_mono h _ h1, h2, capAt_mono h h3, h4⟩
  | .map _, _, ⟨vs, arr, clock, h1, h2⟩ => ⟨vs, arr, clock, AV.dens_mono h _ h1, h2⟩

/-! ### The context of a soundness proof -/
structure Ctx where
  P : Program
  w0 : World
  S : Sy
  T : Tab
  -- where the blocks lie that global variables lead to
  e0 : Env

structure WRel (C : Ctx) (env : Env) (st : St) (w : World) : Prop where
  below : Below C.w0.heap.size C.w0 w
  len : env.length = st.nb
  facts : FactsOk env st.facts
  keys : (st.heap.map (·.1)).Nodup
  heap : ∀ p ∈ st.heap, ∃ k o, addr env p.1 = some k ∧ C.w0.heap.size ≤ k ∧ w.heap[k]? = some o ∧ ORel env p.2 o
  inj : ∀ p ∈ st.heap, ∀ q ∈ st.heap, p.1 ≠ q.1 → addr env p.1 ≠ addr env q.1
  pre : C.e0 <+: env

/-- What a step leaves alone: blocks that the state does not know; new blocks are new. -/
structure Keep (env : Env) (st : St) (w : World) (env' : Env) (st' : St) (w' : World) : Prop where
  pre : env <+: env'
  size : w.heap.size ≤ w'.heap.size
  block : ∀ k, k < w.heap.size → (∀ p ∈ st.heap, addr env p.1 ≠ some k) → w'.heap[k]? = w.heap[k]?
  keys : ∀ q ∈ st'.heap, ∀ k, addr env' q.1 = some k → (∃ p ∈ st.heap, addr env p.1 = some k) ∨ w.heap.size ≤ k

theorem WRel.addr_some {C : Ctx} {env : Env} {st : St} {w : World} (h : WRel C env st w) {p : Nat × AO} (hp : p ∈ st.heap) : ∃ k, addr env p.1 = some k :=
  let ⟨k, _, hk, _⟩ := h.heap p hp; ⟨k, hk⟩

theorem Keep.refl {C : Ctx} {env : Env} {st : St} {w : World} (_h : WRel C env st w) : Keep env st w env st w :=
  ⟨List.prefix_refl _, Nat.le_refl _, fun _ _ _ => rfl, fun q hq _ hk => .inl ⟨q, hq, hk⟩⟩

theorem Keep.trans {C : Ctx} {env env1 env2 : Env} {st st1 st2 : St} {w w1 w2 : World} (_h0 : WRel C env st w) (_h1 : WRel C env1 st1 w1) (a : Keep env st w env1 st1 w1) (b : Keep env1 st1 w1 env2 st2 w2) :
    Keep env st w env2 st2 w2 where
  pre := a.pre.trans b.pre
  size := Nat.le_trans a.size b.size
  block k hk hn := by
    rw [b.block k (Nat.lt_of_lt_of_le hk a.size) ?_, a.block k hk hn]
    intro q hq he
    rcases a.keys q hq k he with ⟨p, hp, hpk⟩ | hnew
    · exact hn p hp hpk
    · omega
  keys q hq k hk := by
    rcases b.keys q hq k hk with ⟨p, hp, hpk⟩ | hnew
    · rcases a.keys p hp k hpk with hx | hnew
      · exact .inl hx
      · exact .inr hnew
    · exact .inr (Nat.le_trans a.size hnew)

/-- More facts, a longer environment. -/
theorem WRel.ext {C : Ctx} {env : Env} {st : St} {w : World} (h : WRel C env st w) (l : List Sc) : WRel C (env ++ [l]) { st with nb := st.nb + 1 } w where
  below := h.below
  len := by simp [h.len]
  facts := h.facts.mono (List.prefix_append _ _)
  keys := h.keys
  heap p hp := let ⟨k, o, h1, h2, h3, h4⟩ := h.heap p hp; ⟨k, o, addr_mono (List.prefix_append _ _) h1, h2, h3, h4.mono (List.prefix_append _ _)⟩
  inj p hp q hq hne := by
    obtain ⟨k, hk⟩ := h.addr_some hp
    obtain ⟨k', hk'⟩ := h.addr_some hq
    have := h.inj p hp q hq hne
    rw [addr_mono (List.prefix_append _ _) hk, addr_mono (List.prefix_append _ _) hk']
    rwa [hk, hk'] at this
  pre := h.pre.trans (List.prefix_append _ _)

theorem WRel.fact {C : Ctx} {env : Env} {st : St} {w : World} (h : WRel C env st w) {x : X} {v : Bool} (hx : x.den env = some (.b v)) : WRel C env { st with facts := (x, v) :: st.facts } w where
  below := h.below
  len := h.len
  facts p hp := by
    rcases List.mem_cons.1 hp with rfl | hp
    · exact hx
    · exact h.facts p hp
  keys := h.keys
  heap := h.heap
  inj := h.inj
  pre := h.pre

/-- A world that differs in blocks that the state does not know. -/
theorem WRel.world {C : Ctx} {env : Env} {st : St} {w w' : World} (h : WRel C env st w) (hb : Below C.w0.heap.size C.w0 w') (hk : ∀ k, (∃ p ∈ st.heap, addr env p.1 = some k) → w'.heap[k]? = w.heap[k]?) : WRel C env st w' where
  below := hb
  len := h.len
  facts := h.facts
  keys := h.keys
  heap p hp := let ⟨k, o, h1, h2, h3, h4⟩ := h.heap p hp; ⟨k, o, h1, h2, (hk k ⟨p, hp, h1⟩).trans h3, h4⟩
  inj := h.inj
  pre := h.pre

theorem WRel.look {C : Ctx} {env : Env} {st : St} {w : World} (h : WRel C env st w) {id : Nat} {a : AO} (hl : lookB st.heap id = some a) :
    ∃ k o, addr env id = some k ∧ C.w0.heap.size ≤ k ∧ k < w.heap.size ∧ w.heap[k]? = some o ∧ ORel env a o := by
  obtain ⟨k, o, h1, h2, h3, h4⟩ := h.heap _ (lookB_mem hl)
  exact ⟨k, o, h1, h2, (Array.getElem?_eq_some_iff.1 h3).1, h3, h4⟩

/-- One block changes. -/
theorem WRel.set {C : Ctx} {env : Env} {st : St} {w w' : World} (h : WRel C env st w) {id k : Nat} {a a0 : AO} {o : Obj} (hin0 : lookB st.heap id = some a0) (ha : addr env id = some k) (hk : C.w0.heap.size ≤ k) (hb : Below C.w0.heap.size C.w0 w')
    (ho : w'.heap[k]? = some o) (hother : ∀ j, j ≠ k → w'.heap[j]? = w.heap[j]?) (hr : ORel env a o) : WRel C env { st with heap := setB st.heap id a } w' where
  below := hb
  len := h.len
  facts := h.facts
  keys := by rw [keys_setB]; exact h.keys
  heap p hp := by
    rcases mem_setB h.keys hp with ⟨rfl, _⟩ | ⟨hm, hne⟩
    · exact ⟨k, o, ha, hk, ho, hr⟩
    · obtain ⟨k', o', h1, h2, h3, h4⟩ := h.heap p hm
      refine ⟨k', o', h1, h2, ?_, h4⟩
      rw [hother k' ?_]; exact h3
      intro e; subst e
      exact h.inj p hm _ (lookB_mem hin0) hne (h1.trans ha.symm)
  inj p hp q hq hne := by
    have key : ∀ p, p ∈ setB st.heap id a → ∃ p' ∈ st.heap, p'.1 = p.1 := fun p hp => by
      have : p.1 ∈ (setB st.heap id a).map (·.1) := List.mem_map_of_mem hp
      rw [keys_setB] at this
      obtain ⟨p', hp', e⟩ := List.mem_map.1 this
      exact ⟨p', hp', e⟩
    obtain ⟨p', hp', e1⟩ := key p hp
    obtain ⟨q', hq', e2⟩ := key q hq
    rw [← e1, ← e2]
    exact h.inj p' hp' q' hq' (by rw [e1, e2]; exact hne)
  pre := h.pre

/-- A new block. -/
theorem WRel.alloc {C : Ctx} {env : Env} {st : St} {w w' : World} {k : Nat} (h : WRel C (env ++ [[.a k]]) { st with nb := st.nb + 1 } w) {a : AO} {o : Obj} (hl : env.length = st.nb)
    (hfresh : ∀ p ∈ st.heap, addr (env ++ [[.a k]]) p.1 ≠ some k) (hk : C.w0.heap.size ≤ k) (hb : Below C.w0.heap.size C.w0 w') (ho : w'.heap[k]? = some o) (hother : ∀ j, j ≠ k → (∃ p ∈ st.heap, addr (env ++ [[.a k]]) p.1 = some j) → w'.heap[j]? = w.heap[j]?)
    (hr : ORel (env ++ [[.a k]]) a o) : WRel C (env ++ [[.a k]]) { st with nb := st.nb + 1, heap := (st.nb, a) :: st.heap } w' := by
  have hak : addr (env ++ [[.a k]]) st.nb = some k := by
    unfold addr
    rw [← hl]; simp
  have hnew : ∀ p ∈ st.heap, p.1 ≠ st.nb := fun p hp e => hfresh p hp (by rw [e]; exact hak)
  refine ⟨hb, h.len, h.facts, ?_, ?_, ?_, h.pre⟩
  · simp only [List.map_cons, List.nodup_cons]
    refine ⟨fun hm => ?_, h.keys⟩
    obtain ⟨p, hp, e⟩ := List.mem_map.1 hm
    exact hnew p hp e
  · intro p hp
    rcases List.mem_cons.1 hp with rfl | hp
    · exact ⟨k, o, hak, hk, ho, hr⟩
    · obtain ⟨k', o', h1, h2, h3, h4⟩ := h.heap p hp
      refine ⟨k', o', h1, h2, ?_, h4⟩
      rw [hother k' (fun e => hfresh p hp (e ▸ h1)) ⟨p, hp, h1⟩]; exact h3
  · intro p hp q hq hne
    rcases List.mem_cons.1 hp with rfl | hp <;> rcases List.mem_cons.1 hq with rfl | hq
    · exact absurd rfl hne
    · rw [hak]; exact (hfresh q hq).symm
    · rw [hak]; exact hfresh p hp
    · exact h.inj p hp q hq hne

/-- A new block, or one that has a new key. -/
theorem WRel.regrow {C : Ctx} {env : Env} {st : St} {w w' : World} (h : WRel C env st w) {l : List Sc} {k : Nat} (hl : l.head? = some (.a k)) {hp' : List (Nat × AO)} (hsub : hp'.Sublist st.heap) (hne : ∀ p ∈ hp', addr env p.1 ≠ some k)
    (hsame : ∀ p ∈ hp', ∀ j, addr env p.1 = some j → w'.heap[j]? = w.heap[j]?) (hk : C.w0.heap.size ≤ k) (hb : Below C.w0.heap.size C.w0 w') {a : AO} {o : Obj} (ho : w'.heap[k]? = some o) (hr : ORel (env ++ [l]) a o) :
    WRel C (env ++ [l]) { st with nb := st.nb + 1, heap := (st.nb, a) :: hp' } w' ∧ addr (env ++ [l]) st.nb = some k := by
  have hak : addr (env ++ [l]) st.nb = some k := by
    unfold addr
    rw [← h.len]
    cases l with
    | nil => cases hl
    | cons x l => simp at hl; subst hl; simp
  have hlt : ∀ p ∈ st.heap, ∃ j, addr env p.1 = some j ∧ addr (env ++ [l]) p.1 = some j := fun p hp => by
    obtain ⟨j, hj⟩ := h.addr_some hp
    exact ⟨j, hj, addr_mono (List.prefix_append _ _) hj⟩
  have hmem : ∀ p ∈ hp', p ∈ st.heap := fun p hp => hsub.subset hp
  have hnew : ∀ p ∈ hp', addr (env ++ [l]) p.1 ≠ some k := fun p hp e => by
    obtain ⟨j, h1, h2⟩ := hlt p (hmem p hp)
    rw [e] at h2; cases h2
    exact hne p hp h1
  refine ⟨⟨hb, by simp [h.len], h.facts.mono (List.prefix_append _ _), ?_, ?_, ?_, h.pre.trans (List.prefix_append _ _)⟩, hak⟩
  · simp only [List.map_cons, List.nodup_cons]
    refine ⟨fun hm => ?_, h.keys.sublist (hsub.map _)⟩
    obtain ⟨p, hp, e⟩ := List.mem_map.1 hm
    exact hnew p hp (by rw [e]; exact hak)
  · intro p hp
    rcases List.mem_cons.1 hp with rfl | hp
    · exact ⟨k, o, hak, hk, ho, hr⟩
    · obtain ⟨k', o', h1, h2, h3, h4⟩ := h.heap p (hmem p hp)
      exact ⟨k', o', addr_mono (List.prefix_append _ _) h1, h2, (hsame p hp k' h1).trans h3, h4.mono (List.prefix_append _ _)⟩
  · intro p hp q hq hne'
    rcases List.mem_cons.1 hp with rfl | hp <;> rcases List.mem_cons.1 hq with rfl | hq
    · exact absurd rfl hne'
    · rw [hak]; exact (hnew q hq).symm
    · rw [hak]; exact hnew p hp
    · obtain ⟨j, h1, h2⟩ := hlt p (hmem p hp)
      obtain ⟨j', h1', h2'⟩ := hlt q (hmem q hq)
      have := h.inj p (hmem p hp) q (hmem q hq) hne'
      rw [h2, h2']; rwa [h1, h1'] at this

def dropB (heap : List (Nat × AO)) (id : Nat) : List (Nat × AO) := heap.filter fun p => !(p.1.beq id)

theorem dropB_sub (heap : List (Nat × AO)) (id : Nat) : (dropB heap id).Sublist heap := List.filter_sublist

theorem mem_dropB {heap : List (Nat × AO)} {id : Nat} {p : Nat × AO} (h : p ∈ dropB heap id) : p ∈ heap ∧ p.1 ≠ id := by
  unfold dropB at h
  obtain ⟨h1, h2⟩ := List.mem_filter.1 h
  refine ⟨h1, fun e => ?_⟩
  rw [e] at h2
  simp at h2

end Go.Ex

namespace Go.Ex
open Go Go.RowKit


/-! ### What a value that stands for an abstract one is -/
theorem AV.den_int {env : Env} {k : IntKind} {x : X} {v : Value} (h : (AV.int k x).den env = some v) : ∃ n, x.den env = some (.i n) ∧ v = .int k n := by
  simp only [AV.den] at h
  cases hx : x.den env with
  | none => simp [hx] at h
  | some s => cases s <;> simp [hx] at h; exact ⟨_, rfl, h.symm⟩
theorem AV.den_bool {env : Env} {x : X} {v : Value} (h : (AV.bool x).den env = some v) : ∃ n, x.den env = some (.b n) ∧ v = .bool n := by
  simp only [AV.den] at h
  cases hx : x.den env with
  | none => simp [hx] at h
  | some s => cases s <;> simp [hx] at h; exact ⟨_, rfl, h.symm⟩
theorem AV.den_str {env : Env} {x : X} {v : Value} (h : (AV.str x).den env = some v) : ∃ n, x.den env = some (.s n) ∧ v = .string n := by
  simp only [AV.den] at h
  cases hx : x.den env with
  | none => simp [hx] at h
  | some s => cases s <;> simp [hx] at h; exact ⟨_, rfl, h.symm⟩
theorem AV.den_ptr {env : Env} {id off : Nat} {v : Value} (h : (AV.ptr id off).den env = some v) : ∃ k, addr env id = some k ∧ v = .pointer (some ⟨k, off, none⟩) := by
  simp only [AV.den] at h
  cases hx : addr env id with
  | none => simp [hx] at h
  | some s => simp [hx] at h; exact ⟨_, rfl, h.symm⟩
theorem AV.den_slice {env : Env} {id off len cap : Nat} {v : Value} (h : (AV.slice id off len cap).den env = some v) : ∃ k, addr env id = some k ∧ v = .slice (some ⟨k, off, none⟩) len cap := by
  simp only [AV.den] at h
  cases hx : addr env id with
  | none => simp [hx] at h
  | some s => simp [hx] at h; exact ⟨_, rfl, h.symm⟩
theorem AV.den_vsl' {env : Env} {id len : Nat} {v : Value} (h : (AV.vsl id len).den env = some v) : ∃ k c, capAt env id = some (k, c) ∧ v = .slice (some ⟨k, 0, none⟩) len c ∧ len ≤ c := by
  simp only [AV.den] at h
  split at h
  · rename_i k c hx
    split at h
    · rename_i hle; cases h; exact ⟨k, c, hx, rfl, hle⟩
    · cases h
  · cases h
theorem AV.den_vsl {env : Env} {id len : Nat} {v : Value} (h : (AV.vsl id len).den env = some v) : ∃ k c, capAt env id = some (k, c) ∧ v = .slice (some ⟨k, 0, none⟩) len c :=
  let ⟨k, c, h1, h2, _⟩ := AV.den_vsl' h; ⟨k, c, h1, h2⟩
theorem AV.den_rsl {env : Env} {id : Nat} {len : X} {v : Value} (h : (AV.rsl id len).den env = some v) : ∃ k o c n, rowAt env id = some (k, o, c) ∧ len.den env = some (.i n) ∧ 0 ≤ n ∧ v = .slice (some ⟨k, o, none⟩) n.toNat c := by
  simp only [AV.den] at h
  split at h
  · rename_i k o c n h1 h2
    split at h
    · rename_i hn; cases h; exact ⟨k, o, c, n, h1, h2, hn, rfl⟩
    · cases h
  · cases h
theorem AV.den_rptr {env : Env} {id off : Nat} {v : Value} (h : (AV.rptr id off).den env = some v) : ∃ k o c, rowAt env id = some (k, o, c) ∧ v = .pointer (some ⟨k, o + off, none⟩) := by
  simp only [AV.den] at h
  split at h
  · rename_i k o c h1
    cases h; exact ⟨k, o, c, h1, rfl⟩
  · cases h
theorem AV.den_map {env : Env} {id : Nat} {v : Value} (h : (AV.map id).den env = some v) : ∃ k, addr env id = some k ∧ v = .map (some k) := by
  simp only [AV.den] at h
  cases hx : addr env id with
  | none => simp [hx] at h
  | some s => simp [hx] at h; exact ⟨_, rfl, h.symm⟩
theorem AV.den_yield {env : Env} {id : Nat} {v : Value} (h : (AV.yield id).den env = some v) : ∃ k, addr env id = some k ∧ v = .func (.yield k) #[] #[] := by
  simp only [AV.den] at h
  cases hx : addr env id with
  | none => simp [hx] at h
  | some s => simp [hx] at h; exact ⟨_, rfl, h.symm⟩
theorem AV.den_agg {env : Env} {l : List AV} {v : Value} (h : (AV.agg l).den env = some v) : ∃ vs, AV.dens env l = some vs ∧ v = .agg vs.toArray := by
  simp only [AV.den] at h
  cases hx : AV.dens env l with
  | none => simp [hx] at h
  | some s => simp [hx] at h; exact ⟨_, rfl, h.symm⟩
theorem AV.den_tup {env : Env} {l : List AV} {v : Value} (h : (AV.tup l).den env = some v) : ∃ vs, AV.dens env l = some vs ∧ v = .tuple vs.toArray := by
  simp only [AV.den] at h
  cases hx : AV.dens env l with
  | none => simp [hx] at h
  | some s => simp [hx] at h; exact ⟨_, rfl, h.symm⟩
theorem AV.den_iface {env : Env} {t : Nat} {a v : _} (h : (AV.iface t a).den env = some v) : ∃ u, a.den env = some u ∧ v = .iface t u := by
  simp only [AV.den] at h
  cases hx : a.den env with
  | none => simp [hx] at h
  | some s => simp [hx] at h; exact ⟨_, rfl, h.symm⟩
theorem AV.den_func {env : Env} {f : Nat} {a c : List AV} {v : Value} (h : (AV.func f a c).den env = some v) : ∃ as cs, AV.dens env a = some as ∧ AV.dens env c = some cs ∧ v = .func (.func f) as.toArray cs.toArray := by
  simp only [AV.den] at h
  cases hx : AV.dens env a with
  | none => simp [hx] at h
  | some s =>
    cases hy : AV.dens env c with
    | none => simp [hx, hy] at h
    | some u => simp [hx, hy] at h; exact ⟨_, _, rfl, rfl, h.symm⟩
theorem AV.dens_cons {env : Env} {a : AV} {l : List AV} {vs : List Value} (h : AV.dens env (a :: l) = some vs) : ∃ v us, a.den env = some v ∧ AV.dens env l = some us ∧ vs = v :: us := by
  simp only [AV.dens] at h
  cases hx : a.den env with
  | none => simp [hx] at h
  | some s =>
    cases hy : AV.dens env l with
    | none => simp [hx, hy] at h
    | some u => simp [hx, hy] at h; exact ⟨_, _, rfl, rfl, h.symm⟩
theorem AV.dens_nil' {env : Env} {vs : List Value} (h : AV.dens env [] = some vs) : vs = [] := by
  simp only [AV.dens] at h; cases h; rfl

/-! ### The table holds of the program -/
def tyAgg : TypeDesc → Bool
  | .struct _ | .array _ _ => true
  | _ => false

def CK.of : CK → Value → Bool
  | .int k, .int k' _ => kindEqb k k'
  | .str, .string _ => true
  | .bool, .bool _ => true
  | _, _ => false

def okCells : List CK → List Value → Bool
  | [], [] => true
  | k :: ks, v :: vs => k.of v && okCells ks vs
  | _, _ => false

def eqOne : Value → Value → Bool
  | .int _ a, .int _ b => a == b
  | .string a, .string b => a.toList == b.toList
  | .bool a, .bool b => a == b
  | _, _ => false

def eqAll : List Value → List Value → Bool
  | a :: l, b :: m => eqOne a b && eqAll l m
  | _, _ => true

structure TyOk (P : Program) (t : Nat) (ti : TI) : Prop where
  und : P.underlying t = some ti.desc
  info : ∃ info z, P.info? t = some info ∧ info.size = ti.size ∧ info.zero = some z ∧ AV.dens [] ti.zero = some z.cells.toList ∧ (∀ v ∈ z.cells.toList, isOne v = true) ∧ (ti.plain = true → isOne z = true)
  len : ti.zero.length = ti.size
  bytes : ∀ info, P.info? t = some info → info.bytes = ti.bytes

theorem TyOk.run_und {P : Program} {t : Nat} {ti : TI} (h : TyOk P t ti) (w : World) : (underlying t).run P w = .ok ti.desc w := run_underlying h.und w
theorem TyOk.run_size {P : Program} {t : Nat} {ti : TI} (h : TyOk P t ti) (w : World) : (sizeOf t).run P w = .ok ti.size w := by
  obtain ⟨info, z, h1, h2, _⟩ := h.info
  simp [sizeOf, typeInfo, h1, h2]
theorem TyOk.run_isAgg {P : Program} {t : Nat} {ti : TI} (h : TyOk P t ti) (w : World) : (isAgg t).run P w = .ok (tyAgg ti.desc) w := by
  unfold isAgg
  simp only [Sem.run_bind, h.run_und, Result.andThen_ok]
  cases hd : ti.desc <;> simp [tyAgg]
theorem TyOk.run_zero {P : Program} {t : Nat} {ti : TI} (h : TyOk P t ti) (w : World) : ∃ z, (zeroValue t).run P w = .ok z w ∧ AV.dens [] ti.zero = some z.cells.toList ∧ (∀ v ∈ z.cells.toList, isOne v = true) := by
  obtain ⟨info, z, h1, h2, h3, h4, h5, _⟩ := h.info
  exact ⟨z, by simp [zeroValue, typeInfo, h1, h3], h4, h5⟩

theorem TyOk.run_zero1 {P : Program} {t : Nat} {ti : TI} (h : TyOk P t ti) (hp : ti.plain = true) {a : AV} (hz : ti.zero = [a]) (w : World) : ∃ z, (zeroValue t).run P w = .ok z w ∧ a.den [] = some z := by
  obtain ⟨info, z, h1, h2, h3, h4, h5, h6⟩ := h.info
  refine ⟨z, by simp [zeroValue, typeInfo, h1, h3], ?_⟩
  have hc : z.cells.toList = [z] := by
    have := h6 hp
    cases z <;> first | rfl | (cases this; done)
  rw [hz, hc] at h4
  simp only [AV.dens] at h4
  cases ha : a.den [] with
  | none => rw [ha] at h4; cases h4
  | some v => rw [ha] at h4; simp at h4; rw [h4]

/-! ### Operands -/
def evO (tm : Tm) : Operand → Option AV
  | .tmp t => (tm.get? t)
  | .const v => AV.ofValue v
  | .global g => some (.gptr g 0)
  | .func f => some (.func f [] [])

def evOs (tm : Tm) : List Operand → Option (List AV)
  | [] => some []
  | x :: l => match evO tm x, evOs tm l with
    | some a, some as => some (a :: as)
    | _, _ => none

/-- The temporaries stand for those of the machine. -/
def TRel (env : Env) (tm : Tm) (tmps : Array Value) : Prop := ∃ vs, AV.dens env tm.toL = some vs ∧ tmps = vs.toArray

theorem TRel.mono {env env' : Env} (h : env <+: env') {tm : Tm} {tmps : Array Value} : TRel env tm tmps → TRel env' tm tmps
  | ⟨vs, hv, e⟩ => ⟨vs, AV.dens_mono h _ hv, e⟩

theorem evO_ok {env : Env} {tm : Tm} {a : Act} (ht : TRel env tm a.tmps) {x : Operand} {v : AV} (h : evO tm x = some v) : v.den env = some (a.eval x) := by
  obtain ⟨vs, hv, e⟩ := ht
  cases x with
  | tmp t =>
    simp only [evO] at h
    rw [Tm.get?_eq] at h
    obtain ⟨u, hu, hd⟩ := AV.dens_get hv h
    simp [Act.eval, e, hu, hd]
  | const c => exact AV.ofValue_den h
  | global g => cases h; rfl
  | func f => cases h; rfl

/-! ### Cells -/
def loadFrom (ti : TI) (cs : List AV) (off : Nat) : Option AV :=
  if tyAgg ti.desc then (if off + ti.size ≤ cs.length then some (.agg ((cs.drop off).take ti.size)) else none) else cs[off]?

theorem dens_nil {env : Env} {l : List AV} {vs : List Value} (h : AV.dens [] l = some vs) : AV.dens env l = some vs := AV.dens_mono (List.nil_prefix) l h

theorem loadFrom_part {P : Program} {t : Nat} {ti : TI} (ht : TyOk P t ti) {env : Env} {cs : List AV} {vs : List Value} (hv : AV.dens env cs = some vs) {off : Nat} {a : AV} (h : loadFrom ti cs off = some a) (w : World) :
    ∃ v, a.den env = some v ∧ (part t vs.toArray off).run P w = .ok v w := by
  unfold loadFrom at h
  unfold part
  simp only [Sem.run_bind, ht.run_isAgg, Result.andThen_ok]
  split at h
  · rename_i hagg
    split at h
    · cases h
      simp only [hagg, if_true, Sem.run_bind, ht.run_size, Result.andThen_ok, Sem.run_pure]
      refine ⟨.agg ((vs.drop off).take ti.size).toArray, ?_, ?_⟩
      · simp only [AV.den, AV.dens_take _ (AV.dens_drop _ hv)]
      · congr 2
        simp [List.extract_eq_take_drop]
    · cases h
  · rename_i hagg
    obtain ⟨v, hv1, hv2⟩ := AV.dens_get hv h
    refine ⟨v, hv2, ?_⟩
    simp [hagg, hv1]

theorem loadFrom_loadAt {P : Program} {t : Nat} {ti : TI} (ht : TyOk P t ti) {env : Env} {cs : List AV} {vs : List Value} (hv : AV.dens env cs = some vs) {off : Nat} {a : AV} (h : loadFrom ti cs off = some a) {w : World} {b o : Nat}
    (hb : ∀ (j : Nat) (v : Value), vs[j]? = some v → w.cell? ⟨b, o + j, none⟩ = some v) :
    ∃ v, a.den env = some v ∧ (loadVar t ⟨b, o + off, none⟩).run P w = .ok v w := by
  unfold loadFrom at h
  unfold loadVar
  simp only [Sem.run_bind, ht.run_isAgg, Result.andThen_ok]
  split at h
  · rename_i hagg
    split at h
    · rename_i hle
      cases h
      have hlen := AV.dens_length hv
      simp only [hagg, if_true, Sem.run_bind, ht.run_size, Result.andThen_ok, Sem.run_pure]
      have hl : (loadCells ⟨b, o + off, none⟩ ((vs.drop off).take ti.size).length).run P w = .ok ((vs.drop off).take ti.size).toArray w := by
        refine run_loadCells_list w _ _ fun j v hj => ?_
        have hadd : (⟨b, o + off, none⟩ : Addr).add j = ⟨b, o + (off + j), none⟩ := by unfold Addr.add; split <;> simp_all [Nat.add_assoc]
        rw [hadd]
        refine hb _ _ ?_
        rw [List.getElem?_take] at hj
        split at hj
        · simpa using hj
        · cases hj
      rw [show ((vs.drop off).take ti.size).length = ti.size by simp; omega] at hl
      rw [hl]
      refine ⟨.agg ((vs.drop off).take ti.size).toArray, ?_, rfl⟩
      simp only [AV.den, AV.dens_take _ (AV.dens_drop _ hv)]
    · cases h
  · rename_i hagg
    obtain ⟨v, hv1, hv2⟩ := AV.dens_get hv h
    refine ⟨v, hv2, ?_⟩
    have hc : w.cell? ⟨b, o + off, none⟩ = some v := hb _ _ hv1
    simp [hagg, hc]

theorem loadFrom_loadC {P : Program} {t : Nat} {ti : TI} (ht : TyOk P t ti) {env : Env} {cs : List AV} {vs : List Value} (hv : AV.dens env cs = some vs) {off : Nat} {a : AV} (h : loadFrom ti cs off = some a) {w : World} {b : Nat}
    (hb : ∀ (j : Nat) (v : Value), vs[j]? = some v → w.cell? ⟨b, j, none⟩ = some v) :
    ∃ v, a.den env = some v ∧ (loadVar t ⟨b, off, none⟩).run P w = .ok v w := by
  have := loadFrom_loadAt ht hv h (w := w) (b := b) (o := 0) (fun j v hj => by rw [Nat.zero_add]; exact hb j v hj)
  rwa [Nat.zero_add] at this

theorem loadFrom_load {P : Program} {t : Nat} {ti : TI} (ht : TyOk P t ti) {env : Env} {cs : List AV} {vs : List Value} (hv : AV.dens env cs = some vs) {off : Nat} {a : AV} (h : loadFrom ti cs off = some a) {w : World} {b : Nat} {e : TypeId} {fz : Nat × Nat}
    (hb : w.heap[b]? = some (.cells vs.toArray e fz)) :
    ∃ v, a.den env = some v ∧ (loadVar t ⟨b, off, none⟩).run P w = .ok v w :=
  loadFrom_loadC ht hv h fun j v hj => by rw [cell_of_row w b j vs.toArray e fz hb]; simpa using hj

/-! ### Comparisons of values -/
def eqX1 : CK → AV → AV → Option X
  | .int k, .int k1 x, .int k2 y => if kindEqb k k1 && kindEqb k k2 then some (X.mkBin .eql k x y) else none
  | .str, .str x, .str y => some (X.mkSeq x y)
  | .bool, .bool x, .bool y => some (X.mkBeq x y)
  | _, _, _ => none

def eqXs : List CK → List AV → List AV → Option X
  | [], [], [] => some (.cb true)
  | k :: ks, a :: as, b :: bs => match eqX1 k a b, eqXs ks as bs with
    | some x, some y => some (X.mkAnd x y)
    | _, _ => none
  | _, _, _ => none

theorem eqX1_ok {env : Env} {k : CK} {a b : AV} {u v : Value} {x : X} (ha : a.den env = some u) (hb : b.den env = some v) (h : eqX1 k a b = some x) : x.den env = some (.b (eqOne u v)) ∧ k.of u = true ∧ k.of v = true := by
  unfold eqX1 at h
  split at h
  · rename_i k k1 x y k2 z
    split at h
    · rename_i hk
      cases h
      simp only [Bool.and_eq_true] at hk
      obtain ⟨n, hn, rfl⟩ := AV.den_int ha
      obtain ⟨m, hm, rfl⟩ := AV.den_int hb
      refine ⟨X.mkBin_den _ _ _ _ _ ?_, hk.1, hk.2⟩
      simp only [X.den, hn, hm, binSem, eqOne]
    · cases h
  · cases h
    obtain ⟨n, hn, rfl⟩ := AV.den_str ha
    obtain ⟨m, hm, rfl⟩ := AV.den_str hb
    refine ⟨X.mkSeq_den _ _ _ ?_, rfl, rfl⟩
    simp only [X.den, hn, hm, eqOne]
  · cases h
    obtain ⟨n, hn, rfl⟩ := AV.den_bool ha
    obtain ⟨m, hm, rfl⟩ := AV.den_bool hb
    exact ⟨X.mkBeq_den _ _ _ (by simp only [X.den, hn, hm, eqOne]), rfl, rfl⟩
  · cases h

theorem eqXs_ok {env : Env} : ∀ {ks : List CK} {as bs : List AV} {us vs : List Value} {x : X}, AV.dens env as = some us → AV.dens env bs = some vs → eqXs ks as bs = some x →
    x.den env = some (.b (eqAll us vs)) ∧ okCells ks us = true ∧ okCells ks vs = true
  | [], [], [], us, vs, x, ha, hb, h => by
    cases AV.dens_nil' ha; cases AV.dens_nil' hb; cases h
    exact ⟨rfl, rfl, rfl⟩
  | k :: ks, a :: as, b :: bs, us, vs, x, ha, hb, h => by
    obtain ⟨u, us', hu, hus, rfl⟩ := AV.dens_cons ha
    obtain ⟨v, vs', hv, hvs, rfl⟩ := AV.dens_cons hb
    simp only [eqXs] at h
    split at h
    · rename_i x1 y1 hx hy
      cases h
      obtain ⟨h1, h2, h3⟩ := eqX1_ok hu hv hx
      obtain ⟨g1, g2, g3⟩ := eqXs_ok hus hvs hy
      refine ⟨X.mkAnd_den _ _ _ ?_, ?_, ?_⟩
      · simp only [X.den, h1, g1, eqAll]
      · simp only [okCells, h2, g2, Bool.and_self]
      · simp only [okCells, h3, g3, Bool.and_self]
    · cases h
  | [], [], _ :: _, _, _, _, _, _, h => by cases h
  | [], _ :: _, _, _, _, _, _, _, h => by cases h
  | _ :: _, [], _, _, _, _, _, _, h => by cases h
  | _ :: _, _ :: _, [], _, _, _, _, _, h => by cases h

end Go.Ex

namespace Go.Ex
open Go Go.RowKit

structure TabOk (C : Ctx) : Prop where
  tys : ∀ t ti, C.T.tys t = some ti → TyOk C.P t ti
  eqs : ∀ t ks, C.T.eqk t = some ks → ∀ (op : BinOp) (x y : Operand) (w : World) (xs ys : List Value), okCells ks xs = true → okCells ks ys = true →
    (eqGuard op t x y (.agg xs.toArray) (.agg ys.toArray)).run C.P w = .ok () w ∧ (Op.equal t (.agg xs.toArray) (.agg ys.toArray)).run C.P w = .ok (eqAll xs ys) w
  funs : ∀ f fn, C.T.funs f = some fn → C.P.funcs[f]? = some fn
  enters : ∀ f, ((C.T.funs f).isSome || (C.T.specs f).isSome) = true → ∀ args w, (callFunc f args).run C.P w = .ok (.enter f args) w
  gtab : ∀ b l, C.T.gtab b = some l → ∃ vs e fz, C.w0.heap[b]? = some (.cells vs.toArray e fz) ∧ AV.dens C.e0 l = some vs
  ro : ∀ id ao, C.T.ro id = some ao → ∃ k o, addr C.e0 id = some k ∧ C.w0.heap[k]? = some o ∧ ORel C.e0 ao o
  rs : ∀ id cs, C.T.rs id = some cs → ∃ k o c vs, rowAt C.e0 id = some (k, o, c) ∧ k < C.w0.heap.size ∧ AV.dens C.e0 cs = some vs ∧ ∀ (j : Nat) v, vs[j]? = some v → C.w0.cell? ⟨k, o + j, none⟩ = some v
  mixed : C.P.follows .mixedOrders = true
  add64 : ∀ f, C.T.add64 f = true → ∀ (x y : Int) (w : World), 0 ≤ x → x < 18446744073709551616 → 0 ≤ y → y < 18446744073709551616 →
    (callFunc f #[.int .u64 x, .int .u64 y, .int .u64 0]).run C.P w = .ok (.value (.tuple #[.int .u64 ((x + y) % 18446744073709551616), .int .u64 ((x + y) / 18446744073709551616)])) w

def isLit : X → Bool
  | .ci _ => true
  | _ => false

def binAV (T : Tab) (op : BinOp) (t : Nat) (a b : AV) : Option AV :=
  match a, b with
  | .int k x, .int k' y =>
    match op with
    | .shl | .shr => match y with
      | .ci n => if n < 0 then none else some (.int k (X.mkShf op k x y))
      | _ => none
    | _ => if kindEqb k k' then
        match op with
        | .add | .sub | .mul | .and | .or => some (.int k (X.mkBin op k x y))
        | .quo | .rem => match y with
          | .ci n => if n = 0 then none else some (.int k (X.mkBin op k x y))
          | _ => none
        | .eql => some (.bool (X.mkBin .eql k x y))
        | .neq => some (.bool (X.mkNot (X.mkBin .eql k x y)))
        | .lss => some (.bool (X.mkBin .lss k x y))
        | .gtr => some (.bool (X.mkBin .lss k y x))
        | .leq => some (.bool (X.mkNot (X.mkBin .lss k y x)))
        | .geq => some (.bool (X.mkNot (X.mkBin .lss k x y)))
        | _ => none
      else none
  | .str x, .str y =>
    match op with
    | .eql => some (.bool (X.mkSeq x y))
    | .neq => some (.bool (X.mkNot (X.mkSeq x y)))
    | _ => none
  | .bool x, .bool y =>
    match T.tys t with
    | some ti => match ti.desc, op with
      | .bool, .eql => some (.bool (X.mkBeq x y))
      | .bool, .neq => some (.bool (X.mkNot (X.mkBeq x y)))
      | _, _ => none
    | none => none
  | .agg xs, .agg ys =>
    match T.eqk t with
    | some ks => match eqXs ks xs ys, op with
      | some x, .eql => some (.bool x)
      | some x, .neq => some (.bool (X.mkNot x))
      | _, _ => none
    | none => none
  | _, _ => none

theorem run_eqGuard_other {P : Program} {op : BinOp} {t : Nat} {x y : Operand} {a b : Value} {w : World} (h : ∀ l m, a = .agg l → b = .agg m → False) (h' : a = .nilIface → False) : (eqGuard op t x y a b).run P w = .ok () w := by
  cases op <;> first
    | rfl
    | (cases a <;> first
        | rfl
        | exact (h' rfl).elim
        | (cases b <;> first
            | rfl
            | exact (h _ _ rfl rfl).elim))

def Sc.toVal (k : IntKind) : Sc → Value
  | .i n => .int k n
  | .b q => .bool q
  | _ => undef

theorem run_bin {P : Program} {op : BinOp} {k : IntKind} {n m : Int} {r : Sc} (h : binSem op k n m = some r) (t : Nat) (w : World) : (binOp op t (.int k n) (.int k m)).run P w = .ok (r.toVal k) w := by
  cases op <;> simp only [binSem] at h <;> first
    | (cases h; done)
    | (cases h; simp [binOp, Op.intArith, Op.intBits, Op.intCmp, Sc.toVal]; done)
    | (split at h
       · cases h
       · rename_i hm; cases h; simp [binOp, Op.intDiv, hm, Sc.toVal])

theorem run_cmp {P : Program} {k : IntKind} {n m : Int} (t : Nat) (w : World) :
    (binOp .neq t (.int k n) (.int k m)).run P w = .ok (.bool (!(n == m))) w ∧ (binOp .gtr t (.int k n) (.int k m)).run P w = .ok (.bool (decide (m < n))) w ∧
    (binOp .leq t (.int k n) (.int k m)).run P w = .ok (.bool (!(decide (m < n)))) w ∧ (binOp .geq t (.int k n) (.int k m)).run P w = .ok (.bool (!(decide (n < m)))) w := by
  refine ⟨?_, ?_, ?_, ?_⟩
  · simp [binOp, Op.intCmp, bne]
  · simp [binOp, Op.intCmp]
  · simp only [binOp, Op.intCmp, ne_eq, not_true_eq_false, if_false, Sem.run_pure]
    congr 2
    by_cases hh : m < n <;> simp [hh] <;> omega
  · simp only [binOp, Op.intCmp, ne_eq, not_true_eq_false, if_false, Sem.run_pure]
    congr 2
    by_cases hh : n < m <;> simp [hh] <;> omega

theorem den_lit {env : Env} {n : Int} {m : Int} (h : (X.ci n).den env = some (.i m)) : m = n := by
  simp only [X.den] at h; cases h; rfl

theorem run_equal_bool {P : Program} {t : Nat} (h : P.underlying t = some .bool) (n m : Bool) (w : World) : (Op.equal t (.bool n) (.bool m)).run P w = .ok (n == m) w := by
  have e : ∀ d, (Op.equalIn (d + 1) t (.bool n) (.bool m)).run P w = .ok (n == m) w := by
    intro d
    simp only [Op.equalIn, Sem.run_bind, run_underlying h, Result.andThen_ok, Sem.run_pure]
  exact e 9999

theorem binAV_ok {C : Ctx} (hT : TabOk C) {env : Env} {op : BinOp} {t : Nat} {x y : Operand} {a b r : AV} {u v : Value} (ha : a.den env = some u) (hb : b.den env = some v) (h : binAV C.T op t a b = some r) (w : World) :
    ∃ q, r.den env = some q ∧ ((do eqGuard op t x y u v; binOp op t u v : Sem Value)).run C.P w = .ok q w := by
  unfold binAV at h
  split at h
  · rename_i k X1 k' X2
    obtain ⟨n, hn, rfl⟩ := AV.den_int ha
    obtain ⟨m, hm, rfl⟩ := AV.den_int hb
    have hg : (eqGuard op t x y (.int k n) (.int k' m)).run C.P w = .ok () w := run_eqGuard_other (fun _ _ h _ => by cases h) (fun h => by cases h)
    simp only [Sem.run_bind, hg, Result.andThen_ok]
    split at h
    · split at h
      · rename_i c
        have hmc := den_lit hm; subst hmc
        split at h
        · cases h
        · rename_i hneg
          cases h
          refine ⟨.int k (k.wrap (n * 2 ^ (Min.min m.toNat k.bits))), ?_, ?_⟩
          · simp only [AV.den]
            rw [X.mkShf_den env .shl k X1 (.ci m) (r := .i (k.wrap (n * 2 ^ (Min.min m.toNat k.bits)))) (by simp only [X.den, hn, shfSem, if_neg hneg])]
          · simp [binOp, Op.shift, hneg]
      · cases h
    · split at h
      · rename_i c
        have hmc := den_lit hm; subst hmc
        split at h
        · cases h
        · rename_i hneg
          cases h
          refine ⟨.int k (n.fdiv (2 ^ (Min.min m.toNat k.bits))), ?_, ?_⟩
          · simp only [AV.den]
            rw [X.mkShf_den env .shr k X1 (.ci m) (r := .i (n.fdiv (2 ^ (Min.min m.toNat k.bits)))) (by simp only [X.den, hn, shfSem, if_neg hneg])]
          · simp [binOp, Op.shift, hneg]
      · cases h
    · rename_i hnl hnr
      split at h
      · rename_i hk
        have hkk := kindEqb_eq hk; subst hkk
        obtain ⟨c1, c2, c3, c4⟩ := run_cmp (P := C.P) (k := k) (n := n) (m := m) t w
        have ar : ∀ {o : BinOp} {r : Sc}, binSem o k n m = some r → (X.mkBin o k X1 X2).den env = some r := fun {o} {r} hr => X.mkBin_den env o k X1 X2 (by simp only [X.den, hn, hm]; exact hr)
        have ar' : ∀ {o : BinOp} {r : Sc}, binSem o k m n = some r → (X.mkBin o k X2 X1).den env = some r := fun {o} {r} hr => X.mkBin_den env o k X2 X1 (by simp only [X.den, hn, hm]; exact hr)
        have nt : ∀ {z : X} {v : Bool}, z.den env = some (.b v) → (X.mkNot z).den env = some (.b (!v)) := fun {z} {v} hz => X.mkNot_den env z (by simp only [X.den, hz])
        split at h
        · cases h; exact ⟨_, by simp only [AV.den, ar (o := .add) rfl]; rfl, run_bin (op := .add) rfl t w⟩
        · cases h; exact ⟨_, by simp only [AV.den, ar (o := .sub) rfl]; rfl, run_bin (op := .sub) rfl t w⟩
        · cases h; exact ⟨_, by simp only [AV.den, ar (o := .mul) rfl]; rfl, run_bin (op := .mul) rfl t w⟩
        · cases h; exact ⟨_, by simp only [AV.den, ar (o := .and) rfl]; rfl, run_bin (op := .and) rfl t w⟩
        · cases h; exact ⟨_, by simp only [AV.den, ar (o := .or) rfl]; rfl, run_bin (op := .or) rfl t w⟩
        · split at h
          · have hmc := den_lit hm; subst hmc
            split at h
            · cases h
            · rename_i hz
              cases h
              have hb : binSem .quo k n m = some (.i (k.wrap (n.tdiv m))) := by simp only [binSem, if_neg hz]
              exact ⟨.int k (k.wrap (n.tdiv m)), by simp only [AV.den, ar hb], run_bin hb t w⟩
          · cases h
        · split at h
          · have hmc := den_lit hm; subst hmc
            split at h
            · cases h
            · rename_i hz
              cases h
              have hb : binSem .rem k n m = some (.i (n.tmod m)) := by simp only [binSem, if_neg hz]
              exact ⟨.int k (n.tmod m), by simp only [AV.den, ar hb], run_bin hb t w⟩
          · cases h
        · cases h; exact ⟨.bool (n == m), by simp only [AV.den, ar (o := .eql) rfl], run_bin (op := .eql) rfl t w⟩
        · cases h; exact ⟨.bool (!(n == m)), by simp only [AV.den, nt (ar (o := .eql) rfl)], c1⟩
        · cases h; exact ⟨.bool (decide (n < m)), by simp only [AV.den, ar (o := .lss) rfl], run_bin (op := .lss) rfl t w⟩
        · cases h; exact ⟨.bool (decide (m < n)), by simp only [AV.den, ar' (o := .lss) rfl], c2⟩
        · cases h; exact ⟨.bool (!(decide (m < n))), by simp only [AV.den, nt (ar' (o := .lss) rfl)], c3⟩
        · cases h; exact ⟨.bool (!(decide (n < m))), by simp only [AV.den, nt (ar (o := .lss) rfl)], c4⟩
        · cases h
      · cases h
  · obtain ⟨n, hn, rfl⟩ := AV.den_str ha
    obtain ⟨m, hm, rfl⟩ := AV.den_str hb
    have hg : (eqGuard op t x y (.string n) (.string m)).run C.P w = .ok () w := run_eqGuard_other (fun _ _ h _ => by cases h) (fun h => by cases h)
    simp only [Sem.run_bind, hg, Result.andThen_ok]
    split at h
    · cases h
      refine ⟨.bool (n.toList == m.toList), ?_, by simp [binOp, Op.stringOp]⟩
      simp only [AV.den]
      rw [X.mkSeq_den env _ _ (r := .b (n.toList == m.toList)) (by simp only [X.den, hn, hm])]
    · cases h
      refine ⟨.bool (!(n.toList == m.toList)), ?_, by simp [binOp, Op.stringOp]⟩
      simp only [AV.den]
      rw [X.mkNot_den env _ (r := .b (!(n.toList == m.toList))) (by simp only [X.den]; rw [X.mkSeq_den env _ _ (r := .b (n.toList == m.toList)) (by simp only [X.den, hn, hm])])]
    · cases h
  · rename_i xx yy
    obtain ⟨n, hn, rfl⟩ := AV.den_bool ha
    obtain ⟨m, hm, rfl⟩ := AV.den_bool hb
    have hg : (eqGuard op t x y (.bool n) (.bool m)).run C.P w = .ok () w := run_eqGuard_other (fun _ _ h _ => by cases h) (fun h => by cases h)
    simp only [Sem.run_bind, hg, Result.andThen_ok]
    split at h
    · rename_i ti hti
      have hty := (hT.tys _ _ hti).und
      split at h
      · rename_i hd
        cases h
        rw [hd] at hty
        have hbe := X.mkBeq_den env xx yy (r := .b (n == m)) (by simp only [X.den, hn, hm])
        refine ⟨.bool (n == m), by simp only [AV.den, hbe], ?_⟩
        have he := run_equal_bool hty n m w
        simp only [binOp, Sem.run_bind, he, Result.andThen_ok, Sem.run_pure]
      · rename_i hd
        cases h
        rw [hd] at hty
        have hbe := X.mkBeq_den env xx yy (r := .b (n == m)) (by simp only [X.den, hn, hm])
        refine ⟨.bool (!(n == m)), ?_, ?_⟩
        · simp only [AV.den]
          rw [X.mkNot_den env _ (r := .b (!(n == m))) (by simp only [X.den, hbe])]
        · have he := run_equal_bool hty n m w
          simp only [binOp, Sem.run_bind, he, Result.andThen_ok, Sem.run_pure]
      · cases h
    · cases h
  · obtain ⟨us, hus, rfl⟩ := AV.den_agg ha
    obtain ⟨vs, hvs, rfl⟩ := AV.den_agg hb
    split at h
    · rename_i ks hks
      split at h
      · rename_i X1 hX1
        cases h
        obtain ⟨h1, h2, h3⟩ := eqXs_ok hus hvs hX1
        obtain ⟨g1, g2⟩ := hT.eqs _ _ hks .eql x y w us vs h2 h3
        refine ⟨.bool (eqAll us vs), by simp only [AV.den, h1], ?_⟩
        simp only [g1, binOp, Sem.run_bind, g2, Result.andThen_ok, Sem.run_pure]
      · rename_i X1 hX1
        cases h
        obtain ⟨h1, h2, h3⟩ := eqXs_ok hus hvs hX1
        obtain ⟨g1, g2⟩ := hT.eqs _ _ hks .neq x y w us vs h2 h3
        refine ⟨.bool (!(eqAll us vs)), ?_, ?_⟩
        · simp only [AV.den]
          rw [X.mkNot_den env _ (r := .b (!(eqAll us vs))) (by simp only [X.den, h1])]
        · simp only [g1, binOp, Sem.run_bind, g2, Result.andThen_ok, Sem.run_pure]
      · cases h
    · cases h
  · cases h

end Go.Ex
