/- The definitions of an abstract run: symbolic values, the abstract state, the conditions that one operation, one region and one piece of code leave to be shown. -/
import Derived.Calls
import Derived.Orders
import Derived.Below
import Derived.Laws.AppendOwn
namespace Go.Gs

/-- A symbolic value: what is known of a value of the program. -/
inductive SV : Type 1
  | val (v : Value)
  | pr (p : Prop) (i : Decidable p)
  | agg (cs : List SV)
  | sl {α : Type} (enc : α → List SV) (xs : List α)
  | ptr (cs : List SV)
  | loc (k off : Nat)
  | own (k : Nat)
  | eloc (k sz : Nat) (i : Int) (off : Nat)
  | win (k sz : Nat) (lo n : Int)
  | fn (f : FuncId) (caps : List SV)
  | tup (vs : List SV)
  | junk
  | nils
  | anyb
  | full {α : Type} (enc : α → List SV) (xs : List α)
  | dptr (cs : List SV)
  | dfn (f : FuncId) (caps : List SV)
  | ifc (t : TypeId) (s : SV)

/-- What a block of one's own holds. -/
inductive Mem : Type 1
  | box (T : TypeId) (cs : List SV)
  | arr (T : TypeId) {α : Type} (enc : α → List SV) (sz : Nat) (xs : List α)
  | garr (T : TypeId) (sz : Nat) (xs : List (List SV))
  | map (es : List (Int × SV))

/-- An abstract state: what is known of the temporaries, of the blocks of one's own; the next name of a block; how many temporaries there are; how many blocks were handed over at the call. -/
structure St : Type 1 where
  L : List (Nat × SV)
  M : List (Nat × Mem)
  nk : Nat
  nt : Nat
  n0 : Nat

/-- What an operation does to the blocks of one's own. -/
inductive MD : Type 1
  | none
  | push (m : Mem)
  | set (k : Nat) (m : Mem)
  | drop (k : Nat)
  | repl (k : Nat) (m : Mem)
  | give (ks : List Nat) (new : List (Nat × Mem)) (nn : Nat)

def look : List (Nat × SV) → Nat → Option SV
  | [], _ => none
  | (k, s) :: r, t => match Nat.beq k t with
    | true => some s
    | false => look r t

def lookM : List (Nat × Mem) → Nat → Option Mem
  | [], _ => none
  | (k, s) :: r, t => match Nat.beq k t with
    | true => some s
    | false => lookM r t

def dropM : List (Nat × Mem) → Nat → List (Nat × Mem)
  | [], _ => []
  | (k, s) :: r, t => match Nat.beq k t with
    | true => r
    | false => (k, s) :: dropM r t

def setM : List (Nat × Mem) → Nat → Mem → List (Nat × Mem)
  | [], _, _ => []
  | (k, s) :: r, t, m => match Nat.beq k t with
    | true => (k, m) :: r
    | false => (k, s) :: setM r t m

/-- What the table of types says of a type. -/
inductive TK
  | int (k : IntKind)
  | bool
  | str
  | ptr (t : TypeId)
  | slice (e : TypeId)
  | struct (fs : List (Nat × TypeId))
  | arr (n : Nat) (e : TypeId)
  | map (k e : TypeId)
  | iface
  | other
structure TI where
  kind : TK
  sz : Nat
  bytes : Nat
  zero : List Value
  cmp : Bool

def TK.agg : TK → Bool
  | .struct _ => true
  | .arr _ _ => true
  | _ => false

def ti : List (TypeId × TI) → TypeId → Option TI
  | [], _ => none
  | (k, s) :: r, t => match Nat.beq k t with
    | true => some s
    | false => ti r t

/-! ### What is left to be shown -/
structure Ob (p q : Prop) : Prop where
  ob : p
  go : q
structure Br (p q : Prop) : Prop where
  yes : p
  no : q
inductive Dr (p q r : Prop) : Prop
  | mk (ord : p) (go : q)
  | dyn (h : r)
inductive Ar (p q r : Prop) : Prop
  | fit (h : p) (k : q)
  | wrap (k : r)
inductive Dv (p q p' q' : Prop) : Prop
  | pos (h : p) (k : q)
  | any (h : p') (k : q')

def fitK (k : IntKind) (e : Int) (K : SV → Prop) : Prop :=
  match k with
  | .i64 => Ar (-9223372036854775808 ≤ e ∧ e ≤ 9223372036854775807) (K (.val (.int .i64 e))) (K (.val (.int .i64 (IntKind.i64.wrap e))))
  | .i32 => Ar (-2147483648 ≤ e ∧ e ≤ 2147483647) (K (.val (.int .i32 e))) (K (.val (.int .i32 (IntKind.i32.wrap e))))
  | .i16 => Ar (-32768 ≤ e ∧ e ≤ 32767) (K (.val (.int .i16 e))) (K (.val (.int .i16 (IntKind.i16.wrap e))))
  | .i8 => Ar (-128 ≤ e ∧ e ≤ 127) (K (.val (.int .i8 e))) (K (.val (.int .i8 (IntKind.i8.wrap e))))
  | .u64 => Ar (0 ≤ e ∧ e ≤ 18446744073709551615) (K (.val (.int .u64 e))) (K (.val (.int .u64 (IntKind.u64.wrap e))))
  | .u32 => Ar (0 ≤ e ∧ e ≤ 4294967295) (K (.val (.int .u32 e))) (K (.val (.int .u32 (IntKind.u32.wrap e))))
  | .u16 => Ar (0 ≤ e ∧ e ≤ 65535) (K (.val (.int .u16 e))) (K (.val (.int .u16 (IntKind.u16.wrap e))))
  | .u8 => Ar (0 ≤ e ∧ e ≤ 255) (K (.val (.int .u8 e))) (K (.val (.int .u8 (IntKind.u8.wrap e))))

def kmax : IntKind → Int
  | .i64 => 9223372036854775807
  | .i32 => 2147483647
  | .i16 => 32767
  | .i8 => 127
  | .u64 => 18446744073709551615
  | .u32 => 4294967295
  | .u16 => 65535
  | .u8 => 255

/-- The head of a symbolic value laid open. -/
def force (s : SV) (K : SV → Prop) : Prop :=
  match s with
  | .val v => (match v with
    | .int k n => K (.val (.int k n))
    | .bool b => (match b with | true => K (.val (.bool true)) | false => K (.val (.bool false)))
    | .slice a l c => K (.val (.slice a l c))
    | v => K (.val v))
  | .pr p i => K (.pr p i)
  | .agg cs => K (.agg cs)
  | .sl enc xs => K (.sl enc xs)
  | .ptr cs => K (.ptr cs)
  | .loc k off => K (.loc k off)
  | .own k => K (.own k)
  | .eloc k sz i off => K (.eloc k sz i off)
  | .win k sz lo n => K (.win k sz lo n)
  | .fn f caps => K (.fn f caps)
  | .tup vs => K (.tup vs)
  | .junk => K .junk
  | .nils => K .nils
  | .anyb => K .anyb
  | .full enc xs => K (.full enc xs)
  | .dptr cs => K (.dptr cs)
  | .dfn f cs => K (.dfn f cs)
  | .ifc t s => K (.ifc t s)

def ev (L : List (Nat × SV)) (x : Operand) (K : SV → Prop) : Prop :=
  match x with
  | .tmp t => (match look L t with
    | some s => force s K
    | none => False)
  | .const v => force (.val v) K
  | .func f => K (.fn f [])
  | .global _ => False

def evs (L : List (Nat × SV)) (xs : List Operand) : (List SV → Prop) → Prop :=
  List.rec (motive := fun _ => (List SV → Prop) → Prop) (fun K => K []) (fun x _ ih K => ev L x fun s => ih fun l => K (s :: l)) xs

def putL (L : List (Nat × SV)) (d : Option Tmp) (s : SV) : List (Nat × SV) :=
  match d with
  | some d => (d, s) :: L
  | none => L

def dropAll (M : List (Nat × Mem)) : List Nat → List (Nat × Mem)
  | [] => M
  | k :: r => dropAll (dropM M k) r

def appM (M : List (Nat × Mem)) (κ : Nat) : MD → List (Nat × Mem)
  | .none => M
  | .push m => (κ, m) :: M
  | .set k m => setM M k m
  | .drop k => dropM M k
  | .repl k m => (κ, m) :: dropM M k
  | .give ks new _ => new ++ dropAll M ks

def appK (κ : Nat) : MD → Nat
  | .push _ => κ + 1
  | .repl _ _ => κ + 1
  | .give _ _ nn => κ + nn
  | _ => κ

def St.app (σ : St) (d : Option Tmp) (s : SV) (m : MD) : St := ⟨putL σ.L d s, appM σ.M σ.nk m, appK σ.nk m, σ.nt, σ.n0⟩

def St.put (σ : St) (d : Option Tmp) (s : SV) : St := ⟨putL σ.L d s, σ.M, σ.nk, σ.nt, σ.n0⟩

def cellsOf : SV → List SV
  | .agg cs => cs
  | s => [s]

def vals (l : List Value) : List SV := l.map .val

def splice (cs : List SV) (off : Nat) (new : List SV) : List SV := cs.take off ++ new ++ cs.drop (off + new.length)

def mkV (agg : Bool) (sz : Nat) (cs : List SV) (K : SV → Prop) : Prop :=
  match agg with
  | true => K (.agg (cs.take sz))
  | false => (match cs with
    | c :: _ => force c K
    | [] => False)

def nthF : List (Nat × TypeId) → Nat → Option (Nat × TypeId)
  | [], _ => none
  | x :: _, 0 => some x
  | _ :: r, n + 1 => nthF r n

def withT (Γ : List (TypeId × TI)) (t : TypeId) (K : TI → Prop) : Prop :=
  match ti Γ t with
  | some i => K i
  | none => False

def toPr (s : SV) (K : (p : Prop) → Decidable p → Prop) : Prop :=
  match s with
  | .pr p i => K p i
  | .val (.bool true) => K True instDecidableTrue
  | .val (.bool false) => K False instDecidableFalse
  | _ => False

def kBeq : IntKind → IntKind → Bool
  | .i64, .i64 => true
  | .i32, .i32 => true
  | .i16, .i16 => true
  | .i8, .i8 => true
  | .u64, .u64 => true
  | .u32, .u32 => true
  | .u16, .u16 => true
  | .u8, .u8 => true
  | _, _ => false

def guardB (b : Bool) (K : Prop) : Prop :=
  match b with
  | true => K
  | false => False

def andB (a b : Bool) : Bool :=
  match a with
  | true => b
  | false => false

/-- The cells of two structs of integers are the same. -/
def eqCells : List SV → List SV → ((p : Prop) → Decidable p → Prop) → Prop
  | [], [], K => K True instDecidableTrue
  | c :: cs, d :: ds, K => force c fun c => force d fun d => (match c, d with
    | .val (.int k m), .val (.int k' n) => guardB (kBeq k k') (eqCells cs ds fun p i => K (m = n ∧ p) (@instDecidableAnd _ _ (inferInstance) i))
    | _, _ => False)
  | _, _, _ => False

def bitsK (op : BinOp) (k : IntKind) (x y : Int) : Int :=
  match op with
  | .and => k.wrap (BitVec.ofInt k.bits x &&& BitVec.ofInt k.bits y).toNat
  | .or => k.wrap (BitVec.ofInt k.bits x ||| BitVec.ofInt k.bits y).toNat
  | .xor => k.wrap (BitVec.ofInt k.bits x ^^^ BitVec.ofInt k.bits y).toNat
  | _ => k.wrap (BitVec.ofInt k.bits x &&& ~~~ (BitVec.ofInt k.bits y)).toNat

def isLit : Operand → Bool
  | .const _ => true
  | _ => false

/-- The fields of a struct, one behind the other, each of which passes. -/
def intsGo (Γ : List (TypeId × TI)) (f : TypeId → Bool) : List (Nat × TypeId) → Nat → Nat → Bool
  | [], at_, sz => Nat.beq at_ sz
  | (off, t) :: r, at_, sz => match ti Γ t with
    | some j => andB (Nat.beq off at_) (andB (f t) (intsGo Γ f r (at_ + j.sz) sz))
    | none => false

/-- A struct of integers, or of such structs. -/
def intsT (Γ : List (TypeId × TI)) : Nat → TypeId → Bool
  | 0, _ => false
  | n + 1, t => match ti Γ t with
    | some i => (match i.kind with
      | .int _ => Nat.beq i.sz 1
      | .struct fs => andB i.cmp (intsGo Γ (intsT Γ n) fs 0 i.sz)
      | _ => false)
    | none => false

def shiftV (op : BinOp) (y : Operand) (k : IntKind) (m n : Int) (K : SV → Prop) : Prop :=
  match op, isLit y with
  | .shl, true => (match n with
    | .ofNat c => Ob (c < k.bits) (fitK k (m * 2 ^ c) K)
    | .negSucc _ => False)
  | .shl, false => Ob (0 ≤ n ∧ n < k.bits) (fitK k (m * 2 ^ n.toNat) K)
  | .shr, true => (match n with
    | .ofNat c => Ob (c < k.bits) (K (.val (.int k (m / 2 ^ c))))
    | .negSucc _ => False)
  | .shr, false => Ob (0 ≤ n ∧ n < k.bits) (K (.val (.int k (m / 2 ^ n.toNat))))
  | _, _ => False

def intV (op : BinOp) (k : IntKind) (m n : Int) (K : SV → Prop) : Prop :=
  match op with
  | .add => fitK k (m + n) K
  | .sub => fitK k (m - n) K
  | .mul => fitK k (m * n) K
  | .quo => Dv (0 ≤ m ∧ 0 < n ∧ m ≤ kmax k) (K (.val (.int k (m / n)))) (n ≠ 0) (fitK k (m.tdiv n) K)
  | .rem => Dv (0 ≤ m ∧ 0 < n) (K (.val (.int k (m % n)))) (n ≠ 0) (K (.val (.int k (m.tmod n))))
  | .eql => K (.pr (m = n) inferInstance)
  | .neq => K (.pr (¬ m = n) inferInstance)
  | .lss => K (.pr (m < n) inferInstance)
  | .leq => K (.pr (m ≤ n) inferInstance)
  | .gtr => K (.pr (n < m) inferInstance)
  | .geq => K (.pr (n ≤ m) inferInstance)
  | .and => ∃ r, r = bitsK .and k m n ∧ K (.val (.int k r))
  | .or => ∃ r, r = bitsK .or k m n ∧ K (.val (.int k r))
  | .xor => ∃ r, r = bitsK .xor k m n ∧ K (.val (.int k r))
  | .andNot => ∃ r, r = bitsK .andNot k m n ∧ K (.val (.int k r))
  | _ => False

def isShift : BinOp → Bool
  | .shl => true
  | .shr => true
  | _ => false

/-- A slice beside nil: one that holds something is not nil; of one that holds nothing it is not known. -/
inductive NilC (p q r : Prop) : Prop
  | some (h : p) (k : q)
  | any (k : r)
def nilCmp (t : TK) (op : BinOp) (n : Nat) (K : SV → Prop) : Prop :=
  match t, op with
  | .slice _, .eql => NilC (n ≠ 0) (K (.val (.bool false))) (K .anyb)
  | .slice _, .neq => NilC (n ≠ 0) (K (.val (.bool true))) (K .anyb)
  | _, _ => False

def nilTest (op : BinOp) (b : Bool) (K : SV → Prop) : Prop :=
  match op with
  | .eql => K (.val (.bool b))
  | .neq => K (.val (.bool (!b)))
  | _ => False
def bin (Γ : List (TypeId × TI)) (op : BinOp) (t : TypeId) (y : Operand) (a b : SV) (K : SV → Prop) : Prop :=
  match a, b with
  | .val (.int k m), .val (.int k' n) => (match isShift op with
    | true => shiftV op y k m n K
    | false => guardB (kBeq k k') (intV op k m n K))
  | .agg cs, .agg ds => withT Γ t fun i => guardB i.kind.agg (guardB (Nat.beq cs.length i.sz) <| guardB (intsT Γ 8 t) (match op with
    | .eql => eqCells cs ds fun p i => K (.pr p i)
    | .neq => eqCells cs ds fun p i => K (.pr (¬ p) (@instDecidableNot _ i))
    | _ => False))
  | .sl _ xs, .val (.slice none 0 0) => withT Γ t fun i => nilCmp i.kind op xs.length K
  | .val (.slice none 0 0), .val (.slice none 0 0) => withT Γ t fun i => (match i.kind, op with
    | .slice _, .eql => K (.val (.bool true))
    | .slice _, .neq => K (.val (.bool false))
    | _, _ => False)
  | .dptr _, .val (.pointer none) => withT Γ t fun i => (match i.kind with
    | .ptr _ => nilTest op false K
    | _ => False)
  | .ptr _, .val (.pointer none) => withT Γ t fun i => (match i.kind with
    | .ptr _ => nilTest op false K
    | _ => False)
  | .loc _ _, .val (.pointer none) => withT Γ t fun i => (match i.kind with
    | .ptr _ => nilTest op false K
    | _ => False)
  | .val (.pointer none), .val (.pointer none) => withT Γ t fun i => (match i.kind with
    | .ptr _ => nilTest op true K
    | _ => False)
  | .ifc _ _, .val .nilIface => withT Γ t fun i => (match i.kind with
    | .iface => nilTest op false K
    | _ => False)
  | .val .nilIface, .val .nilIface => withT Γ t fun i => (match i.kind with
    | .iface => guardB (isLit y) (nilTest op true K)
    | _ => False)
  | a, b => withT Γ t fun i => (match i.kind, op with
    | .bool, .eql => toPr a fun p i => toPr b fun q j => K (.pr (p ↔ q) (@instDecidableIff _ _ i j))
    | .bool, .neq => toPr a fun p i => toPr b fun q j => K (.pr (¬ (p ↔ q)) (@instDecidableNot _ (@instDecidableIff _ _ i j)))
    | _, _ => False)

/-- Is it data: no address of one's own, no pointer, no function? -/
def flat : SV → Bool
  | .dptr _ => true
  | .dfn _ _ => true
  | .ifc _ s => flat s
  | .val _ => true
  | .pr _ _ => true
  | .sl _ _ => true
  | .nils => true
  | .anyb => true
  | .full _ _ => true
  | .agg cs => flats cs
  | _ => false
  where
  flats : List SV → Bool
    | [] => true
    | c :: cs => match flat c with
      | true => flats cs
      | false => false
/-- Does a value hold no address at all? -/
def scalar : SV → Bool
  | .ifc _ s => scalar s
  | .val _ => true
  | .pr _ _ => true
  | .nils => true
  | .anyb => true
  | .agg cs => scalars cs
  | _ => false
  where
  scalars : List SV → Bool
    | [] => true
    | c :: cs => match scalar c with
      | true => scalars cs
      | false => false
def flatR : SV → Bool
  | .tup cs => flat.flats cs
  | s => flat s
def scalarR : SV → Bool
  | .tup cs => scalar.scalars cs
  | s => scalar s
/-- One cell of a block of one's own, as a callee that only reads sees it. -/
def viewC (lm : Nat → Option Mem) (s : SV) : SV :=
  match s with
  | .own k => (match lm k with
    | some (.arr _ enc _ xs) => .sl enc xs
    | _ => .junk)
  | .fn f [] => .val (.func (.func f) #[] #[])
  | s => (match flat s with
    | true => s
    | false => .junk)
def viewCs (lm : Nat → Option Mem) : List SV → List SV
  | [] => []
  | c :: cs => viewC lm c :: viewCs lm cs
/-- How an argument looks to a callee that only reads what is one's own. -/
def view1 (lm : Nat → Option Mem) (s : SV) : SV :=
  match s with
  | .loc k off => (match lm k with
    | some (.box _ cs) => .ptr ((viewCs lm cs).drop off)
    | _ => .junk)
  | .own k => (match lm k with
    | some (.arr _ enc _ xs) => .sl enc xs
    | _ => .junk)
  | .win k sz lo n => (match lm k with
    | some (.arr _ enc sz' xs) => (match Nat.beq sz sz' with
      | true => .sl enc ((xs.drop lo.toNat).take n.toNat)
      | false => .junk)
    | _ => .junk)
  | .agg cs => .agg (viewCs lm cs)
  | .ptr cs => .ptr cs
  | .fn f [] => .fn f []
  | s => (match flat s with
    | true => s
    | false => .junk)
def views1 (lm : Nat → Option Mem) : List SV → List SV
  | [] => []
  | c :: cs => view1 lm c :: views1 lm cs
def view (lm : Nat → Option Mem) (s : SV) : SV :=
  match s with
  | .fn f cs => .fn f (views1 lm cs)
  | s => view1 lm s
def views (lm : Nat → Option Mem) : List SV → List SV
  | [] => []
  | c :: cs => view lm c :: views lm cs
/-- Nothing of the arguments lies in memory of one's own that is still written. -/
def clean1 (lm : Nat → Option Mem) (s : SV) : Bool :=
  match s with
  | .loc k _ => (match lm k with
    | some (.box _ cs) => flat.flats cs
    | _ => false)
  | .ptr _ => true
  | .agg cs => flat.flats cs
  | s => flat s
def cleans1 (lm : Nat → Option Mem) : List SV → Bool
  | [] => true
  | c :: cs => match clean1 lm c with
    | true => cleans1 lm cs
    | false => false
def clean (lm : Nat → Option Mem) : List SV → Bool
  | [] => true
  | .fn _ cs :: r => (match cleans1 lm cs with
    | true => clean lm r
    | false => false)
  | c :: r => match clean1 lm c with
    | true => clean lm r
    | false => false
def okRes (lm : Nat → Option Mem) (args : List SV) (r : SV) : Bool :=
  match clean lm args with
  | true => flatR r
  | false => scalarR r

end Go.Gs
/- What the symbolic values and states mean, and what a contract of a function says. -/
namespace Go.Gs

/-- Data that does not change: 'S' are the blocks in which it does not lie. -/
inductive D (S : Nat → Prop) (w : World) : SV → Value → Prop
  | val (v : Value) : D S w (.val v) v
  | pr (p : Prop) (i : Decidable p) : D S w (.pr p i) (.bool (@decide p i))
  | agg (cs : List SV) (vs : List Value) (hl : vs.length = cs.length)
      (h : ∀ (j : Nat) (s : SV) (v : Value), cs[j]? = some s → vs[j]? = some v → D S w s v) : D S w (.agg cs) (.agg vs.toArray)
  | nil {α : Type} (enc : α → List SV) (a : Option Addr) : D S w (.sl enc []) (.slice a 0 0)
  | nils (a : Option Addr) : D S w .nils (.slice a 0 0)
  | anyb (b : Bool) : D S w .anyb (.bool b)
  | junk (v : Value) : D S w .junk v
  | full {α : Type} (enc : α → List SV) (xs : List α) (a : Option Addr) (h : D S w (.sl enc xs) (.slice a xs.length xs.length)) : D S w (.full enc xs) (.slice a xs.length xs.length)
  | sl {α : Type} (enc : α → List SV) (xs : List α) (sz b o cap : Nat) (c : Nat → Nat → Value) (hb : b < w.heap.size) (hS : ¬ S b)
      (hlen : xs.length ≤ 9223372036854775807) (hcap : xs.length ≤ cap) (hsz : ∀ x ∈ xs, (enc x).length = sz)
      (hc : ∀ i j, i < xs.length → j < sz → w.cell? ⟨b, o + i * sz + j, none⟩ = some (c i j) ∧ (c i j).oneCell' = true)
      (h : ∀ (i j : Nat) (x : α) (s : SV), xs[i]? = some x → (enc x)[j]? = some s → D S w s (c i j)) :
      D S w (.sl enc xs) (.slice (some ⟨b, o, none⟩) xs.length cap)
  | dptr (cs : List SV) (b o : Nat) (c : Nat → Value) (hb : b < w.heap.size) (hS : ¬ S b)
      (hc : ∀ j, j < cs.length → w.cell? ⟨b, o + j, none⟩ = some (c j) ∧ (c j).oneCell' = true)
      (h : ∀ (j : Nat) (s : SV), cs[j]? = some s → D S w s (c j)) : D S w (.dptr cs) (.pointer (some ⟨b, o, none⟩))
  | dfn (f : FuncId) (cs : List SV) (vs : List Value) (hl : vs.length = cs.length)
      (h : ∀ (j : Nat) (s : SV) (v : Value), cs[j]? = some s → vs[j]? = some v → D S w s v) : D S w (.dfn f cs) (.func (.func f) #[] vs.toArray)
  | ifc (t : TypeId) (s : SV) (v : Value) (h : D S w s v) : D S w (.ifc t s) (.iface t v)

/-- The names of the blocks of one's own: what each name stands for. -/
abbrev Names := Nat → Option Value

/-- What a symbolic value says of a value; 'ρ' names the blocks of one's own. -/
inductive G (S Pm : Nat → Prop) (ρ : Names) (w : World) : SV → Value → Prop
  | d (s : SV) (v : Value) (h : D S w s v) : G S Pm ρ w s v
  | loc (k off b : Nat) (h : ρ k = some (.pointer (some ⟨b, 0, none⟩))) : G S Pm ρ w (.loc k off) (.pointer (some ⟨b, off, none⟩))
  | own (k : Nat) (v : Value) (h : ρ k = some v) (h1 : v.oneCell' = true) : G S Pm ρ w (.own k) v
  | eloc (k sz : Nat) (i : Int) (off b len cap : Nat) (h : ρ k = some (.slice (some ⟨b, 0, none⟩) len cap)) :
      G S Pm ρ w (.eloc k sz i off) (.pointer (some ⟨b, i.toNat * sz + off, none⟩))
  | win (k sz : Nat) (lo n : Int) (b len cap cap' : Nat) (h : ρ k = some (.slice (some ⟨b, 0, none⟩) len cap)) (h1 : lo.toNat + n.toNat ≤ len) (h2 : n.toNat ≤ cap') :
      G S Pm ρ w (.win k sz lo n) (.slice (some ⟨b, lo.toNat * sz, none⟩) n.toNat cap')
  | ptr (cs : List SV) (b o : Nat) (c : Nat → Value) (hb : b < w.heap.size) (hP : ¬ Pm b)
      (hc : ∀ j, j < cs.length → w.cell? ⟨b, o + j, none⟩ = some (c j) ∧ (c j).oneCell' = true)
      (h : ∀ (j : Nat) (s : SV), cs[j]? = some s → D S w s (c j)) : G S Pm ρ w (.ptr cs) (.pointer (some ⟨b, o, none⟩))
  | agg (cs : List SV) (vs : List Value) (hl : vs.length = cs.length)
      (h : ∀ (j : Nat) (s : SV) (v : Value), cs[j]? = some s → vs[j]? = some v → G S Pm ρ w s v) : G S Pm ρ w (.agg cs) (.agg vs.toArray)
  | tup (cs : List SV) (vs : List Value) (hl : vs.length = cs.length)
      (h : ∀ (j : Nat) (s : SV) (v : Value), cs[j]? = some s → vs[j]? = some v → G S Pm ρ w s v) : G S Pm ρ w (.tup cs) (.tuple vs.toArray)
  | fn (f : FuncId) (cs : List SV) (vs : List Value) (hl : vs.length = cs.length)
      (h : ∀ (j : Nat) (s : SV) (v : Value), cs[j]? = some s → vs[j]? = some v → G S Pm ρ w s v) : G S Pm ρ w (.fn f cs) (.func (.func f) #[] vs.toArray)
  | ifc (t : TypeId) (s : SV) (v : Value) (h : G S Pm ρ w s v) : G S Pm ρ w (.ifc t s) (.iface t v)

/-- A list of symbolic values says this of a list of values. -/
def Gs (S Pm : Nat → Prop) (ρ : Names) (w : World) (cs : List SV) (vs : List Value) : Prop :=
  vs.length = cs.length ∧ ∀ (j : Nat) (s : SV) (v : Value), cs[j]? = some s → vs[j]? = some v → G S Pm ρ w s v

def blkOf : Value → Option Nat
  | .pointer (some a) => some a.block
  | .slice (some a) _ _ => some a.block
  | .map (some r) => some r
  | _ => none

/-- The blocks of one's own. -/
def Own (M : List (Nat × Mem)) (ρ : Names) (b : Nat) : Prop := ∃ k m v, (k, m) ∈ M ∧ ρ k = some v ∧ blkOf v = some b

/-- What is said of one block of one's own. -/
def MRel (S Pm : Nat → Prop) (ρ : Names) (w : World) (k : Nat) : Mem → Prop
  | .box T cs => ∃ b vs, ρ k = some (.pointer (some ⟨b, 0, none⟩)) ∧ w.heap[b]? = some (.cells (List.toArray vs) T (0, 0)) ∧
      vs.length = cs.length ∧ (∀ v ∈ vs, v.oneCell' = true) ∧ ∀ (j : Nat) (s : SV) (v : Value), cs[j]? = some s → vs[j]? = some v → G S Pm ρ w s v
  | .arr T enc sz xs => ∃ v cells, ρ k = some v ∧ w.ownsRow 0 T sz v xs.length cells ∧ xs.length ≤ 281474976710656 ∧ (∀ u ∈ cells, u.oneCell' = true) ∧
      (∀ x ∈ xs, (enc x).length = sz) ∧
      ∀ (i j : Nat) x (s : SV), xs[i]? = some x → (enc x)[j]? = some s → ∃ u, cells[i * sz + j]? = some u ∧ D S w s u
  | .garr T sz xs => ∃ v cells, ρ k = some v ∧ w.ownsRow 0 T sz v xs.length cells ∧ xs.length ≤ 281474976710656 ∧ (∀ u ∈ cells, u.oneCell' = true) ∧
      (∀ x ∈ xs, x.length = sz) ∧
      ∀ (i j : Nat) x (s : SV), xs[i]? = some x → x[j]? = some s → ∃ u, cells[i * sz + j]? = some u ∧ G S Pm ρ w s u
  | .map es => ∃ r ents clock, ρ k = some (.map (some r)) ∧ w.heap[r]? = some (.map ents clock) ∧ ents.size = es.length ∧
      ∀ (i : Nat) (n : Int) (s : SV), es[i]? = some (n, s) → ∃ e, ents[i]? = some e ∧ e.key = .int .i64 n ∧ D S w s e.val

/-- The blocks of one's own, all of them. -/
structure MemOK (Keep : Nat → Prop) (M : List (Nat × Mem)) (ρ : Names) (w : World) : Prop where
  rel : ∀ k m, (k, m) ∈ M → MRel (fun b => Keep b ∨ Own M ρ b) (Own M ρ) ρ w k m
  keys : M.Pairwise fun a b => a.1 ≠ b.1
  apart : ∀ k m k' m' v v' b, (k, m) ∈ M → (k', m') ∈ M → k ≠ k' → ρ k = some v → ρ k' = some v' → blkOf v = some b → blkOf v' ≠ some b
  old : ∀ b, Own M ρ b → b < w.heap.size ∧ ¬ Keep b
  kp : ∀ b, Keep b → b < w.heap.size

/-- The print is the same, and no cell is shared with a string that was not. -/
def SameOut (w w' : World) : Prop := w'.output = w.output ∧ ∀ a, w'.frozen? a = w.frozen? a

/-- From 'w' to 'w'': new blocks, and changes to the blocks of 'W' alone; 'W'' are the blocks of one's own then. -/
structure Stp (W W' : Nat → Prop) (ρ ρ' : Names) (w w' : World) : Prop where
  os : w'.os = w.os
  tape : w'.tape = w.tape
  output : SameOut w w'
  size : w.heap.size ≤ w'.heap.size
  block : ∀ b, b < w.heap.size → ¬ W b → w'.heap[b]? = w.heap[b]?
  own : ∀ b, W' b → W b ∨ w.heap.size ≤ b
  rho : ∀ k v, ρ k = some v → ρ' k = some v

/-- THE CONTRACT OF A FUNCTION: called with such arguments, and such blocks that it may write, it returns such a value and leaves such blocks. -/
def Callable (P : Program) (f : FuncId) : Prop := ∃ fn, P.funcs[f]? = some fn ∧ (fn.name == "runtime.NumGoroutine") = false ∧ fn.body.isNone = false
def CallsG (P : Program) (f : FuncId) (args : List SV) (M : List (Nat × Mem)) (r : SV) (M' : List (Nat × Mem)) : Prop :=
  Callable P f ∧ ∀ (Keep : Nat → Prop) (ρ : Names) (w : World) (vs : List Value), (∀ b, Keep b → b < w.heap.size) → MemOK Keep M ρ w → (∀ k, M.length ≤ k → ρ k = none) →
    Gs (fun b => Keep b ∨ Own M ρ b) (Own M ρ) ρ w args vs →
    Calls P f vs.toArray w fun e w' => ∃ v ρ', e = .returned v ∧ Stp (Own M ρ) (Own M' ρ') ρ ρ' w w' ∧ MemOK Keep M' ρ' w' ∧
      G (fun b => Keep b ∨ Own M' ρ' b) (Own M' ρ') ρ' w' r v

structure Env where
  w0 : World
  ρ0 : Names
  Keep : Nat → Prop
  W0 : Nat → Prop
  ds : List Deferred

/-- What an abstract state says of a frame and a world. -/
structure Rel (E : Env) (σ : St) (ρ : Names) (a : Act) (w : World) : Prop where
  size : a.tmps.size = σ.nt
  defers : a.defers = E.ds
  regs : ∀ t s, look σ.L t = some s → t < σ.nt ∧ G (fun b => E.Keep b ∨ Own σ.M ρ b) (Own σ.M ρ) ρ w s (a.tmps.getD t undef)
  mem : MemOK E.Keep σ.M ρ w
  fresh : ∀ k, σ.nk ≤ k → ρ k = none
  stp : Stp E.W0 (Own σ.M ρ) E.ρ0 ρ E.w0 w
  keep : ∀ b, E.Keep b → b < E.w0.heap.size
  low : ∀ k v, E.ρ0 k = some v → k < σ.n0

end Go.Gs
/- The conditions that an operation, a region, a piece of code leave to be shown. -/
namespace Go.Gs

def flatM : Mem → Prop
  | .box _ cs => flat.flats cs = true
  | .arr _ enc _ xs => ∀ x ∈ xs, flat.flats (enc x) = true
  | .garr _ _ _ => False
  | .map es => flat.flats (es.map (·.2)) = true

/-- The argument that hands over the block 'k', as the callee names it: 0. -/
def give (lm : Nat → Option Mem) (k : Nat) (s : SV) : SV :=
  match s with
  | .loc k' off => (match Nat.beq k' k with
    | true => .loc 0 off
    | false => view lm (.loc k' off))
  | .own k' => (match Nat.beq k' k with
    | true => .own 0
    | false => view lm (.own k'))
  | .win k' sz lo n => (match Nat.beq k' k with
    | true => .win 0 sz lo n
    | false => view lm (.win k' sz lo n))
  | s => view lm s
def gives (lm : Nat → Option Mem) (k : Nat) : List SV → List SV
  | [] => []
  | c :: cs => give lm k c :: gives lm k cs

/-- Nothing of the arguments but the block that is handed over lies in memory of one's own that is still written. -/
def noKey (k : Nat) : List SV → Bool
  | [] => true
  | .loc k' _ :: r => (match Nat.beq k' k with
    | true => false
    | false => noKey k r)
  | _ :: r => noKey k r
def cleanG (lm : Nat → Option Mem) (k : Nat) : List SV → Bool
  | [] => true
  | .loc k' off :: r => (match Nat.beq k' k with
    | true => cleanG lm k r
    | false => andB (clean lm [.loc k' off]) (cleanG lm k r))
  | .own k' :: r => (match Nat.beq k' k with
    | true => cleanG lm k r
    | false => false)
  | .win k' _ _ _ :: r => (match Nat.beq k' k with
    | true => cleanG lm k r
    | false => false)
  | .fn f cs :: r => andB (noKey k cs) (andB (clean lm [.fn f cs]) (cleanG lm k r))
  | s :: r => andB (clean lm [s]) (cleanG lm k r)
def scalarM : Mem → Prop
  | .box _ cs => scalar.scalars cs = true
  | .arr _ enc _ xs => ∀ x ∈ xs, scalar.scalars (enc x) = true
  | .garr _ _ _ => False
  | .map es => scalar.scalars (es.map (·.2)) = true

/-- The callee's own block 0 under the caller's name. -/
def mv (κ : Nat) : SV → SV
  | .own _ => .own κ
  | .loc _ off => .loc κ off
  | .agg cs => .agg (mvs κ cs)
  | .tup cs => .tup (mvs κ cs)
  | .fn f cs => .fn f (mvs κ cs)
  | .ifc t s => .ifc t (mv κ s)
  | s => s
  where
  mvs (κ : Nat) : List SV → List SV
    | [] => []
    | c :: cs => mv κ c :: mvs κ cs
/-- Plain numbers, and the callee's own block 0. -/
def mvOK : SV → Bool
  | .own k => Nat.beq k 0
  | .loc k _ => Nat.beq k 0
  | .val _ => true
  | .pr _ _ => true
  | .junk => true
  | .agg cs => mvOKs cs
  | .tup cs => mvOKs cs
  | .fn _ cs => mvOKs cs
  | .ifc _ s => mvOK s
  | _ => false
  where
  mvOKs : List SV → Bool
    | [] => true
    | c :: cs => match mvOK c with
      | true => mvOKs cs
      | false => false

def isArr : Option Mem → Bool
  | some (.arr _ _ _ _) => true
  | _ => false
/-- Arguments of which the block 'k' of one's own is only read from now on; the others lie apart. -/
def seeB (lm : Nat → Option Mem) (k : Nat) : List SV → Bool
  | [] => true
  | .own k' :: r => (match Nat.beq k' k with
    | true => seeB lm k r
    | false => false)
  | s :: r => andB (clean lm [s]) (seeB lm k r)

/-- One value says more than another. -/
def LE (s r : SV) : Prop := ∀ S Pm ρ w v, G S Pm ρ w s v → G S Pm ρ w r v

inductive LEs : List SV → List SV → Prop
  | nil : LEs [] []
  | cons {a b : SV} {as bs : List SV} (h : LE a b) (t : LEs as bs) : LEs (a :: as) (b :: bs)

/-! Several blocks handed over: the callee's names 0, 1 .. stand for 'ks'; its new ones for names from 'κ' on. -/
def rn (ks : List Nat) (κ j : Nat) : Nat :=
  match ks[j]? with
  | some k => k
  | none => κ + (j - ks.length)
def renS (ks : List Nat) (κ : Nat) : SV → SV
  | .loc k off => .loc (rn ks κ k) off
  | .own k => .own (rn ks κ k)
  | .eloc k sz i off => .eloc (rn ks κ k) sz i off
  | .win k sz lo n => .win (rn ks κ k) sz lo n
  | .agg cs => .agg (rens ks κ cs)
  | .tup cs => .tup (rens ks κ cs)
  | .fn f cs => .fn f (rens ks κ cs)
  | .ifc t s => .ifc t (renS ks κ s)
  | s => s
  where
  rens (ks : List Nat) (κ : Nat) : List SV → List SV
    | [] => []
    | c :: cs => renS ks κ c :: rens ks κ cs
/-- All names lie below 'n'. -/
def lowS (n : Nat) : SV → Bool
  | .loc k _ => Nat.blt k n
  | .own k => Nat.blt k n
  | .eloc k _ _ _ => Nat.blt k n
  | .win k _ _ _ => Nat.blt k n
  | .agg cs => lows n cs
  | .tup cs => lows n cs
  | .fn _ cs => lows n cs
  | .ifc _ s => lowS n s
  | _ => true
  where
  lows (n : Nat) : List SV → Bool
    | [] => true
    | c :: cs => match lowS n c with
      | true => lows n cs
      | false => false
/-- .. and no pointer leads to what is another's. -/
def outS (n : Nat) : SV → Bool
  | .loc k _ => Nat.blt k n
  | .own k => Nat.blt k n
  | .eloc k _ _ _ => Nat.blt k n
  | .win k _ _ _ => Nat.blt k n
  | .ptr _ => false
  | .agg cs => outs n cs
  | .tup cs => outs n cs
  | .fn _ cs => outs n cs
  | .ifc _ s => outS n s
  | _ => true
  where
  outs (n : Nat) : List SV → Bool
    | [] => true
    | c :: cs => match outS n c with
      | true => outs n cs
      | false => false
def renM (ks : List Nat) (κ : Nat) : Mem → Mem
  | .box T cs => .box T (renS.rens ks κ cs)
  | .garr T sz xs => .garr T sz (xs.map (renS.rens ks κ))
  | m => m
def renMs (ks : List Nat) (κ : Nat) : List (Nat × Mem) → List (Nat × Mem)
  | [] => []
  | (j, m) :: r => (rn ks κ j, renM ks κ m) :: renMs ks κ r
def lowM (n : Nat) : Mem → Prop
  | .box _ cs => lowS.lows n cs = true
  | .garr _ _ xs => ∀ x ∈ xs, lowS.lows n x = true
  | _ => True
def outM (n : Nat) : Mem → Prop
  | .box _ cs => outS.outs n cs = true
  | .garr _ _ xs => ∀ x ∈ xs, outS.outs n x = true
  | _ => True
/-- What the callee finds is what the caller has. -/
def givenOK (lm : Nat → Option Mem) (ks0 : List Nat) (κ : Nat) (Mc : List (Nat × Mem)) : Nat → List Nat → Prop
  | _, [] => True
  | i, k :: r => (∃ m, lookM Mc i = some m ∧ lm k = some (renM ks0 κ m) ∧ lowM ks0.length m) ∧ givenOK lm ks0 κ Mc (i + 1) r
def leftOK (n : Nat) : List (Nat × Mem) → Prop
  | [] => True
  | (j, m) :: r => (Nat.blt j n = true ∧ outM n m) ∧ leftOK n r
def memN (k : Nat) : List Nat → Bool
  | [] => false
  | x :: r => match Nat.beq x k with
    | true => true
    | false => memN k r
def nodupN : List Nat → Bool
  | [] => true
  | x :: r => match memN x r with
    | true => false
    | false => nodupN r
def keysB (n : Nat) : List (Nat × Mem) → Bool
  | [] => true
  | (k, _) :: r => andB (Nat.blt k n) (keysB n r)
def memM (k : Nat) : List (Nat × Mem) → Bool
  | [] => false
  | (q, _) :: r => match Nat.beq q k with
    | true => true
    | false => memM k r
def nodupM : List (Nat × Mem) → Bool
  | [] => true
  | (k, _) :: r => match memM k r with
    | true => false
    | false => nodupM r
def newB (ks : List Nat) (κ nn : Nat) : List (Nat × Mem) → Bool
  | [] => true
  | (k, _) :: r => andB (memN k ks || (Nat.ble κ k && Nat.blt k (κ + nn))) (newB ks κ nn r)
def hasKey (k : Nat) : List (Nat × Mem) → Bool
  | [] => false
  | (q, _) :: r => match Nat.beq q k with
    | true => true
    | false => hasKey k r
def coverB (new : List (Nat × Mem)) (κ : Nat) : Nat → Bool
  | 0 => true
  | n + 1 => andB (hasKey (κ + n) new) (coverB new κ n)
/-- Blocks reckoned out. -/
def forceCs (l : List SV) : (List SV → Prop) → Prop :=
  List.rec (motive := fun _ => (List SV → Prop) → Prop) (fun K => K []) (fun c _ ih K => force c fun c => ih fun r => K (c :: r)) l
def forceM1 (m : Mem) (K : Mem → Prop) : Prop :=
  match m with
  | .box T cs => forceCs cs fun cs => K (.box T cs)
  | .arr T enc sz xs => K (.arr T enc sz xs)
  | .garr T sz xs => K (.garr T sz xs)
  | .map es => K (.map es)
def normK (n : Nat) : (Nat → Prop) → Prop :=
  Nat.rec (motive := fun _ => (Nat → Prop) → Prop) (fun K => K 0) (fun _ ih K => ih fun m => K (m + 1)) n
def forceMs (l : List (Nat × Mem)) : (List (Nat × Mem) → Prop) → Prop :=
  List.rec (motive := fun _ => (List (Nat × Mem) → Prop) → Prop) (fun K => K []) (fun x _ ih K => normK x.1 fun k => forceM1 x.2 fun m => ih fun r => K ((k, m) :: r)) l

/-- The ways in which a call goes by a contract. -/
inductive CallV (P : Program) (lm : Nat → Option Mem) (κ : Nat) (f : FuncId) (args : List SV) (K : SV → MD → Prop) : Prop
  | to (r : SV) (h : CallsG P f (views lm args) [] r []) (hr : okRes lm args r = true) (k : force r fun r => K r .none)
  | fresh (m : Mem) (r : SV) (h : CallsG P f (views lm args) [] r [(0, m)]) (hr : mvOK r = true) (hm : flatM m) (hc : clean lm args = true ∨ scalarM m) (k : force (mv κ r) fun r => K r (.push m))
  | see (k : Nat) (r : SV) (h : CallsG P f (views lm args) [] r []) (hk : isArr (lm k) = true) (hc : seeB lm k args = true) (hr : flatR r = true) (kk : force r fun r => K r (.drop k))
  | hand (k : Nat) (m m' : Mem) (r : SV) (hk : lm k = some m) (h : CallsG P f (gives lm k args) [(0, m)] r [(0, m')])
      (hm : flatM m) (hm' : flatM m') (hc : cleanG lm k args = true) (hr : flatR r = true) (k : force r fun r => K r (.set k m'))
  | give (ks : List Nat) (nn : Nat) (args' : List SV) (Mc M' : List (Nat × Mem)) (r : SV) (h : CallsG P f args' Mc r M') (ha : LEs args (renS.rens ks κ args')) (hl : lowS.lows ks.length args' = true)
      (hn : nodupN ks = true) (hk : andB (Nat.beq Mc.length ks.length) (andB (keysB ks.length Mc) (nodupM Mc)) = true) (hM : givenOK lm ks κ Mc 0 ks) (hr : outS (ks.length + nn) r = true) (hM' : leftOK (ks.length + nn) M')
      (k : forceMs (renMs ks κ M') fun new => force (renS ks κ r) fun r => K r (.give ks new nn))

/-- Cells that may be stored. -/
def cellB (s : SV) : Bool :=
  match s with
  | .val v => (match v with
    | .agg _ => false
    | .tuple _ => false
    | _ => true)
  | .agg _ => false
  | .tup _ => false
  | .junk => false
  | _ => true
def cellsB : List SV → Bool
  | [] => true
  | c :: cs => match cellB c with
    | true => cellsB cs
    | false => false

def takeOpt (o : Option Operand) (l : List SV) (dflt : Int) (K : Int → List SV → Prop) : Prop :=
  match o with
  | none => K dflt l
  | some _ => match l with
    | .val (.int _ n) :: r => K n r
    | _ => False

def fstO (p : Option (Nat × Nat)) : Nat :=
  match p with
  | some (a, _) => a
  | none => 0

def fillAt (pl : Nat → Option (Nat × Nat)) : List Nat → List SV → List SV → List SV
  | i :: r, s :: l, cs => fillAt pl r l (splice cs (fstO (pl i)) (cellsOf s))
  | _, _, cs => cs

/-- The parts of a composite value fit. -/
def partsB (pl : Nat → Option (Nat × Nat)) (n : Nat) : List Nat → List SV → Bool
  | i :: r, s :: l => (match pl i with
    | some (off, sz) => andB (Nat.beq (cellsOf s).length sz) (andB (Nat.ble (off + sz) n) (andB (cellsB (cellsOf s)) (partsB pl n r l)))
    | none => false)
  | [], [] => true
  | _, _ => false

def placeF (Γ : List (TypeId × TI)) (fs : List (Nat × TypeId)) (i : Nat) : Option (Nat × Nat) :=
  match nthF fs i with
  | some (off, ft) => (match ti Γ ft with
    | some j => some (off, j.sz)
    | none => none)
  | none => none
def placeA (sz i : Nat) : Option (Nat × Nat) := some (i * sz, sz)

def rep {α : Type 1} (n : Nat) (cs : List α) : List α :=
  match n with
  | 0 => []
  | n + 1 => cs ++ rep n cs

def chunk {α : Type _} (enc : α → List SV) (xs : List α) : List SV :=
  match xs with
  | [] => []
  | x :: xs => enc x ++ chunk enc xs

def lenOf (lm : Nat → Option Mem) (s : SV) (K : Int → Prop) : Prop :=
  match s with
  | .sl _ xs => xs.length ≤ 9223372036854775807 → K xs.length
  | .own k => (match lm k with
    | some (.arr _ _ _ xs) => xs.length ≤ 281474976710656 → K xs.length
    | some (.garr _ _ xs) => xs.length ≤ 281474976710656 → K xs.length
    | _ => False)
  | .val (.slice none 0 0) => K 0
  | .nils => K 0
  | .win _ _ _ n => Ob (0 ≤ n) (K n)
  | _ => False

def ints (s : List SV) (K : IntKind → List Int → Prop) : Prop :=
  match s with
  | .val (.int k m) :: r => (match r with
    | [] => K k [m]
    | _ => ints r fun _ l => K k (m :: l))
  | _ => False

def minL : Int → List Int → Int
  | x, [] => x
  | x, y :: r => minL (min x y) r
def maxL : Int → List Int → Int
  | x, [] => x
  | x, y :: r => maxL (max x y) r

/-- What a slice that is read holds. -/
def readAs {α : Type} (lm : Nat → Option Mem) (s : SV) (enc : α → List SV) (ys : List α) : Prop :=
  match s with
  | .val (.slice none 0 0) => ys = []
  | .own k => view1 lm (.own k) = .sl enc ys
  | s => s = .sl enc ys

/-- A slice of what is one's own: read from now on, or still one's own, or a part in which it is written. -/
inductive Sl (p q : Prop) (r : Prop := False) : Prop
  | see (h : p)
  | keep (h : q)
  | win (h : r)

def appendV (Γ : List (TypeId × TI)) (tys : List TypeId) (s x : SV) (lm : Nat → Option Mem) (κ : Nat) (K : SV → MD → Prop) : Prop :=
  match tys with
  | [t, t'] => guardB (Nat.beq t t') (withT Γ t fun i => (match i.kind with
    | .slice e => withT Γ e fun j => (match s with
      | .val (.slice none 0 0) => ∃ (α : Type) (enc : α → List SV) (ys : List α), readAs lm x enc ys ∧
          Ob ((ys.length : Int) * j.bytes ≤ 140737488355328 ∧ ys.length ≤ 281474976710656 ∧ 0 < j.sz ∧ ∀ x ∈ ys, (enc x).length = j.sz) (K (.own κ) (.push (.arr e enc j.sz ys)))
      | .own k => (match lm k with
        | some (.arr e' enc sz xs) => guardB (Nat.beq e e') (guardB (Nat.beq sz j.sz) (∃ ys, readAs lm x enc ys ∧
          Ob ((xs.length + ys.length : Int) * j.bytes ≤ 140737488355328 ∧ xs.length + ys.length ≤ 281474976710656 ∧ 0 < j.sz ∧ ∀ x ∈ ys, (enc x).length = j.sz)
            (K (.own κ) (.repl k (.arr e enc sz (xs ++ ys))))))
        | some (.garr e' sz xs) => guardB (Nat.beq e e') (guardB (Nat.beq sz j.sz) (∃ (α : Type) (enc : α → List SV) (ys : List α), readAs lm x enc ys ∧
          Ob ((xs.length + ys.length : Int) * j.bytes ≤ 140737488355328 ∧ xs.length + ys.length ≤ 281474976710656 ∧ 0 < j.sz ∧ ∀ x ∈ ys, (enc x).length = j.sz)
            (K (.own κ) (.repl k (.garr e sz (xs ++ ys.map enc))))))
        | _ => False)
      | .full enc xs => ∃ ys, readAs lm x enc ys ∧
          Ob (ys ≠ [] ∧ (xs.length + ys.length : Int) * j.bytes ≤ 140737488355328 ∧ xs.length + ys.length ≤ 281474976710656 ∧ 0 < j.sz ∧ (∀ x ∈ xs, (enc x).length = j.sz) ∧ ∀ x ∈ ys, (enc x).length = j.sz)
            (K (.own κ) (.push (.arr e enc j.sz (xs ++ ys))))
      | .nils => Sl (∃ (α : Type) (enc : α → List SV) (ys : List α), readAs lm x enc ys ∧
          Ob (ys ≠ [] ∧ (ys.length : Int) * j.bytes ≤ 140737488355328 ∧ ys.length ≤ 281474976710656 ∧ 0 < j.sz ∧ ∀ x ∈ ys, (enc x).length = j.sz) (K (.own κ) (.push (.arr e enc j.sz ys))))
          (∃ (α : Type) (enc : α → List SV), readAs lm x enc ([] : List α) ∧ 0 < j.sz ∧ K .nils .none)
      | _ => False)
    | _ => False))
  | _ => False

/-- As many zero values, behind a nil slice. -/
def appendZ (Γ : List (TypeId × TI)) (tys : List TypeId) (s : SV) (n : Int) (κ : Nat) (K : SV → MD → Prop) : Prop :=
  match tys, s with
  | [t, t'], .val (.slice none 0 0) => withT Γ t fun i => withT Γ t' fun i' => (match i.kind, i'.kind with
    | .slice e, .int _ => withT Γ e fun j => ∃ (α : Type) (enc : α → List SV) (z : α),
        enc z = vals j.zero ∧ Ob (0 < j.sz ∧ 0 < n ∧ n * j.bytes ≤ 140737488355328 ∧ n ≤ 281474976710656) (K (.own κ) (.push (.arr e enc j.sz (List.replicate n.toNat z))))
    | _, _ => False)
  | _, _ => False

/-- A copy into a row of one's own, from 'lo' on, at most 'n' elements. -/
def copyInto (lm : Nat → Option Mem) (k : Nat) (T : TypeId) {α : Type} (enc : α → List SV) (sz : Nat) (xs : List α) (lo n : Int) (x : SV) (K : SV → MD → Prop) : Prop :=
  ∃ ys, readAs lm x enc ys ∧ Ob (0 < sz ∧ 0 ≤ lo ∧ 0 ≤ n ∧ lo + n ≤ xs.length ∧ ∀ y ∈ ys, (enc y).length = sz)
    (K (.val (.int .i64 (min ys.length n.toNat : Nat))) (.set k (.arr T enc sz (xs.take lo.toNat ++ (ys.take n.toNat ++ xs.drop (lo.toNat + min ys.length n.toNat))))))

def builtinV (Γ : List (TypeId × TI)) (b : Builtin) (tys : List TypeId) (args : List SV) (lm : Nat → Option Mem) (κ : Nat) (K : SV → MD → Prop) : Prop :=
  match b, args with
  | .len, [s] => (match tys with
    | [t] => withT Γ t fun i => (match i.kind with
      | .slice _ => lenOf lm s fun n => K (.val (.int .i64 n)) .none
      | _ => False)
    | _ => False)
  | .cap, [s] => (match tys with
    | [t] => withT Γ t fun i => (match i.kind with
      | .slice _ => (match s with
        | .val (.slice none 0 0) => K (.val (.int .i64 0)) .none
        | .nils => K (.val (.int .i64 0)) .none
        | _ => False)
      | _ => False)
    | _ => False)
  | .min, s => ints s fun k l => (match l with
    | x :: r => K (.val (.int k (minL x r))) .none
    | [] => False)
  | .max, s => ints s fun k l => (match l with
    | x :: r => K (.val (.int k (maxL x r))) .none
    | [] => False)
  | .append, [s, x] => (match x with
    | .val (.int _ n) => appendZ Γ tys s n κ K
    | x => appendV Γ tys s x lm κ K)
  | .copy, [d, x] => (match tys with
    | [t, _] => withT Γ t fun i => (match i.kind with
      | .slice e => withT Γ e fun j => (match d with
        | .own k => (match lm k with
          | some (.arr T enc sz xs) => guardB (Nat.beq sz j.sz) (copyInto lm k T enc sz xs 0 xs.length x K)
          | _ => False)
        | .win k sz' lo n => (match lm k with
          | some (.arr T enc sz xs) => guardB (Nat.beq sz j.sz) (guardB (Nat.beq sz' sz) (copyInto lm k T enc sz xs lo n x K))
          | _ => False)
        | _ => False)
      | _ => False)
    | _ => False)
  | _, _ => False

def loadV (Γ : List (TypeId × TI)) (t : TypeId) (s : SV) (lm : Nat → Option Mem) (K : SV → MD → Prop) : Prop :=
  withT Γ t fun i => (match s with
    | .loc k off => (match lm k with
      | some (.box _ cs) => guardB (Nat.ble (off + i.sz) cs.length) (mkV i.kind.agg i.sz (cs.drop off) fun s => K s .none)
      | _ => False)
    | .ptr cs => guardB (Nat.ble i.sz cs.length) (mkV i.kind.agg i.sz cs fun s => K s .none)
    | .dptr cs => guardB (Nat.ble i.sz cs.length) (mkV i.kind.agg i.sz cs fun s => K s .none)
    | .eloc k sz n off => (match lm k with
      | some (.arr _ enc sz' xs) => guardB (Nat.beq sz sz') (guardB (Nat.ble (off + i.sz) sz) (Ob (0 ≤ n ∧ n < xs.length) (∀ x, xs[n.toNat]? = some x →
          mkV i.kind.agg i.sz ((enc x).drop off) fun s => K s .none)))
      | some (.garr _ sz' xs) => guardB (Nat.beq sz sz') (guardB (Nat.ble (off + i.sz) sz) (Ob (0 ≤ n ∧ n < xs.length) (∀ x, xs[n.toNat]? = some x →
          mkV i.kind.agg i.sz (x.drop off) fun s => K s .none)))
      | _ => False)
    | _ => False)

def storeV (Γ : List (TypeId × TI)) (t : TypeId) (s v : SV) (lm : Nat → Option Mem) (K : SV → MD → Prop) : Prop :=
  withT Γ t fun i => guardB (cellsB (cellsOf v)) (guardB (Nat.beq (cellsOf v).length i.sz) (match s with
    | .loc k off => (match lm k with
      | some (.box T cs) => guardB (Nat.ble (off + i.sz) cs.length) (K (.val undef) (.set k (.box T (splice cs off (cellsOf v)))))
      | _ => False)
    | .eloc k sz n off => (match lm k with
      | some (.arr T (α := α) enc sz' xs) => guardB (Nat.beq sz sz') (guardB (Nat.ble (off + i.sz) sz) (match flat.flats (cellsOf v) with
        | true => (Ob (0 ≤ n ∧ n < xs.length) (∀ x, xs[n.toNat]? = some x →
          ∃ x' : α, enc x' = splice (enc x) off (cellsOf v) ∧ K (.val undef) (.set k (.arr T enc sz (xs.set n.toNat x')))))
        | false => (Ob (0 ≤ n ∧ n < xs.length) (∀ x, xs[n.toNat]? = some x →
          K (.val undef) (.set k (.garr T sz ((xs.map enc).set n.toNat (splice (enc x) off (cellsOf v)))))))))
      | some (.garr T sz' xs) => guardB (Nat.beq sz sz') (guardB (Nat.ble (off + i.sz) sz) (Ob (0 ≤ n ∧ n < xs.length) (∀ x, xs[n.toNat]? = some x →
          K (.val undef) (.set k (.garr T sz (xs.set n.toNat (splice x off (cellsOf v))))))))
      | _ => False)
    | _ => False))

def optOK (hi mx : Option Operand) : Bool :=
  match mx, hi with
  | some _, none => false
  | _, _ => true

def isZero : Option Operand → Bool
  | some (.const (.int _ n)) => (match n with
    | .ofNat m => Nat.beq m 0
    | _ => false)
  | _ => false
/-- A slice of data whose capacity is bounded: its capacity forgotten, or known to be its length. -/
inductive FullC (p q : Prop) : Prop
  | sl (h : p)
  | full (h : q)
def isNone : Option Operand → Bool
  | none => true
  | _ => false
def sliceV (Γ : List (TypeId × TI)) (t : TypeId) (lo hi mx : Option Operand) (svs : List SV) (lm : Nat → Option Mem) (κ : Nat) (K : SV → MD → Prop) : Prop :=
  guardB (optOK hi mx) (match svs with
  | s :: rest => withT Γ t fun i => (match i.kind with
    | .slice e => withT Γ e fun j => (match s with
      | .sl enc xs => (match andB (isZero hi) (isZero mx) with
        | true => takeOpt lo rest 0 fun l rest => takeOpt hi rest 0 fun h rest => takeOpt mx rest 0 fun m _ => Ob (l = 0 ∧ h = 0 ∧ m = 0) (K .nils .none)
        | false => takeOpt lo rest 0 fun l rest => takeOpt hi rest xs.length fun h rest => takeOpt mx rest xs.length fun m _ => (match isNone mx with
          | true => Ob ((0 ≤ l ∧ l ≤ h ∧ h ≤ m ∧ m ≤ xs.length) ∧ ∀ x ∈ xs, (enc x).length = j.sz) (K (.sl enc ((xs.drop l.toNat).take (h - l).toNat)) .none)
          | false => FullC (Ob ((0 ≤ l ∧ l ≤ h ∧ h ≤ m ∧ m ≤ xs.length) ∧ ∀ x ∈ xs, (enc x).length = j.sz) (K (.sl enc ((xs.drop l.toNat).take (h - l).toNat)) .none))
            (Ob ((0 ≤ l ∧ l ≤ h ∧ h = m ∧ m ≤ xs.length) ∧ ∀ x ∈ xs, (enc x).length = j.sz) (K (.full enc ((xs.drop l.toNat).take (h - l).toNat)) .none))))
      | .val (.slice none 0 0) => takeOpt lo rest 0 fun l rest => takeOpt hi rest 0 fun h rest => takeOpt mx rest 0 fun m _ => Ob (l = 0 ∧ h = 0 ∧ m = 0) (K (.val (.slice none 0 0)) .none)
      | .own k => (match lm k with
        | some (.arr T enc sz xs) => guardB (Nat.beq sz j.sz) (takeOpt lo rest 0 fun l rest => takeOpt hi rest xs.length fun h rest => takeOpt mx rest xs.length fun m _ =>
          Sl (Ob (0 ≤ l ∧ l ≤ h ∧ h ≤ m ∧ m ≤ xs.length) (K (.sl enc ((xs.drop l.toNat).take (h - l).toNat)) (.drop k)))
            (guardB (isNone mx) (Ob (l = 0 ∧ 0 ≤ h ∧ h ≤ xs.length) (K (.own κ) (.repl k (.arr T enc sz (xs.take h.toNat))))))
            (Ob (0 ≤ l ∧ l < h ∧ h ≤ m ∧ m ≤ xs.length) (K (.win k sz l (h - l)) .none)))
        | some (.garr T sz xs) => guardB (Nat.beq sz j.sz) (guardB (isNone mx) (takeOpt lo rest 0 fun l rest => takeOpt hi rest xs.length fun h _ =>
            (Ob (l = 0 ∧ 0 ≤ h ∧ h ≤ xs.length) (K (.own κ) (.repl k (.garr T sz (xs.take h.toNat)))))))
        | _ => False)
      | _ => False)
    | _ => False)
  | [] => False)

def fieldAddrV (Γ : List (TypeId × TI)) (t : TypeId) (f : Nat) (s : SV) (K : SV → MD → Prop) : Prop :=
  withT Γ t fun i => (match i.kind with
    | .struct fs => (match nthF fs f with
      | some (off, ft) => withT Γ ft fun j => guardB (Nat.blt 0 j.sz) (match s with
        | .loc k o' => K (.loc k (o' + off)) .none
        | .ptr cs => K (.ptr (cs.drop off)) .none
        | .dptr cs => K (.dptr (cs.drop off)) .none
        | .eloc k sz i o' => K (.eloc k sz i (o' + off)) .none
        | _ => False)
      | none => False)
    | _ => False)

def indexAddrV (Γ : List (TypeId × TI)) (t : TypeId) (s n : SV) (lm : Nat → Option Mem) (K : SV → MD → Prop) : Prop :=
  withT Γ t fun i => (match n with
    | .val (.int _ n) => (match i.kind with
      | .slice e => withT Γ e fun j => (match s with
        | .sl enc xs => Ob (0 ≤ n ∧ n < xs.length) (∀ x, xs[n.toNat]? = some x → guardB (Nat.beq (enc x).length j.sz) (K (.ptr (enc x)) .none))
        | .own k => (match lm k with
          | some (.arr _ _ sz xs) => guardB (Nat.beq sz j.sz) (Ob (0 ≤ n ∧ n < xs.length) (K (.eloc k sz n 0) .none))
          | some (.garr _ sz xs) => guardB (Nat.beq sz j.sz) (Ob (0 ≤ n ∧ n < xs.length) (K (.eloc k sz n 0) .none))
          | _ => False)
        | .win k sz lo l => guardB (Nat.beq sz j.sz) (Ob (0 ≤ lo ∧ 0 ≤ n ∧ n < l) (K (.eloc k sz (lo + n) 0) .none))
        | _ => False)
      | .arr len e => withT Γ e fun j => (match n with
        | .ofNat m => guardB (Nat.blt m len) (match s with
          | .loc k off => K (.loc k (off + m * j.sz)) .none
          | .ptr cs => K (.ptr (cs.drop (m * j.sz))) .none
          | _ => False)
        | _ => False)
      | _ => False)
    | _ => False)

def indexV (Γ : List (TypeId × TI)) (t : TypeId) (s n : SV) (K : SV → MD → Prop) : Prop :=
  withT Γ t fun i => (match i.kind, s, n with
    | .arr len e, .agg cs, .val (.int _ n) => withT Γ e fun j => (match n with
      | .ofNat m => guardB (Nat.blt m len) (guardB (Nat.ble (m * j.sz + j.sz) cs.length) (mkV j.kind.agg j.sz (cs.drop (m * j.sz)) fun s => K s .none))
      | _ => False)
    | .str, .val (.string s), .val (.int _ n) => Ob (0 ≤ n ∧ n < s.size) (∀ b : UInt8, s[n.toNat]? = some b → K (.val (.int .u8 b.toNat)) .none)
    | _, _, _ => False)

def buildV (Γ : List (TypeId × TI)) (t : TypeId) (ids : List Nat) (svs : List SV) (K : SV → MD → Prop) : Prop :=
  withT Γ t fun i => (match i.kind with
    | .struct fs => guardB (partsB (placeF Γ fs) i.sz ids svs) (K (.agg (fillAt (placeF Γ fs) ids svs (vals i.zero))) .none)
    | .arr _ e => withT Γ e fun j => guardB (partsB (placeA j.sz) i.sz ids svs) (K (.agg (fillAt (placeA j.sz) ids svs (vals i.zero))) .none)
    | _ => False)

/-- Is it a row of data? -/
def selOne : SV → Bool
  | .loc _ _ => false
  | .own _ => false
  | .eloc _ _ _ _ => false
  | .win _ _ _ _ => false
  | .ptr _ => false
  | _ => true
def selB : List SV → Bool
  | [] => true
  | s :: r => match selOne s with
    | true => selB r
    | false => false

def buildSliceV (Γ : List (TypeId × TI)) (t : TypeId) (n : Nat) (ids : List Nat) (svs : List SV) (κ : Nat) (K : SV → MD → Prop) : Prop :=
  withT Γ t fun i => (match i.kind with
    | .slice e => withT Γ e fun j => guardB (partsB (placeA j.sz) (n * j.sz) ids svs) (match selB svs with
        | true => (∃ (α : Type) (enc : α → List SV) (xs : List α),
          chunk enc xs = fillAt (placeA j.sz) ids svs (rep n (vals j.zero)) ∧
          Ob (xs.length = n ∧ n ≤ 281474976710656 ∧ n * j.sz ≤ 16777216 ∧ 0 < j.sz ∧ ∀ x ∈ xs, (enc x).length = j.sz ∧ cellsB (enc x) = true ∧ flat.flats (enc x) = true) (K (.own κ) (.push (.arr e enc j.sz xs))))
        | false => guardB (cellsB (fillAt (placeA j.sz) ids svs (rep n (vals j.zero)))) (∃ (xs : List (List SV)),
          chunk id xs = fillAt (placeA j.sz) ids svs (rep n (vals j.zero)) ∧
          Ob (xs.length = n ∧ n ≤ 281474976710656 ∧ n * j.sz ≤ 16777216 ∧ 0 < j.sz ∧ ∀ x ∈ xs, x.length = j.sz) (K (.own κ) (.push (.garr e j.sz xs)))))
    | _ => False)

def makeSliceV (Γ : List (TypeId × TI)) (t : TypeId) (l c : SV) (κ : Nat) (K : SV → MD → Prop) : Prop :=
  withT Γ t fun i => (match i.kind, l, c with
    | .slice e, .val (.int _ n), .val (.int _ m) => withT Γ e fun j => ∃ (α : Type) (enc : α → List SV) (z : α),
        enc z = vals j.zero ∧ Ob (0 < j.sz ∧ 0 ≤ n ∧ n ≤ m ∧ m * j.bytes ≤ 281474976710656 ∧ m ≤ 281474976710656) (K (.own κ) (.push (.arr e enc j.sz (List.replicate n.toNat z))))
    | _, _, _ => False)

def pickV (c a b : SV) (K : SV → MD → Prop) : Prop :=
  match c with
  | .val (.bool true) => K a .none
  | .val (.bool false) => K b .none
  | .pr p _ => Br (p → K a .none) (¬ p → K b .none)
  | _ => False

def unV (op : UnOp) (s : SV) (K : SV → MD → Prop) : Prop :=
  match op, s with
  | .not, .val (.bool true) => K (.val (.bool false)) .none
  | .not, .val (.bool false) => K (.val (.bool true)) .none
  | .not, .pr p i => K (.pr (¬ p) (@instDecidableNot _ i)) .none
  | .neg, .val (.int k n) => fitK k (- n) fun s => K s .none
  | _, _ => False

def optL : Option Operand → List Operand
  | none => []
  | some x => [x]

def calleeL : Callee → List Operand
  | .value f => [f]
  | .invoke r _ => [r]
  | .builtin _ => []

def operandsL : Op → List Operand
  | .move x => [x]
  | .assign x => [x]
  | .pick c a b => [c, a, b]
  | .box _ x => [x]
  | .build _ ps => ps.toList.map (·.2)
  | .buildSlice _ _ ps => ps.toList.map (·.2)
  | .load _ a => [a]
  | .store _ a x => [a, x]
  | .nilCheck x => [x]
  | .binOp _ _ x y _ => [x, y]
  | .unOp _ _ x => [x]
  | .convert _ _ x => [x]
  | .makeFunc _ first caps => first.toList ++ caps.toList
  | .makeSlice _ l c => [l, c]
  | .makeInterface _ x => [x]
  | .typeAssert x _ _ _ => [x]
  | .makeMap _ r => optL r
  | .mapUpdate _ m k x => [m, k, x]
  | .insert _ m k x => [m, k, x]
  | .lookup _ m k _ => [m, k]
  | .slice _ x lo hi mx => x :: (optL lo ++ (optL hi ++ optL mx))
  | .fieldAddr _ x _ => [x]
  | .field _ x _ => [x]
  | .indexAddr _ x i => [x, i]
  | .index _ x i => [x, i]
  | .extract x _ => [x]
  | .call c => calleeL c.callee ++ c.args.toList
  | _ => []

/-- An entry of a map, by its key. -/
def findK (es : List (Int × SV)) (n : Int) (K1 : SV → Prop) (K0 : Prop) : Prop :=
  List.rec (motive := fun _ => Prop) K0 (fun x _ ih => match x with
    | (k, s) => Br (n = k → K1 s) (¬ n = k → ih)) es
def updK (es : List (Int × SV)) (n : Int) (s : SV) : (List (Int × SV) → Prop) → Prop :=
  List.rec (motive := fun _ => (List (Int × SV) → Prop) → Prop) (fun K => K [(n, s)]) (fun x r ih K => match x with
    | (k, s') => Br (n = k → K ((n, s) :: r)) (¬ n = k → ih fun r' => K ((k, s') :: r'))) es
def makeMapV (Γ : List (TypeId × TI)) (t : TypeId) (svs : List SV) (κ : Nat) (K : SV → MD → Prop) : Prop :=
  withT Γ t fun i => (match i.kind with
    | .map _ _ => (match svs with
      | [] => K (.own κ) (.push (.map []))
      | .val (.int _ _) :: _ => K (.own κ) (.push (.map []))
      | _ => False)
    | _ => False)
def mapUpdateV (Γ : List (TypeId × TI)) (t : TypeId) (m k s : SV) (lm : Nat → Option Mem) (K : SV → MD → Prop) : Prop :=
  withT Γ t fun i => (match i.kind with
    | .map kt _ => withT Γ kt fun j => (match j.kind, m, k with
      | .int .i64, .own c, .val (.int .i64 n) => (match lm c with
        | some (.map es) => guardB (flat s) (updK es n s fun es' => K (.val undef) (.set c (.map es')))
        | _ => False)
      | _, _, _ => False)
    | _ => False)
def lookV (ok : Bool) (s : SV) (b : Bool) (K : SV → MD → Prop) : Prop :=
  match ok with
  | true => K (.tup [s, .val (.bool b)]) .none
  | false => force s fun s => K s .none
def lookupV (Γ : List (TypeId × TI)) (t : TypeId) (ok : Bool) (m k : SV) (lm : Nat → Option Mem) (K : SV → MD → Prop) : Prop :=
  withT Γ t fun i => (match i.kind with
    | .map kt et => withT Γ kt fun j => withT Γ et fun z => (match j.kind, m, k with
      | .int .i64, .own c, .val (.int .i64 n) => (match lm c with
        | some (.map es) => findK es n (fun s => lookV ok s true K) (mkV z.kind.agg z.sz (vals z.zero) fun s => lookV ok s false K)
        | _ => False)
      | _, _, _ => False)
    | _ => False)

def makeIfcV (Γ : List (TypeId × TI)) (t : TypeId) (s : SV) (K : SV → MD → Prop) : Prop :=
  withT Γ t fun i => (match i.kind with
    | .iface => False
    | .other => False
    | _ => K (.ifc t s) .none)
def assertI (t : TypeId) (ok : Bool) (s : SV) (Z : Prop) (K : SV → MD → Prop) : Prop :=
  match s with
  | .ifc t' s' => (match Nat.beq t' t with
    | true => lookV ok s' true K
    | false => (match ok with
      | true => Z
      | false => False))
  | .val .nilIface => (match ok with
    | true => Z
    | false => False)
  | _ => False
def assertV (Γ : List (TypeId × TI)) (t : TypeId) (ok : Bool) (s : SV) (K : SV → MD → Prop) : Prop :=
  withT Γ t fun i => (match i.kind with
    | .iface => False
    | .other => False
    | _ => assertI t ok s (mkV i.kind.agg i.sz (vals i.zero) fun s => lookV true s false K) K)
/-- Which function stands behind a method of a type. -/
def methodB (P : Program) (t : TypeId) (name : String) (f : FuncId) : Bool :=
  (match P.underlying t with
    | some (.struct _) => true
    | _ => false) && (match P.info? t with
    | some i => (match i.methods.find? (·.name == name) with
      | some m => m.path.isEmpty && (match m.func with
        | some (g, p) => Nat.beq g f && !p
        | none => false)
      | none => false)
    | none => false)

/-- Values all of whose parts are known. -/
def concL : List SV → (List Value → Prop) → Prop
  | [], K => K []
  | .val v :: r, K => concL r fun vs => K (v :: vs)
  | _, _ => False
def conc (s : SV) (K : Value → Prop) : Prop :=
  match s with
  | .val v => K v
  | .agg cs => concL cs fun vs => K (.agg vs.toArray)
  | _ => False
def concs : List SV → (List Value → Prop) → Prop
  | [], K => K []
  | s :: r, K => conc s fun v => concs r fun vs => K (v :: vs)
def ofV (v : Value) : SV :=
  match v with
  | .agg a => .agg (a.toList.map .val)
  | v => .val v

/-- One operation, its operands being known. -/
def opV (P : Program) (Γ : List (TypeId × TI)) (op : Op) (svs : List SV) (lm : Nat → Option Mem) (κ : Nat) (K : SV → MD → Prop) : Prop :=
  match op, svs with
  | .move _, [s] => K s .none
  | .assign _, [s] => K s .none
  | .pick _ _ _, [c, a, b] => pickV c a b K
  | .alloc e, _ => withT Γ e fun i => K (.loc κ 0) (.push (.box e (vals i.zero)))
  | .box e _, [s] => guardB (cellsB (cellsOf s)) (K (.loc κ 0) (.push (.box e (cellsOf s))))
  | .build t ps, svs => buildV Γ t (ps.toList.map (·.1)) svs K
  | .buildSlice t n ps, svs => buildSliceV Γ t n (ps.toList.map (·.1)) svs κ K
  | .load t _, [s] => loadV Γ t s lm K
  | .store t _ _, [s, v] => storeV Γ t s v lm K
  | .nilCheck _, [s] => (match s with
    | .loc k off => K (.loc k off) .none
    | .ptr cs => K (.ptr cs) .none
    | .dptr cs => K (.dptr cs) .none
    | .eloc k sz i off => K (.eloc k sz i off) .none
    | .ifc t s => K (.ifc t s) .none
    | _ => False)
  | .binOp op t _ y _, [a, b] => bin Γ op t y a b fun s => K s .none
  | .unOp op _ _, [s] => unV op s K
  | .convert s0 t _, [s] => withT Γ s0 fun _ => withT Γ t fun i => (match i.kind, s with
    | .int k, .val (.int _ n) => fitK k n fun s => K s .none
    | _, _ => False)
  | .makeFunc fn first caps, svs => (match fn with
    | .func f => (match first.isEmpty with
      | true => K (.fn f svs) .none
      | false => guardB caps.isEmpty (concs svs fun vs => K (.val (.func (.func f) vs.toArray #[])) .none))
    | _ => False)
  | .makeSlice t _ _, [l, c] => makeSliceV Γ t l c κ K
  | .slice t _ lo hi mx, svs => sliceV Γ t lo hi mx svs lm κ K
  | .fieldAddr t _ f, [s] => fieldAddrV Γ t f s K
  | .field t _ f, [s] => withT Γ t fun i => (match i.kind, s with
    | .struct fs, .agg cs => (match nthF fs f with
      | some (off, ft) => withT Γ ft fun j => guardB (Nat.ble (off + j.sz) cs.length) (mkV j.kind.agg j.sz (cs.drop off) fun s => K s .none)
      | none => False)
    | _, _ => False)
  | .indexAddr t _ _, [s, n] => indexAddrV Γ t s n lm K
  | .index t _ _, [s, n] => indexV Γ t s n K
  | .extract _ n, [s] => (match s with
    | .tup vs => (match vs.drop n with
      | v :: _ => force v fun v => K v .none
      | [] => False)
    | _ => False)
  | .makeInterface t _, [s] => makeIfcV Γ t s K
  | .typeAssert _ _ t ok, [s] => assertV Γ t ok s K
  | .makeMap t _, svs => makeMapV Γ t svs κ K
  | .mapUpdate t _ _ _, [m, k, s] => mapUpdateV Γ t m k s lm K
  | .insert t _ _ _, [m, k, s] => mapUpdateV Γ t m k s lm K
  | .lookup t _ _ ok, [m, k] => lookupV Γ t ok m k lm K
  | .call c, svs => (match c.callee with
    | .value _ => (match svs with
      | .fn f caps :: args => CallV P lm κ f (args ++ caps) K
      | .val (.func (.func f) first ⟨[]⟩) :: args => CallV P lm κ f (first.toList.map ofV ++ args) K
      | .dfn f caps :: args => CallV P lm κ f (args ++ caps) K
      | _ => False)
    | .invoke _ name => (match svs with
      | .ifc t s :: args => ∃ f, methodB P t name f = true ∧ CallV P lm κ f (s :: args) K
      | _ => False)
    | .builtin b => builtinV Γ b c.argTypes.toList svs lm κ K)
  | _, _ => False

/-- What is known of the block 'k', of those that have a name yet. -/
def known (M : List (Nat × Mem)) (κ k : Nat) : Option Mem :=
  match Nat.blt k κ with
  | true => lookM M k
  | false => none

def dstOK (d : Option Tmp) (nt : Nat) (K : Prop) : Prop :=
  match d with
  | some d => guardB (Nat.blt d nt) K
  | none => K

/-- In a region that draws its order: what may become of the blocks of one's own. -/
def usesM : Op → Bool
  | .load _ _ => true
  | .store _ _ _ => true
  | .slice _ _ _ _ _ => true
  | .indexAddr _ _ _ => true
  | .mapUpdate _ _ _ _ => true
  | .insert _ _ _ _ => true
  | .lookup _ _ _ _ => true
  | .call _ => true
  | _ => false
def isApp : Op → Bool
  | .call c => (match c.callee with
    | .builtin .append => true
    | .builtin .copy => true
    | _ => false)
  | _ => false
def isW : Op → Bool
  | .store _ _ _ => true
  | .mapUpdate _ _ _ _ => true
  | .insert _ _ _ _ => true
  | o => isApp o
def mayTouch : Op → Bool
  | .store _ _ _ => true
  | .alloc _ => true
  | .box _ _ => true
  | .buildSlice _ _ _ => true
  | .makeSlice _ _ _ => true
  | .makeMap _ _ => true
  | .mapUpdate _ _ _ _ => true
  | .insert _ _ _ _ => true
  | o => isApp o

def maskOf (acc : List Nat) (o : Oper) : Nat := o.after.toList.foldl (fun s e => if Region.binds .any e then s ||| 2 ^ e.on ||| acc.getD e.on 0 else s) 0
def masks (all : List Oper) : Nat → List Nat
  | 0 => []
  | j + 1 => let acc := masks all j; acc ++ [match all[j]? with | some o => maskOf acc o | none => 0]

def dstOf : List Oper → Nat → Option Tmp
  | [], _ => none
  | o :: _, 0 => o.dst
  | _ :: r, n + 1 => dstOf r n
def tmpsOf : List Operand → List Nat
  | [] => []
  | .tmp t :: r => t :: tmpsOf r
  | _ :: r => tmpsOf r
def slotsR (all : List Oper) (o : Oper) : List Nat :=
  tmpsOf (operandsL o.op) ++ (match o.guard with
    | some (j, _) => (match dstOf all j with
      | some t => [t]
      | none => [])
    | none => [])
def slotsW (o : Oper) : List Nat := o.dst.toList
def meets (a b : List Nat) : Bool := a.any fun x => b.any fun y => Nat.beq x y
/-- Must these two, the first ahead of the second in the text, keep their order? -/
def conf (all : List Oper) (oi oj : Oper) : Bool :=
  (mayTouch oi.op && usesM oj.op) || (usesM oi.op && isW oj.op) || meets (slotsW oi) (slotsR all oj) || meets (slotsW oi) (slotsW oj) || meets (slotsR all oi) (slotsW oj)
def edgesOK (ops : List Oper) : Bool :=
  (List.range ops.length).all fun j => (match ops[j]? with
    | some o => o.after.toList.all fun e => !Region.binds .any e || Nat.blt e.on j
    | none => true)
def orderOK (ops : List Oper) : Bool :=
  let ms := masks ops ops.length
  edgesOK ops && (List.range ops.length).all fun j => (List.range j).all fun i => (ms.getD j 0).testBit i || !(match ops[i]?, ops[j]? with
    | some oi, some oj => conf ops oi oj
    | _, _ => false)
/-- All that uses memory behind operation 'i' keeps behind it. -/
def pushOK (ops : List Oper) (i : Nat) : Bool :=
  let ms := masks ops ops.length
  (List.range ops.length).all fun j => Nat.ble j i || (ms.getD j 0).testBit i || !(match ops[j]? with
    | some oj => usesM oj.op
    | none => false)

/-- What an operation in a region that draws its order may do to the blocks of one's own. -/
def mdV (draw : Bool) (all : List Oper) (i κ : Nat) (op : Op) (md : MD) (K : Prop) : Prop :=
  match draw with
  | false => K
  | true => (match isW op with
    | true => (match md with
      | .drop _ => False
      | .set k _ => guardB (Nat.blt k κ) K
      | .repl k _ => guardB (Nat.blt k κ) K
      | .give _ _ _ => False
      | _ => K)
    | false => (match md with
      | .none => K
      | .push _ => (match mayTouch op with
        | true => K
        | false => Dr (pushOK all i = true) K False)
      | _ => False))

/-- A number, reckoned out. -/
def normN (n : Nat) : (Nat → Prop) → Prop :=
  Nat.rec (motive := fun _ => (Nat → Prop) → Prop) (fun K => K 0) (fun _ ih K => ih fun m => K (m + 1)) n
theorem normN_elim : ∀ {n : Nat} {K : Nat → Prop}, normN n K → K n
  | 0, _, h => h
  | n + 1, _, h => normN_elim (n := n) h
/-- A list of cells, its spine reckoned out. -/
def forceL (l : List SV) : (List SV → Prop) → Prop :=
  List.rec (motive := fun _ => (List SV → Prop) → Prop) (fun K => K []) (fun c _ ih K => ih fun r => K (c :: r)) l
theorem forceL_elim : ∀ {l : List SV} {K : List SV → Prop}, forceL l K → K l
  | [], _, h => h
  | c :: l, K, h => forceL_elim (l := l) (K := fun r => K (c :: r)) h
def spineS (s : SV) (K : SV → Prop) : Prop :=
  match s with
  | .agg cs => forceL cs fun cs => K (.agg cs)
  | s => K s
theorem spineS_elim {s : SV} {K : SV → Prop} (h : spineS s K) : K s := by
  unfold spineS at h
  split at h
  · exact forceL_elim (K := fun cs => K (.agg cs)) h
  · exact h
def spineM (md : MD) (K : MD → Prop) : Prop :=
  match md with
  | .push m => (match m with
    | .box T cs => forceL cs fun cs => K (.push (.box T cs))
    | m => K (.push m))
  | .set k m => (match m with
    | .box T cs => forceL cs fun cs => K (.set k (.box T cs))
    | m => K (.set k m))
  | md => K md
theorem spineM_elim {md : MD} {K : MD → Prop} (h : spineM md K) : K md := by
  unfold spineM at h
  split at h
  · split at h
    · rename_i T cs; exact forceL_elim (K := fun cs => K (.push (.box T cs))) h
    · exact h
  · rename_i k _; split at h
    · rename_i T cs; exact forceL_elim (K := fun cs => K (.set k (.box T cs))) h
    · exact h
  · exact h
def St.withK (σ : St) (κ : Nat) : St := ⟨σ.L, σ.M, κ, σ.nt, σ.n0⟩

/-- One operation. -/
def stepOp (P : Program) (Γ : List (TypeId × TI)) (draw : Bool) (all : List Oper) (i : Nat) (o : Oper) (σ : St) (K : St → Prop) : Prop :=
  normN σ.nk fun κ => evs σ.L (operandsL o.op) fun svs => opV P Γ o.op svs (known σ.M κ) κ fun s md => spineS s fun s => spineM md fun md => mdV draw all i κ o.op md (dstOK o.dst σ.nt (K ((σ.withK κ).app o.dst s md)))

def skipOp (o : Oper) (σ : St) (K : St → Prop) : Prop := dstOK o.dst σ.nt (K (σ.app o.dst (.val undef) .none))

/-- The operations of a region, one behind the other. -/
def vcOps (P : Program) (Γ : List (TypeId × TI)) (draw : Bool) (all : List Oper) (l : List Oper) : Nat → St → (St → Prop) → Prop :=
  List.rec (motive := fun _ => Nat → St → (St → Prop) → Prop) (fun _ σ K => K σ) (fun o _ ih i σ K => match o.guard with
    | none => stepOp P Γ draw all i o σ fun σ => ih (i + 1) σ K
    | some (j, want) => (match dstOf all j with
      | none => False
      | some t => (match look σ.L t with
        | some (.val (.bool true)) => (match want with
          | true => stepOp P Γ draw all i o σ fun σ => ih (i + 1) σ K
          | false => skipOp o σ fun σ => ih (i + 1) σ K)
        | some (.val (.bool false)) => (match want with
          | false => stepOp P Γ draw all i o σ fun σ => ih (i + 1) σ K
          | true => skipOp o σ fun σ => ih (i + 1) σ K)
        | some (.pr p _) => (match want with
          | true => Br (p → stepOp P Γ draw all i o (σ.put (some t) (.val (.bool true))) fun σ => ih (i + 1) σ K)
              (¬ p → skipOp o (σ.put (some t) (.val (.bool false))) fun σ => ih (i + 1) σ K)
          | false => Br (p → skipOp o (σ.put (some t) (.val (.bool true))) fun σ => ih (i + 1) σ K)
              (¬ p → stepOp P Γ draw all i o (σ.put (some t) (.val (.bool false))) fun σ => ih (i + 1) σ K))
        | some (.val (.tuple _)) => skipOp o σ fun σ => ih (i + 1) σ K
        | _ => False))) l

/-! A region that draws its order, each block looked at by itself -/
def keyOf : SV → List Nat
  | .loc k _ => [k]
  | .own k => [k]
  | .eloc k _ _ _ => [k]
  | .win k _ _ _ => [k]
  | _ => []
def keysOf : List SV → List Nat
  | [] => []
  | c :: cs => keyOf c ++ keysOf cs
/-- The blocks that an operation looks at; none: all. -/
def keysU (op : Op) (svs : List SV) : Option (List Nat) :=
  match op with
  | .call c => (match c.callee with
    | .builtin _ => some (keysOf svs)
    | _ => none)
  | .store _ _ _ => (match svs with
    | s :: _ => some (keyOf s)
    | [] => some [])
  | .load _ _ => some (keysOf svs)
  | .slice _ _ _ _ _ => some (keysOf svs)
  | .indexAddr _ _ _ => some (keysOf svs)
  | .mapUpdate _ _ _ _ => some (keysOf svs)
  | .insert _ _ _ _ => some (keysOf svs)
  | .lookup _ _ _ _ => some (keysOf svs)
  | _ => some []
structure Ent where
  u : Option (List Nat)
  nk : Nat
  t : List Nat
def hasN (k : Nat) : List Nat → Bool
  | [] => false
  | x :: r => match Nat.beq x k with
    | true => true
    | false => hasN k r
def usesB (u : Option (List Nat)) (nk k : Nat) : Bool :=
  match u with
  | none => Nat.blt k nk
  | some l => hasN k l
def lmU (u : Option (List Nat)) (nk : Nat) (lm : Nat → Option Mem) (k : Nat) : Option Mem :=
  match usesB u nk k with
  | true => lm k
  | false => none
def rangeL (κ : Nat) : Nat → List Nat
  | 0 => []
  | n + 1 => (κ + n) :: rangeL κ n
def touchL (κ : Nat) : MD → List Nat
  | .none => []
  | .push _ => [κ]
  | .set k _ => [k]
  | .drop k => [k]
  | .repl k _ => [k, κ]
  | .give ks _ nn => ks ++ rangeL κ nn
def confT (e : Ent) : List Nat → Bool
  | [] => false
  | k :: r => match usesB e.u e.nk k with
    | true => true
    | false => match hasN k e.t with
      | true => true
      | false => confT e r
def confU (x : Ent) : List Nat → Bool
  | [] => false
  | k :: r => match usesB x.u x.nk k with
    | true => true
    | false => confU x r
/-- Must these two, the first ahead of the second in the text, keep their order? -/
def confE (x e : Ent) : Bool :=
  match confT e x.t with
  | true => true
  | false => confU x e.t
def prOK (m : Nat) (e : Ent) : List Ent → Bool
  | [] => true
  | x :: r => (m.testBit r.length || !confE x e) && prOK m e r
def memOrd (ms : List Nat) : List Ent → Bool
  | [] => true
  | e :: r => prOK (ms.getD r.length 0) e r && memOrd ms r
def confS (all : List Oper) (oi oj : Oper) : Bool :=
  meets (slotsW oi) (slotsR all oj) || meets (slotsW oi) (slotsW oj) || meets (slotsR all oi) (slotsW oj)
def slotOK (ops : List Oper) : Bool :=
  let ms := masks ops ops.length
  edgesOK ops && (List.range ops.length).all fun j => (List.range j).all fun i => (ms.getD j 0).testBit i || !(match ops[i]?, ops[j]? with
    | some oi, some oj => confS ops oi oj
    | _, _ => false)
def mdD (κ : Nat) (md : MD) (K : Prop) : Prop :=
  match md with
  | .drop k => guardB (Nat.blt k κ) K
  | .set k _ => guardB (Nat.blt k κ) K
  | .repl k _ => guardB (Nat.blt k κ) K
  | .give ks new nn => guardB (andB (newB ks κ nn new) (coverB new κ nn)) K
  | _ => K
def stepOpD (P : Program) (Γ : List (TypeId × TI)) (o : Oper) (σ : St) (K : Ent → St → Prop) : Prop :=
  normN σ.nk fun κ => evs σ.L (operandsL o.op) fun svs => opV P Γ o.op svs (lmU (keysU o.op svs) κ (known σ.M κ)) κ fun s md => spineS s fun s => spineM md fun md => mdD κ md (dstOK o.dst σ.nt (K ⟨keysU o.op svs, κ, touchL κ md⟩ ((σ.withK κ).app o.dst s md)))
def noEnt : Ent := ⟨some [], 0, []⟩
def vcOpsD (P : Program) (Γ : List (TypeId × TI)) (all : List Oper) (l : List Oper) : Nat → List Ent → St → (St → Prop) → Prop :=
  List.rec (motive := fun _ => Nat → List Ent → St → (St → Prop) → Prop) (fun _ acc σ K => Ob (memOrd (masks all all.length) acc = true) (K σ)) (fun o _ ih i acc σ K => match o.guard with
    | none => stepOpD P Γ o σ fun e σ => ih (i + 1) (e :: acc) σ K
    | some (j, want) => (match dstOf all j with
      | none => False
      | some t => (match look σ.L t with
        | some (.val (.bool true)) => (match want with
          | true => stepOpD P Γ o σ fun e σ => ih (i + 1) (e :: acc) σ K
          | false => skipOp o σ fun σ => ih (i + 1) (noEnt :: acc) σ K)
        | some (.val (.bool false)) => (match want with
          | false => stepOpD P Γ o σ fun e σ => ih (i + 1) (e :: acc) σ K
          | true => skipOp o σ fun σ => ih (i + 1) (noEnt :: acc) σ K)
        | some (.pr p _) => (match want with
          | true => Br (p → stepOpD P Γ o (σ.put (some t) (.val (.bool true))) fun e σ => ih (i + 1) (e :: acc) σ K)
              (¬ p → skipOp o (σ.put (some t) (.val (.bool false))) fun σ => ih (i + 1) (noEnt :: acc) σ K)
          | false => Br (p → skipOp o (σ.put (some t) (.val (.bool true))) fun σ => ih (i + 1) (noEnt :: acc) σ K)
              (¬ p → stepOpD P Γ o (σ.put (some t) (.val (.bool false))) fun e σ => ih (i + 1) (e :: acc) σ K))
        | some (.val (.tuple _)) => skipOp o σ fun σ => ih (i + 1) (noEnt :: acc) σ K
        | _ => False))) l

inductive Ex
  | normal
  | exit (id : Nat)
  | ret

/-- One state says more than another. -/
def Sub (σ σ' : St) : Prop := ∀ (E : Env) ρ a w, Rel E σ ρ a w → ∃ ρ', Rel E σ' ρ' a w

def vcCode (P : Program) (Γ : List (TypeId × TI)) (c : Code) : St → (Ex → St → Prop) → Prop :=
  Code.rec (motive := fun _ => St → (Ex → St → Prop) → Prop)
    (fun σ Q => Q .normal σ)
    (fun _ ops draw σ Q => match draw with
      | false => vcOps P Γ false ops.toList ops.toList 0 σ (Q .normal)
      | true => Dr (orderOK ops.toList = true) (vcOps P Γ true ops.toList ops.toList 0 σ (Q .normal))
          (Ob (slotOK ops.toList = true) (vcOpsD P Γ ops.toList ops.toList 0 [] σ (Q .normal))))
    (fun _ _ ha hb σ Q => ha σ fun e σ => (match e with
      | .normal => hb σ Q
      | .exit id => Q (.exit id) σ
      | .ret => Q .ret σ))
    (fun c _ _ hx hy σ Q => ev σ.L c fun c => (match c with
      | .val (.bool true) => hx σ Q
      | .val (.bool false) => hy σ Q
      | .pr p _ => Br (p → hx σ Q) (¬ p → hy σ Q)
      | .anyb => Br (hx σ Q) (hy σ Q)
      | _ => False))
    (fun id _ hc σ Q => hc σ fun e σ => (match e with
      | .normal => Q .normal σ
      | .exit j => (match Nat.beq j id with
        | true => Q .normal σ
        | false => Q (.exit j) σ)
      | .ret => Q .ret σ))
    (fun _ hc σ Q => ∃ (ι : Type) (S : ι → St) (I : ι → Prop) (μ : ι → Nat) (x0 : ι), I x0 ∧ Sub σ (S x0) ∧
      ∀ x, I x → hc (S x) fun e σ' => (match e with
        | .normal => ∃ x', I x' ∧ Sub σ' (S x') ∧ μ x' < μ x
        | .exit id => Q (.exit id) σ'
        | .ret => Q .ret σ'))
    (fun _ _ _ _ _ _ _ _ => False)
    (fun id σ Q => Q (.exit id) σ)
    (fun _ hc σ Q => hc σ Q)
    (fun _ σ Q => Q .normal σ)
    (fun _ _ _ => False)
    (fun σ Q => Q .ret σ)
    (fun _ _ _ => False)
    c

def resOne (σ : St) (Γ : List (TypeId × TI)) (x : ResultVar) (K : SV → Prop) : Prop :=
  match x with
  | .tmp t => (match look σ.L t with
    | some s => force s fun s => K s
    | none => False)
  | .cell a t => withT Γ t fun i => (match look σ.L a with
    | some (.loc k off) => (match lookM σ.M k with
      | some (.box _ cs) => guardB (Nat.ble (off + i.sz) cs.length) (mkV i.kind.agg i.sz (cs.drop off) fun s => K s)
      | _ => False)
    | _ => False)
def resAll (σ : St) (Γ : List (TypeId × TI)) (xs : List ResultVar) : (List SV → Prop) → Prop :=
  List.rec (motive := fun _ => (List SV → Prop) → Prop) (fun K => K []) (fun x _ ih K => resOne σ Γ x fun s => ih fun l => K (s :: l)) xs
def resV (σ : St) (Γ : List (TypeId × TI)) (rs : List ResultVar) (K : SV → Prop) : Prop :=
  resAll σ Γ rs fun l => match l with
    | [s] => K s
    | l => K (.tup l)

def paramL : Nat → List SV → List (Nat × SV)
  | _, [] => []
  | n, a :: r => (n, a) :: paramL (n + 1) r

/-- What is one's own becomes plain data. -/
def viewR (lm : Nat → Option Mem) (s : SV) : SV :=
  match s with
  | .tup cs => .tup (views1 lm cs)
  | s => view1 lm s

/-- At a function's end: it returns 'r'. -/
def endV (Γ : List (TypeId × TI)) (rs : List ResultVar) (r : SV) (e : Ex) (σ : St) : Prop :=
  match e with
  | .exit _ => False
  | _ => resV σ Γ rs fun s => LE (viewR (lookM σ.M) s) r

/-- What the function hands back: its own block 'k' under the name 0 (no block: a nil slice), and data. -/
inductive Take (k : Option Nat) : SV → SV → Prop
  | own (k' : Nat) (h : k = some k') : Take k (.own k') (.own 0)
  | loc (k' off : Nat) (h : k = some k') : Take k (.loc k' off) (.loc 0 off)
  | nil (h : k = none) : Take k (.val (.slice none 0 0)) (.own 0)
  | le (s r : SV) (h : LE s r) (hf : flat r = true) : Take k s r
  | junk (s : SV) : Take k s .junk
  | agg (cs ds : List SV) (hl : cs.length = ds.length) (h : ∀ (j : Nat) (s r : SV), cs[j]? = some s → ds[j]? = some r → Take k s r) : Take k (.agg cs) (.agg ds)
  | tup (cs ds : List SV) (hl : cs.length = ds.length) (h : ∀ (j : Nat) (s r : SV), cs[j]? = some s → ds[j]? = some r → Take k s r) : Take k (.tup cs) (.tup ds)
  | fn (f : FuncId) (cs ds : List SV) (hl : cs.length = ds.length) (h : ∀ (j : Nat) (s r : SV), cs[j]? = some s → ds[j]? = some r → Take k s r) : Take k (.fn f cs) (.fn f ds)

def takeM (M : List (Nat × Mem)) (k : Option Nat) (m : Mem) : Prop :=
  match k with
  | some k => lookM M k = some m ∧ flatM m
  | none => (match m with
    | .arr _ _ _ xs => xs = []
    | _ => False)

/-- At a function's end: it returns 'r', in which block 0 is a slice that the caller may grow. -/
def endOwn (Γ : List (TypeId × TI)) (rs : List ResultVar) (r : SV) (m : Mem) (e : Ex) (σ : St) : Prop :=
  match e with
  | .exit _ => False
  | _ => resV σ Γ rs fun s => ∃ k, Take k s r ∧ takeM σ.M k m

/-- At a function's end: it returns 'r', and the block that came in is 'm' now. -/
def endMut (Γ : List (TypeId × TI)) (rs : List ResultVar) (r : SV) (m : Mem) (e : Ex) (σ : St) : Prop :=
  match e with
  | .exit _ => False
  | _ => resV σ Γ rs fun s => (lookM σ.M 0 = some m ∧ LE s r)

end Go.Gs
