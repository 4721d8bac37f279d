/- The definitions of an abstract run: symbolic values, the abstract state, the conditions that one operation, one region and one piece of code leave to be shown. -/
import Derived.Calls
import Derived.Orders
import Derived.Below
namespace Go.Gs

/-- A symbolic value: what is known of a value of the program. -/
inductive SV : Type 1
  | val (v : Value)
  | pr (p : Prop) (i : Decidable p)
  | agg (cs : List SV)
  | sl {α : Type} (enc : α → List SV) (xs : List α)
  | ptr (cs : List SV)
  | loc (k off : Nat)
  | own (k : Nat)
  | eloc (k sz : Nat) (i : Int) (off : Nat)
  | win (k sz : Nat) (lo n : Int)
  | fn (f : FuncId) (caps : List SV)
  | tup (vs : List SV)
  | junk
  | nils
  | anyb
  | full {α : Type} (enc : α → List SV) (xs : List α)

/-- What a block of one's own holds. -/
inductive Mem : Type 1
  | box (T : TypeId) (cs : List SV)
  | arr (T : TypeId) {α : Type} (enc : α → List SV) (sz : Nat) (xs : List α)
  | garr (T : TypeId) (sz : Nat) (xs : List (List SV))
  | map (es : List (Int × SV))

/-- An abstract state: what is known of the temporaries, of the blocks of one's own; the next name of a block; how many temporaries there are; how many blocks were handed over at the call. -/
structure St : Type 1 where
  L : List (Nat × SV)
  M : List (Nat × Mem)
  nk : Nat
  nt : Nat
  n0 : Nat

/-- What an operation does to the blocks of one's own. -/
inductive MD : Type 1
  | none
  | push (m : Mem)
  | set (k : Nat) (m : Mem)
  | drop (k : Nat)
  | repl (k : Nat) (m : Mem)

def look : List (Nat × SV) → Nat → Option SV
  | [], _ => none
  | (k, s) :: r, t => match Nat.beq k t with
    | true => some s
    | false => look r t

def lookM : List (Nat × Mem) → Nat → Option Mem
  | [], _ => none
  | (k, s) :: r, t => match Nat.beq k t with
    | true => some s
    | false => lookM r t

def dropM : List (Nat × Mem) → Nat → List (Nat × Mem)
  | [], _ => []
  | (k, s) :: r, t => match Nat.beq k t with
    | true => r
    | false => (k, s) :: dropM r t

def setM : List (Nat × Mem) → Nat → Mem → List (Nat × Mem)
  | [], _, _ => []
  | (k, s) :: r, t, m => match Nat.beq k t with
    | true => (k, m) :: r
    | false => (k, s) :: setM r t m

/-- What the table of types says of a type. -/
inductive TK
  | int (k : IntKind)
  | bool
  | str
  | ptr (t : TypeId)
  | slice (e : TypeId)
  | struct (fs : List (Nat × TypeId))
  | arr (n : Nat) (e : TypeId)
  | map (k e : TypeId)
  | other
structure TI where
  kind : TK
  sz : Nat
  bytes : Nat
  zero : List Value
  cmp : Bool

def TK.agg : TK → Bool
  | .struct _ => true
  | .arr _ _ => true
  | _ => false

def ti : List (TypeId × TI) → TypeId → Option TI
  | [], _ => none
  | (k, s) :: r, t => match Nat.beq k t with
    | true => some s
    | false => ti r t

/-! ### What is left to be shown -/
structure Ob (p q : Prop) : Prop where
  ob : p
  go : q
structure Br (p q : Prop) : Prop where
  yes : p
  no : q
inductive Dr (p q r : Prop) : Prop
  | mk (ord : p) (go : q)
  | dyn (h : r)
inductive Ar (p q r : Prop) : Prop
  | fit (h : p) (k : q)
  | wrap (k : r)
inductive Dv (p q p' q' : Prop) : Prop
  | pos (h : p) (k : q)
  | any (h : p') (k : q')

def fitK (k : IntKind) (e : Int) (K : SV → Prop) : Prop :=
  match k with
  | .i64 => Ar (-9223372036854775808 ≤ e ∧ e ≤ 9223372036854775807) (K (.val (.int .i64 e))) (K (.val (.int .i64 (IntKind.i64.wrap e))))
  | .i32 => Ar (-2147483648 ≤ e ∧ e ≤ 2147483647) (K (.val (.int .i32 e))) (K (.val (.int .i32 (IntKind.i32.wrap e))))
  | .i16 => Ar (-32768 ≤ e ∧ e ≤ 32767) (K (.val (.int .i16 e))) (K (.val (.int .i16 (IntKind.i16.wrap e))))
  | .i8 => Ar (-128 ≤ e ∧ e ≤ 127) (K (.val (.int .i8 e))) (K (.val (.int .i8 (IntKind.i8.wrap e))))
  | .u64 => Ar (0 ≤ e ∧ e ≤ 18446744073709551615) (K (.val (.int .u64 e))) (K (.val (.int .u64 (IntKind.u64.wrap e))))
  | .u32 => Ar (0 ≤ e ∧ e ≤ 4294967295) (K (.val (.int .u32 e))) (K (.val (.int .u32 (IntKind.u32.wrap e))))
  | .u16 => Ar (0 ≤ e ∧ e ≤ 65535) (K (.val (.int .u16 e))) (K (.val (.int .u16 (IntKind.u16.wrap e))))
  | .u8 => Ar (0 ≤ e ∧ e ≤ 255) (K (.val (.int .u8 e))) (K (.val (.int .u8 (IntKind.u8.wrap e))))

def kmax : IntKind → Int
  | .i64 => 9223372036854775807
  | .i32 => 2147483647
  | .i16 => 32767
  | .i8 => 127
  | .u64 => 18446744073709551615
  | .u32 => 4294967295
  | .u16 => 65535
  | .u8 => 255

/-- The head of a symbolic value laid open. -/
def force (s : SV) (K : SV → Prop) : Prop :=
  match s with
  | .val v => (match v with
    | .int k n => K (.val (.int k n))
    | .bool b => (match b with | true => K (.val (.bool true)) | false => K (.val (.bool false)))
    | .slice a l c => K (.val (.slice a l c))
    | v => K (.val v))
  | .pr p i => K (.pr p i)
  | .agg cs => K (.agg cs)
  | .sl enc xs => K (.sl enc xs)
  | .ptr cs => K (.ptr cs)
  | .loc k off => K (.loc k off)
  | .own k => K (.own k)
  | .eloc k sz i off => K (.eloc k sz i off)
  | .win k sz lo n => K (.win k sz lo n)
  | .fn f caps => K (.fn f caps)
  | .tup vs => K (.tup vs)
  | .junk => K .junk
  | .nils => K .nils
  | .anyb => K .anyb
  | .full enc xs => K (.full enc xs)

def ev (L : List (Nat × SV)) (x : Operand) (K : SV → Prop) : Prop :=
  match x with
  | .tmp t => (match look L t with
    | some s => force s K
    | none => False)
  | .const v => force (.val v) K
  | .func f => K (.fn f [])
  | .global _ => False

def evs (L : List (Nat × SV)) (xs : List Operand) : (List SV → Prop) → Prop :=
  List.rec (motive := fun _ => (List SV → Prop) → Prop) (fun K => K []) (fun x _ ih K => ev L x fun s => ih fun l => K (s :: l)) xs

def putL (L : List (Nat × SV)) (d : Option Tmp) (s : SV) : List (Nat × SV) :=
  match d with
  | some d => (d, s) :: L
  | none => L

def appM (M : List (Nat × Mem)) (κ : Nat) : MD → List (Nat × Mem)
  | .none => M
  | .push m => (κ, m) :: M
  | .set k m => setM M k m
  | .drop k => dropM M k
  | .repl k m => (κ, m) :: dropM M k

def appK (κ : Nat) : MD → Nat
  | .push _ => κ + 1
  | .repl _ _ => κ + 1
  | _ => κ

def St.app (σ : St) (d : Option Tmp) (s : SV) (m : MD) : St := ⟨putL σ.L d s, appM σ.M σ.nk m, appK σ.nk m, σ.nt, σ.n0⟩

def St.put (σ : St) (d : Option Tmp) (s : SV) : St := ⟨putL σ.L d s, σ.M, σ.nk, σ.nt, σ.n0⟩

def cellsOf : SV → List SV
  | .agg cs => cs
  | s => [s]

def vals (l : List Value) : List SV := l.map .val

def splice (cs : List SV) (off : Nat) (new : List SV) : List SV := cs.take off ++ new ++ cs.drop (off + new.length)

def mkV (agg : Bool) (sz : Nat) (cs : List SV) (K : SV → Prop) : Prop :=
  match agg with
  | true => K (.agg (cs.take sz))
  | false => (match cs with
    | c :: _ => force c K
    | [] => False)

def nthF : List (Nat × TypeId) → Nat → Option (Nat × TypeId)
  | [], _ => none
  | x :: _, 0 => some x
  | _ :: r, n + 1 => nthF r n

def withT (Γ : List (TypeId × TI)) (t : TypeId) (K : TI → Prop) : Prop :=
  match ti Γ t with
  | some i => K i
  | none => False

def toPr (s : SV) (K : (p : Prop) → Decidable p → Prop) : Prop :=
  match s with
  | .pr p i => K p i
  | .val (.bool true) => K True instDecidableTrue
  | .val (.bool false) => K False instDecidableFalse
  | _ => False

def kBeq : IntKind → IntKind → Bool
  | .i64, .i64 => true
  | .i32, .i32 => true
  | .i16, .i16 => true
  | .i8, .i8 => true
  | .u64, .u64 => true
  | .u32, .u32 => true
  | .u16, .u16 => true
  | .u8, .u8 => true
  | _, _ => false

def guardB (b : Bool) (K : Prop) : Prop :=
  match b with
  | true => K
  | false => False

def andB (a b : Bool) : Bool :=
  match a with
  | true => b
  | false => false

/-- The cells of two structs of integers are the same. -/
def eqCells : List SV → List SV → ((p : Prop) → Decidable p → Prop) → Prop
  | [], [], K => K True instDecidableTrue
  | c :: cs, d :: ds, K => force c fun c => force d fun d => (match c, d with
    | .val (.int k m), .val (.int k' n) => guardB (kBeq k k') (eqCells cs ds fun p i => K (m = n ∧ p) (@instDecidableAnd _ _ (inferInstance) i))
    | _, _ => False)
  | _, _, _ => False

def bitsK (op : BinOp) (k : IntKind) (x y : Int) : Int :=
  match op with
  | .and => k.wrap (BitVec.ofInt k.bits x &&& BitVec.ofInt k.bits y).toNat
  | .or => k.wrap (BitVec.ofInt k.bits x ||| BitVec.ofInt k.bits y).toNat
  | .xor => k.wrap (BitVec.ofInt k.bits x ^^^ BitVec.ofInt k.bits y).toNat
  | _ => k.wrap (BitVec.ofInt k.bits x &&& ~~~ (BitVec.ofInt k.bits y)).toNat

def isLit : Operand → Bool
  | .const _ => true
  | _ => false

/-- The fields of a struct, one behind the other, each of which passes. -/
def intsGo (Γ : List (TypeId × TI)) (f : TypeId → Bool) : List (Nat × TypeId) → Nat → Nat → Bool
  | [], at_, sz => Nat.beq at_ sz
  | (off, t) :: r, at_, sz => match ti Γ t with
    | some j => andB (Nat.beq off at_) (andB (f t) (intsGo Γ f r (at_ + j.sz) sz))
    | none => false

/-- A struct of integers, or of such structs. -/
def intsT (Γ : List (TypeId × TI)) : Nat → TypeId → Bool
  | 0, _ => false
  | n + 1, t => match ti Γ t with
    | some i => (match i.kind with
      | .int _ => Nat.beq i.sz 1
      | .struct fs => andB i.cmp (intsGo Γ (intsT Γ n) fs 0 i.sz)
      | _ => false)
    | none => false

def shiftV (op : BinOp) (y : Operand) (k : IntKind) (m n : Int) (K : SV → Prop) : Prop :=
  match op, isLit y with
  | .shl, true => (match n with
    | .ofNat c => Ob (c < k.bits) (fitK k (m * 2 ^ c) K)
    | .negSucc _ => False)
  | .shl, false => Ob (0 ≤ n ∧ n < k.bits) (fitK k (m * 2 ^ n.toNat) K)
  | .shr, true => (match n with
    | .ofNat c => Ob (c < k.bits) (K (.val (.int k (m / 2 ^ c))))
    | .negSucc _ => False)
  | .shr, false => Ob (0 ≤ n ∧ n < k.bits) (K (.val (.int k (m / 2 ^ n.toNat))))
  | _, _ => False

def intV (op : BinOp) (k : IntKind) (m n : Int) (K : SV → Prop) : Prop :=
  match op with
  | .add => fitK k (m + n) K
  | .sub => fitK k (m - n) K
  | .mul => fitK k (m * n) K
  | .quo => Dv (0 ≤ m ∧ 0 < n ∧ m ≤ kmax k) (K (.val (.int k (m / n)))) (n ≠ 0) (fitK k (m.tdiv n) K)
  | .rem => Dv (0 ≤ m ∧ 0 < n) (K (.val (.int k (m % n)))) (n ≠ 0) (K (.val (.int k (m.tmod n))))
  | .eql => K (.pr (m = n) inferInstance)
  | .neq => K (.pr (¬ m = n) inferInstance)
  | .lss => K (.pr (m < n) inferInstance)
  | .leq => K (.pr (m ≤ n) inferInstance)
  | .gtr => K (.pr (n < m) inferInstance)
  | .geq => K (.pr (n ≤ m) inferInstance)
  | .and => ∃ r, r = bitsK .and k m n ∧ K (.val (.int k r))
  | .or => ∃ r, r = bitsK .or k m n ∧ K (.val (.int k r))
  | .xor => ∃ r, r = bitsK .xor k m n ∧ K (.val (.int k r))
  | .andNot => ∃ r, r = bitsK .andNot k m n ∧ K (.val (.int k r))
  | _ => False

def isShift : BinOp → Bool
  | .shl => true
  | .shr => true
  | _ => false

/-- A slice beside nil: one that holds something is not nil; of one that holds nothing it is not known. -/
inductive NilC (p q r : Prop) : Prop
  | some (h : p) (k : q)
  | any (k : r)
def nilCmp (t : TK) (op : BinOp) (n : Nat) (K : SV → Prop) : Prop :=
  match t, op with
  | .slice _, .eql => NilC (n ≠ 0) (K (.val (.bool false))) (K .anyb)
  | .slice _, .neq => NilC (n ≠ 0) (K (.val (.bool true))) (K .anyb)
  | _, _ => False

def bin (Γ : List (TypeId × TI)) (op : BinOp) (t : TypeId) (y : Operand) (a b : SV) (K : SV → Prop) : Prop :=
  match a, b with
  | .val (.int k m), .val (.int k' n) => (match isShift op with
    | true => shiftV op y k m n K
    | false => guardB (kBeq k k') (intV op k m n K))
  | .agg cs, .agg ds => withT Γ t fun i => guardB i.kind.agg (guardB (Nat.beq cs.length i.sz) <| guardB (intsT Γ 8 t) (match op with
    | .eql => eqCells cs ds fun p i => K (.pr p i)
    | .neq => eqCells cs ds fun p i => K (.pr (¬ p) (@instDecidableNot _ i))
    | _ => False))
  | .sl _ xs, .val (.slice none 0 0) => withT Γ t fun i => nilCmp i.kind op xs.length K
  | .val (.slice none 0 0), .val (.slice none 0 0) => withT Γ t fun i => (match i.kind, op with
    | .slice _, .eql => K (.val (.bool true))
    | .slice _, .neq => K (.val (.bool false))
    | _, _ => False)
  | a, b => withT Γ t fun i => (match i.kind, op with
    | .bool, .eql => toPr a fun p i => toPr b fun q j => K (.pr (p ↔ q) (@instDecidableIff _ _ i j))
    | .bool, .neq => toPr a fun p i => toPr b fun q j => K (.pr (¬ (p ↔ q)) (@instDecidableNot _ (@instDecidableIff _ _ i j)))
    | _, _ => False)

/-- Is it data: no address of one's own, no pointer, no function? -/
def flat : SV → Bool
  | .val _ => true
  | .pr _ _ => true
  | .sl _ _ => true
  | .nils => true
  | .anyb => true
  | .full _ _ => true
  | .agg cs => flats cs
  | _ => false
  where
  flats : List SV → Bool
    | [] => true
    | c :: cs => match flat c with
      | true => flats cs
      | false => false
/-- Does a value hold no address at all? -/
def scalar : SV → Bool
  | .val _ => true
  | .pr _ _ => true
  | .nils => true
  | .anyb => true
  | .agg cs => scalars cs
  | _ => false
  where
  scalars : List SV → Bool
    | [] => true
    | c :: cs => match scalar c with
      | true => scalars cs
      | false => false
def flatR : SV → Bool
  | .tup cs => flat.flats cs
  | s => flat s
def scalarR : SV → Bool
  | .tup cs => scalar.scalars cs
  | s => scalar s
/-- One cell of a block of one's own, as a callee that only reads sees it. -/
def viewC (lm : Nat → Option Mem) (s : SV) : SV :=
  match s with
  | .own k => (match lm k with
    | some (.arr _ enc _ xs) => .sl enc xs
    | _ => .junk)
  | .fn f [] => .val (.func (.func f) #[] #[])
  | s => (match flat s with
    | true => s
    | false => .junk)
def viewCs (lm : Nat → Option Mem) : List SV → List SV
  | [] => []
  | c :: cs => viewC lm c :: viewCs lm cs
/-- How an argument looks to a callee that only reads what is one's own. -/
def view1 (lm : Nat → Option Mem) (s : SV) : SV :=
  match s with
  | .loc k off => (match lm k with
    | some (.box _ cs) => .ptr ((viewCs lm cs).drop off)
    | _ => .junk)
  | .own k => (match lm k with
    | some (.arr _ enc _ xs) => .sl enc xs
    | _ => .junk)
  | .win k sz lo n => (match lm k with
    | some (.arr _ enc sz' xs) => (match Nat.beq sz sz' with
      | true => .sl enc ((xs.drop lo.toNat).take n.toNat)
      | false => .junk)
    | _ => .junk)
  | .agg cs => .agg (viewCs lm cs)
  | .ptr cs => .ptr cs
  | .fn f [] => .fn f []
  | s => (match flat s with
    | true => s
    | false => .junk)
def views1 (lm : Nat → Option Mem) : List SV → List SV
  | [] => []
  | c :: cs => view1 lm c :: views1 lm cs
def view (lm : Nat → Option Mem) (s : SV) : SV :=
  match s with
  | .fn f cs => .fn f (views1 lm cs)
  | s => view1 lm s
def views (lm : Nat → Option Mem) : List SV → List SV
  | [] => []
  | c :: cs => view lm c :: views lm cs
/-- Nothing of the arguments lies in memory of one's own that is still written. -/
def clean1 (lm : Nat → Option Mem) (s : SV) : Bool :=
  match s with
  | .loc k _ => (match lm k with
    | some (.box _ cs) => flat.flats cs
    | _ => false)
  | .ptr _ => true
  | .agg cs => flat.flats cs
  | s => flat s
def cleans1 (lm : Nat → Option Mem) : List SV → Bool
  | [] => true
  | c :: cs => match clean1 lm c with
    | true => cleans1 lm cs
    | false => false
def clean (lm : Nat → Option Mem) : List SV → Bool
  | [] => true
  | .fn _ cs :: r => (match cleans1 lm cs with
    | true => clean lm r
    | false => false)
  | c :: r => match clean1 lm c with
    | true => clean lm r
    | false => false
def okRes (lm : Nat → Option Mem) (args : List SV) (r : SV) : Bool :=
  match clean lm args with
  | true => flatR r
  | false => scalarR r

end Go.Gs
