/- A symbolic executor for the program's code: values and memory blocks of a run's own by number. Definitions alone. -/
import Derived.OrdersHeld
import Derived.Laws.AppendOwn
import Derived.Laws.MakeOwn
import Derived.Laws.OwnMore
import Derived.Laws.StructEq
import Derived.Laws.Shifts
import Derived.Below
namespace Go.Rx

/-- Values: what is known whole, or told by the number of a block of the run's own. -/
inductive V where
  | ext (v : Value)
  | junk
  | ptr (i off : Nat)
  | eptr (i : Nat) (k : Int) (lo m j : Nat)
  | row (i : Nat)
  | sub (i lo n m : Nat)
  | asl (i o n c : Nat)
  | mp (i : Nat)
  | mth (f : FuncId) (x : V)
  | fn (f : FuncId) (caps : List V)
  | agg (cs : List V)
  | tup (vs : List V)
  deriving Inhabited

def vi (n : Int) : V := .ext (.int .i64 n)
def vb (b : Bool) : V := .ext (.bool b)

structure Pr where
  Addr : Int
  Val : Int
  deriving Inhabited, DecidableEq

structure Ev where
  (Worker CKind CAddr CSize CAlign CValue RErr RAddr RSize RValue SBlocks SAsked SWords SKept SOpen SMapped SUsed Begin End Stamp : Int)
  (Wrote Sure Done : Bool)
  deriving Inhabited, DecidableEq

/-- The kinds of elements of slices, by number. -/
def El : Nat → Type
  | 0 => Int
  | 1 => Bool
  | 2 => Pr
  | 3 => Ev
  | _ => List Int

def elM : Nat → Nat
  | 0 => 1
  | 1 => 1
  | 2 => 2
  | 3 => 23
  | n + 4 => n + 1

def dEv : Ev := ⟨0,0,0,0,0,0,0,0,0,0,0,0,0,0,0,0,0,0,0,0,false,false,false⟩

def elD : (t : Nat) → El t
  | 0 => (0 : Int)
  | 1 => false
  | 2 => (⟨0, 0⟩ : Pr)
  | 3 => dEv
  | n + 4 => List.replicate (n + 1) (0 : Int)

abbrev i64 (n : Int) : Value := .int .i64 n

def encEv (e : Ev) : List Value := [i64 e.Worker, i64 e.CKind, i64 e.CAddr, i64 e.CSize, i64 e.CAlign, i64 e.CValue, i64 e.RErr, i64 e.RAddr, i64 e.RSize, i64 e.RValue,
  i64 e.SBlocks, i64 e.SAsked, i64 e.SWords, i64 e.SKept, i64 e.SOpen, i64 e.SMapped, i64 e.SUsed, i64 e.Begin, i64 e.End, i64 e.Stamp, .bool e.Wrote, .bool e.Sure, .bool e.Done]

def evCs (e : Ev) : List V := (encEv e).map .ext
def evV (e : Ev) : V := .agg (evCs e)

def elEnc : (t : Nat) → El t → List Value
  | 0, (x : Int) => [i64 x]
  | 1, (x : Bool) => [.bool x]
  | 2, (p : Pr) => [i64 p.Addr, i64 p.Val]
  | 3, (e : Ev) => encEv e
  | n + 4, (l : List Int) => (List.range (n + 1)).map fun i => i64 (l.getD i 0)

def decI : List Value → Option Int
  | [.int .i64 x] => some x
  | _ => none

def decB : List Value → Option Bool
  | [.bool b] => some b
  | _ => none

def decPr : List Value → Option Pr
  | [.int .i64 x, .int .i64 y] => some ⟨x, y⟩
  | _ => none

def decEv : List Value → Option Ev
  | [.int .i64 a1, .int .i64 a2, .int .i64 a3, .int .i64 a4, .int .i64 a5, .int .i64 a6, .int .i64 a7, .int .i64 a8, .int .i64 a9, .int .i64 a10,
      .int .i64 a11, .int .i64 a12, .int .i64 a13, .int .i64 a14, .int .i64 a15, .int .i64 a16, .int .i64 a17, .int .i64 a18, .int .i64 a19, .int .i64 a20, .bool b1, .bool b2, .bool b3] =>
      some ⟨a1, a2, a3, a4, a5, a6, a7, a8, a9, a10, a11, a12, a13, a14, a15, a16, a17, a18, a19, a20, b1, b2, b3⟩
  | _ => none

def intsOf : List Value → Option (List Int)
  | [] => some []
  | .int .i64 x :: r => match intsOf r with
    | some l => some (x :: l)
    | none => none
  | _ => none

def elDec : (t : Nat) → List Value → Option (El t)
  | 0 => decI
  | 1 => decB
  | 2 => decPr
  | 3 => decEv
  | n + 4 => fun vs => match intsOf vs with
    | some l => bif Nat.beq l.length (n + 1) then some l else none
    | none => none

/-- Blocks of memory that the run knows. -/
inductive Blk where
  | dead
  | cells (T : TypeId) (cs : List V)
  | row (t : Nat) (l : List (El t)) (ro : Bool)
  | map (m : Int → Option Int) (n : Nat)
  | iter (m : Int → Option Int) (left : Int → Bool) (n : Nat) (cur : Option (Int × Int))
  | pk (tag : Nat) (st : List (List Int))

abbrev Env := Nat → V
abbrev Heap := List Blk

def Blk.writable : Blk → Bool
  | .dead => false
  | .cells .. => true
  | .row _ _ ro => !ro
  | .map .. => true
  | .iter .. => true
  | .pk .. => true

def mayRead (lk : Option (Blk → Bool)) (b : Blk) : Bool := match lk with | none => true | some f => f b
def mayWrite (lk : Option (Blk → Bool)) (b : Blk) : Bool := match lk with | none => true | some f => !f b
def allFree (lk : Option (Blk → Bool)) : Heap → Bool
  | [] => true
  | b :: r => (!b.writable || mayWrite lk b) && allFree lk r

/-- What becomes of a call, as a transformer. -/
structure Spec where
  tr : List V → Heap → (V → Heap → Prop) → Prop
  /-- Are its slices only read? -/
  ro : Bool := true

/-- What a run's slices are of, and what stands behind a block that is seen as one. -/
structure ET where
  ty : Nat → TypeId
  abs : Nat → List (List Int) → Heap → Prop

instance : CoeFun ET (fun _ => Nat → TypeId) := ⟨ET.ty⟩

structure TyI where
  desc : TypeDesc
  size : Nat
  zero : List Value
  bytes : Nat

/-- The orders of a region that draws: an operation, or one of several that all may come next. -/
inductive PT where
  | fin
  | op (i : Nat) (t : PT)
  | alt (t u : PT)
  deriving Inhabited

structure Cfg where
  P : Program
  tagOf : TypeId → Option Nat
  elT : ET
  sigs : FuncId → Option Spec
  keep : Nat → Option (List (Nat × Option Nat))
  keepB : Nat → Option (List (Nat × Option Nat))
  plan : Nat → Option (List Nat × Nat)
  unroll : Nat → Option Nat := fun _ => none
  /-- Slots whose new block may be written in a region that draws (kind 3). -/
  flag : Nat → Bool := fun _ => false
  planT : Nat → Option (PT × Nat) := fun _ => none

def Cfg.ty (cfg : Cfg) (t : TypeId) : Option TyI :=
  match cfg.P.info? t, cfg.P.underlying t with
  | some i, some d => match i.zero with
    | some z => some ⟨d, i.size, z.cells.toList, i.bytes⟩
    | none => none
  | _, _ => none

/-- A test: two ways. -/
def br (b : Bool) (A B : Prop) : Prop := match b with | true => A | false => B
/-- What must hold. -/
def Req (b : Bool) (A : Prop) : Prop := match b with | true => A | false => False

def upd (env : Env) (d : Nat) (v : V) : Env := fun t => bif Nat.beq t d then v else env t
def updO (nt : Nat) (env : Env) (d : Option Nat) (v : V) : Env := match d with | some d => bif Nat.ble nt d then env else upd env d v | none => env

/-- How many temporaries there are, and how many of the first blocks stay where they are. -/
structure Cx where
  nt : Nat
  pins : Nat

def ev (env : Env) : Operand → V
  | .tmp t => env t
  | .const v => .ext v
  | .global g => .ext (.pointer (some ⟨g, 0, none⟩))
  | .func f => .fn f []

def extV : V → Option Value
  | .ext v => some v
  | _ => none

def extsV : List V → Option (List Value)
  | [] => some []
  | v :: r => match extV v, extsV r with
    | some x, some y => some (x :: y)
    | _, _ => none

def vcells : V → List V
  | .agg cs => cs
  | .ext (.agg cs) => cs.toList.map .ext
  | v => [v]

/-- May it stand in one cell? -/
def leaf : V → Bool
  | .ext (.agg _) | .ext (.tuple _) | .junk | .agg _ | .tup _ => false
  | _ => true

def setCells (cs : List V) (o : Nat) : List V → List V
  | [] => cs
  | v :: r => setCells (cs.set o v) (o + 1) r

def allLeaf : List V → Bool
  | [] => true
  | v :: r => leaf v && allLeaf r

def isAggD : TypeDesc → Bool
  | .struct _ | .array _ _ => true
  | _ => false

/-- What a slice holds: its kind and its elements, as far as it can be seen. -/
def rowOf (H : Heap) (v : V) (K : (t : Nat) → List (El t) → Prop) : Prop :=
  match v with
  | .row i => match H[i]? with
    | some (.row t l _) => K t l
    | _ => False
  | .sub i lo n m => match H[i]? with
    | some (.row t l _) => bif Nat.beq m (elM t) then Req (decide (lo + n ≤ l.length)) (K t ((l.drop lo).take n)) else False
    | _ => False
  | _ => False

def lenOf (H : Heap) : V → Option Nat
  | .row i => match H[i]? with | some (.row _ l _) => some l.length | _ => none
  | .sub _ _ n _ => some n
  | .ext (.slice none 0 0) => some 0
  | .asl _ _ n _ => some n
  | _ => none

/-- An index behind a beginning. -/
def offs (n : Int) : Nat → Int
  | 0 => n
  | lo + 1 => n + ((lo + 1 : Nat) : Int)

def inR (n : Int) (len : Nat) : Bool := decide (0 ≤ n ∧ n < (len : Int))

def intOp (op : BinOp) (k : IntKind) (a b : Int) (K : Value → Prop) : Prop :=
  match op with
  | .add => K (.int k (k.wrap (a + b)))
  | .sub => K (.int k (k.wrap (a - b)))
  | .mul => K (.int k (k.wrap (a * b)))
  | .quo => Req (!(b == 0)) (K (.int k (k.wrap (a.tdiv b))))
  | .rem => Req (!(b == 0)) (K (.int k (a.tmod b)))
  | .and => K (.int k (bits .and k a b))
  | .or => K (.int k (bits .or k a b))
  | .xor => K (.int k (bits .xor k a b))
  | .andNot => K (.int k (bits .andNot k a b))
  | .eql => K (.bool (a == b))
  | .neq => K (.bool (a != b))
  | .lss => K (.bool (a < b))
  | .leq => K (.bool (a ≤ b))
  | .gtr => K (.bool (a > b))
  | .geq => K (.bool (a ≥ b))
  | .shl => Req (decide (0 ≤ b)) (K (.int k (k.wrap (a * 2 ^ min b.toNat k.bits))))
  | .shr => Req (decide (0 ≤ b)) (K (.int k (a / 2 ^ min b.toNat k.bits)))

def fieldOff (cfg : Cfg) (s : TypeId) (f : Nat) : Option (Nat × TypeId) :=
  match cfg.ty s with
  | some ⟨.struct fs, _, _, _⟩ => match fs.toList[f]? with
    | some f => some (f.offset, f.type)
    | none => none
  | _ => none

def natOf (v : V) : Option Int := match v with | .ext (.int _ n) => some n | _ => none

/-- Where a slice of a slice begins and how many it has: bounds must hold. -/
def sliceOp (len cap : Nat) (lo hi : Option Int) (K : Nat → Nat → Prop) : Prop :=
  match lo, hi with
  | none, none => K 0 len
  | some l, none => Req (decide (0 ≤ l ∧ l ≤ (len : Int))) (K l.toNat (len - l.toNat))
  | none, some h => Req (decide (0 ≤ h ∧ h ≤ (cap : Int))) (K 0 h.toNat)
  | some l, some h => Req (decide (0 ≤ h ∧ h ≤ (cap : Int))) (Req (decide (0 ≤ l ∧ l ≤ h)) (K l.toNat (h.toNat - l.toNat)))

def optInt (env : Env) : Option Operand → Option (Option Int)
  | none => some none
  | some x => match natOf (ev env x) with | some n => some (some n) | none => none

/-- Whether two structs of numbers and truth values are the same. -/
def eqFsV (cfg : Cfg) (xs ys : List V) : List Field → Option Bool
  | [] => some true
  | f :: fs => bif f.name == "_" then none else match cfg.ty f.type, xs[f.offset]?, ys[f.offset]?, eqFsV cfg xs ys fs with
    | some ⟨.int _, _, _, _⟩, some (.ext (.int kx a)), some (.ext (.int ky b)), some r => bif decide (kx = ky) then some (a == b && r) else none
    | some ⟨.bool, _, _, _⟩, some (.ext (.bool a)), some (.ext (.bool b)), some r => some ((a == b) && r)
    | _, _, _, _ => none

/-! Operations that only tell a value; loads are from HR, and only where 'lk' lets. -/
def binV (cfg : Cfg) (op : BinOp) (t : TypeId) (x y : V) (k : V → Prop) : Prop :=
  match x, y with
  | .ext (.int kx a), .ext (.int ky b) => bif decide (kx = ky) then intOp op kx a b (fun v => k (.ext v)) else False
  | .ext (.bool a), .ext (.bool b) => match op, cfg.ty t with
    | .eql, some ⟨.bool, _, _, _⟩ => k (vb (a == b))
    | .neq, some ⟨.bool, _, _, _⟩ => k (vb (!(a == b)))
    | _, _ => False
  | .agg xs, .agg ys => match cfg.ty t with
    | some ⟨.struct fs, _, _, _⟩ => bif !(cfg.P.stoodInHeld t) && !(cfg.P.eqGuardType cfg.P.depth t) then match eqFsV cfg xs ys fs.toList with
      | some r => match op with
        | .eql => k (vb r)
        | .neq => k (vb (!r))
        | _ => False
      | none => False
      else False
    | _ => False
  | _, _ => False

def unV (op : UnOp) (x : V) (k : V → Prop) : Prop :=
  match op, x with
  | .not, .ext (.bool b) => k (vb (!b))
  | .neg, .ext (.int kd n) => k (.ext (.int kd (kd.wrap (0 - n))))
  | _, _ => False

def convV (cfg : Cfg) (s t : TypeId) (x : V) (k : V → Prop) : Prop :=
  match x with
  | .ext (.int _ n) => match cfg.ty s, cfg.ty t with
    | some _, some ⟨.int kd, _, _, _⟩ => k (.ext (.int kd (kd.wrap n)))
    | _, _ => False
  | _ => False

def fieldAddrV (cfg : Cfg) (s : TypeId) (x : V) (f : Nat) (k : V → Prop) : Prop :=
  match fieldOff cfg s f with
  | none => False
  | some (off, T) => match cfg.ty T with
    | none => False
    | some i => bif Nat.beq i.size 0 then False else match x with
      | .ptr i o => k (.ptr i (o + off))
      | .eptr i n lo m j => k (.eptr i n lo m (j + off))
      | _ => False

def indexAddrV (cfg : Cfg) (HR : Heap) (t : TypeId) (x ix : V) (k : V → Prop) : Prop :=
  match ix with
  | .ext (.int _ n) => match x with
    | .row i => match HR[i]? with
      | some (.row tg l _) => match cfg.tagOf t with
        | some tg' => bif Nat.beq tg tg' then Req (inR n l.length) (k (.eptr i n 0 (elM tg) 0)) else False
        | none => False
      | _ => False
    | .sub i lo len m => match HR[i]? with
      | some (.row tg l _) => match cfg.tagOf t with
        | some tg' => bif Nat.beq tg tg' && Nat.beq m (elM tg) then Req (decide (lo + len ≤ l.length)) (Req (inR n len) (k (.eptr i n lo m 0))) else False
        | none => False
      | _ => False
    | .ptr i o => match cfg.ty t with
      | some ⟨.array len E, _, _, _⟩ => match cfg.ty E with
        | some ⟨_, sz, _, _⟩ => Req (inR n len) (k (.ptr i (o + n.toNat * sz)))
        | none => False
      | _ => False
    | .asl i o len _ => match cfg.tagOf t with
      | some tg => Req (inR n len) (k (.ptr i (o + n.toNat * elM tg)))
      | none => False
    | _ => False
  | _ => False

def loadV (cfg : Cfg) (lk : Option (Blk → Bool)) (HR : Heap) (t : TypeId) (x : V) (k : V → Prop) : Prop :=
  match cfg.ty t with
  | none => False
  | some i => match x with
    | .ptr b o => match HR[b]? with
      | some (.cells T cs) => bif mayRead lk (.cells T cs) then
          (bif isAggD i.desc then bif Nat.ble (o + i.size) cs.length then k (.agg ((cs.drop o).take i.size)) else False
           else match cs[o]? with | some v => k v | none => False)
        else False
      | _ => False
    | .eptr b n lo m j => match HR[b]? with
      | some (.row tg l ro) => bif mayRead lk (.row tg l ro) && Nat.beq m (elM tg) then Req (inR (offs n lo) l.length)
          (bif isAggD i.desc then
            bif Nat.beq j 0 && Nat.beq i.size m then k (.agg ((elEnc tg (l.getD (offs n lo).toNat (elD tg))).map .ext)) else
            bif Nat.ble (j + i.size) m then k (.agg ((((elEnc tg (l.getD (offs n lo).toNat (elD tg))).drop j).take i.size).map .ext)) else False
           else match (elEnc tg (l.getD (offs n lo).toNat (elD tg)))[j]? with | some v => k (.ext v) | none => False)
        else False
      | _ => False
    | _ => False

def fieldV (cfg : Cfg) (t : TypeId) (x : V) (f : Nat) (k : V → Prop) : Prop :=
  match fieldOff cfg t f with
  | none => False
  | some (off, T) => match cfg.ty T with
    | some i => match x with
      | .agg cs => bif isAggD i.desc then bif Nat.ble (off + i.size) cs.length then k (.agg ((cs.drop off).take i.size)) else False
          else match cs[off]? with | some v => k v | none => False
      | _ => False
    | none => False

/-- A struct that is written out: its zeros, and over them the parts that are told. -/
def buildGo (cfg : Cfg) (t : TypeId) (env : Env) : List (Nat × Operand) → List V → Option (List V)
  | [], cs => some cs
  | (i, x) :: r, cs => match fieldOff cfg t i with
    | none => none
    | some (off, T) => match cfg.ty T with
      | none => none
      | some inf => bif Nat.beq (vcells (ev env x)).length inf.size && (Nat.ble (off + (vcells (ev env x)).length) cs.length && allLeaf (vcells (ev env x))) then buildGo cfg t env r (setCells cs off (vcells (ev env x))) else none

def buildV (cfg : Cfg) (t : TypeId) (parts : List (Nat × Operand)) (env : Env) (k : V → Prop) : Prop :=
  match cfg.ty t with
  | some ⟨.struct fs, _, zero, _⟩ => bif fs.toList.all (fun f => (cfg.ty f.type).isSome) then match buildGo cfg t env parts (zero.map .ext) with
    | some cs => k (.agg cs)
    | none => False
    else False
  | _ => False

def buildGoP (place : Nat → Option (Nat × Nat)) (env : Env) : List (Nat × Operand) → List V → Option (List V)
  | [], cs => some cs
  | (i, x) :: r, cs => match place i with
    | none => none
    | some (off, sz) => bif Nat.beq (vcells (ev env x)).length sz && (Nat.ble (off + (vcells (ev env x)).length) cs.length && allLeaf (vcells (ev env x))) then buildGoP place env r (setCells cs off (vcells (ev env x))) else none

def buildAV (cfg : Cfg) (t : TypeId) (parts : List (Nat × Operand)) (env : Env) (k : V → Prop) : Prop :=
  match cfg.ty t with
  | some ⟨.array _ E, _, zero, _⟩ => match cfg.ty E with
    | some i => match buildGoP (fun j => some (j * i.size, i.size)) env parts (zero.map .ext) with
      | some cs => k (.agg cs)
      | none => False
    | none => False
  | _ => False

def isArr (cfg : Cfg) (t : TypeId) : Bool := match cfg.ty t with
  | some ⟨.array _ _, _, _, _⟩ => true
  | _ => false

def indexV (cfg : Cfg) (t : TypeId) (x ix : V) (k : V → Prop) : Prop :=
  match ix with
  | .ext (.int _ n) => match x with
    | .agg cs => match cfg.ty t with
      | some ⟨.array len E, _, _, _⟩ => match cfg.ty E with
        | some i => Req (inR n len) (bif isAggD i.desc then bif Nat.ble (n.toNat * i.size + i.size) cs.length then k (.agg ((cs.drop (n.toNat * i.size)).take i.size)) else False
            else match cs[n.toNat * i.size]? with | some v => k v | none => False)
        | none => False
      | _ => False
    | _ => False
  | _ => False

/-- Is it a map of ints by ints? -/
def mapInt (cfg : Cfg) (t : TypeId) : Bool := match cfg.ty t with
  | some ⟨.map K E, _, _, _⟩ => match cfg.ty K, cfg.P.info? E with
    | some ⟨.int .i64, _, _, _⟩, some i => match i.zero with
      | some (.int .i64 (.ofNat 0)) => true
      | _ => false
    | _, _ => false
  | _ => false

def lookupV (cfg : Cfg) (lk : Option (Blk → Bool)) (HR : Heap) (t : TypeId) (x key : V) (commaOk : Bool) (k : V → Prop) : Prop :=
  match x with
  | .mp i => match key with
    | .ext (.int .i64 a) => match HR[i]? with
      | some (.map m n) => bif mapInt cfg t && mayRead lk (.map m n) then k (match commaOk with | true => .tup [vi ((m a).getD 0), vb (m a).isSome] | false => vi ((m a).getD 0)) else False
      | _ => False
    | _ => False
  | _ => False

/-- Which key and value a range over a map has come to. -/
def entryV (lk : Option (Blk → Bool)) (HR : Heap) (x : V) (k : V → Prop) : Prop :=
  match x with
  | .ptr i 0 => match HR[i]? with
    | some (.iter m left n (some (a, y))) => bif mayRead lk (.iter m left n (some (a, y))) then k (.tup [vi a, vi y]) else False
    | _ => False
  | _ => False

def extractV (x : V) (ix : Nat) (k : V → Prop) : Prop :=
  match x with
  | .tup vs => match vs[ix]? with | some v => k v | none => False
  | _ => False

def nilV (x : V) (k : V → Prop) : Prop :=
  match x with
  | .ptr i o => k (.ptr i o)
  | .eptr i n lo m j => k (.eptr i n lo m j)
  | .fn f caps => k (.fn f caps)
  | .mth f x => k (.mth f x)
  | _ => False

/-- A part of an array that stands in a block of its own. -/
def sliceA (cfg : Cfg) (t : TypeId) (x : V) (lo hi mx : Option Int) (k : V → Prop) : Prop :=
  match x with
  | .ptr i o => match cfg.ty t with
    | some ⟨.array n E, _, _, _⟩ => match cfg.ty E, lo, hi, mx with
      | some _, none, some h, some m => Req (decide (0 ≤ m ∧ m ≤ (n : Int))) (Req (decide (0 ≤ h ∧ h ≤ m)) (Req (decide (0 < m)) (k (.asl i o h.toNat m.toNat))))
      | _, _, _, _ => False
    | _ => False
  | _ => False

def sliceV (cfg : Cfg) (HR : Heap) (t : TypeId) (x : V) (lo hi : Option Int) (k : V → Prop) : Prop :=
  match cfg.tagOf t with
  | none => False
  | some tg => match x with
    | .row i => match lenOf HR (.row i) with
      | some len => sliceOp len len lo hi (fun a n => k (.sub i a n (elM tg)))
      | none => False
    | _ => False

def lenV (cfg : Cfg) (HR : Heap) (t : TypeId) (x : V) (k : V → Prop) : Prop :=
  match cfg.tagOf t with
  | none => False
  | some _ => match lenOf HR x with
    | some n => k (vi (n : Int))
    | none => False

def maxV (x y : V) (k : V → Prop) : Prop :=
  match x, y with
  | .ext (.int .i64 a), .ext (.int .i64 b) => k (vi (if b > a then b else a))
  | _, _ => False

def minV (x y : V) (k : V → Prop) : Prop :=
  match x, y with
  | .ext (.int .i64 a), .ext (.int .i64 b) => k (vi (if b < a then b else a))
  | _, _ => False

def minL : Int → List V → (V → Prop) → Prop
  | a, [], k => k (vi a)
  | a, v :: r, k => match v with
    | .ext (.int .i64 b) => minL (if b < a then b else a) r k
    | _ => False

def pureCall (cfg : Cfg) (HR : Heap) (env : Env) (b : Builtin) (args : List Operand) (ts : List TypeId) (k : V → Prop) : Prop :=
  match b, args, ts with
  | .len, [x], [t] => lenV cfg HR t (ev env x) k
  | .max, [x, y], _ => maxV (ev env x) (ev env y) k
  | .min, [x, y], _ => minV (ev env x) (ev env y) k
  | .min, x :: y :: z :: r, _ => match ev env x with
    | .ext (.int .i64 a) => minL a ((y :: z :: r).map (ev env)) k
    | _ => False
  | _, _, _ => False

def pickV (c : V) (A B : Prop) : Prop :=
  match c with
  | .ext (.bool t) => br t A B
  | _ => False

/-- Is it none? -/
def isNilC : Operand → Bool
  | .const .nilFunc => true
  | .const (.pointer none) => true
  | .const .nilIface => true
  | _ => false

def nilEq (cfg : Cfg) (t : TypeId) (x : V) (y : Operand) : Option Bool :=
  match y with
  | .const .nilFunc => match cfg.ty t with
    | some ⟨.func _ _ _, _, _, _⟩ => match x with | .fn _ _ => some false | .mth _ _ => some false | .ext .nilFunc => some true | _ => none
    | _ => none
  | .const (.pointer none) => match cfg.ty t with
    | some ⟨.pointer _, _, _, _⟩ => match x with | .ptr _ _ => some false | .eptr _ _ _ _ _ => some false | .ext (.pointer none) => some true | _ => none
    | _ => none
  | .const .nilIface => match cfg.ty t with
    | some ⟨.interface _, _, _, _⟩ => match x with | .ext .nilIface => some true | .ext (.iface _ _) => some false | _ => none
    | _ => none
  | _ => none

def nilCmp (op : BinOp) (r : Option Bool) (k : V → Prop) : Prop :=
  match r with
  | some r => match op with
    | .eql => k (vb r)
    | .neq => k (vb (!r))
    | _ => False
  | none => False

def noJunk : List V → Bool
  | [] => true
  | .junk :: _ => false
  | _ :: r => noJunk r

def pureOp (cfg : Cfg) (lk : Option (Blk → Bool)) (HR : Heap) (o : Oper) (env : Env) (k : V → Prop) : Prop :=
  match o.op with
  | .move x => k (ev env x)
  | .assign x => k (ev env x)
  | .pick c a b => pickV (ev env c) (k (ev env a)) (k (ev env b))
  | .binOp op t x y _ => bif isNilC y then nilCmp op (nilEq cfg t (ev env x) y) k else binV cfg op t (ev env x) (ev env y) k
  | .unOp op _ x => unV op (ev env x) k
  | .convert s t x => convV cfg s t (ev env x) k
  | .fieldAddr s x f => fieldAddrV cfg s (ev env x) f k
  | .indexAddr t x ix => indexAddrV cfg HR t (ev env x) (ev env ix) k
  | .load t a => loadV cfg lk HR t (ev env a) k
  | .field t x f => fieldV cfg t (ev env x) f k
  | .extract x ix => extractV (ev env x) ix k
  | .build t parts => bif isArr cfg t then buildAV cfg t parts.toList env k else buildV cfg t parts.toList env k
  | .index t x ix => indexV cfg t (ev env x) (ev env ix) k
  | .lookup t x ix c => lookupV cfg lk HR t (ev env x) (ev env ix) c k
  | .entry x => entryV lk HR (ev env x) k
  | .makeFunc fn first caps => match fn with
    | .func f => match first.toList with
      | [] => bif noJunk (caps.toList.map (ev env)) then k (.fn f (caps.toList.map (ev env))) else False
      | [x] => bif caps.toList.isEmpty && noJunk [ev env x] then k (.mth f (ev env x)) else False
      | _ => False
    | _ => False
  | .nilCheck x => nilV (ev env x) k
  | .slice t x lo hi mx => match mx, optInt env lo, optInt env hi with
    | none, some lo, some hi => sliceV cfg HR t (ev env x) lo hi k
    | some m, some lo, some hi => match natOf (ev env m) with
      | some m => sliceA cfg t (ev env x) lo hi (some m) k
      | none => False
    | _, _, _ => False
  | .call c => match c.callee with
    | .builtin b => pureCall cfg HR env b c.args.toList c.argTypes.toList k
    | _ => False
  | _ => False

/-- Does an operation change memory (or may it)? -/
def isLoud (o : Oper) : Bool :=
  match o.op with
  | .alloc _ => true
  | .box _ _ => true
  | .store _ _ _ => true
  | .buildSlice _ _ _ => true
  | .makeSlice _ _ _ => true
  | .makeMap _ _ => true
  | .mapUpdate _ _ _ _ => true
  | .range _ _ => true
  | .next _ _ => true
  | .call c => match c.callee with
    | .builtin .len => false
    | .builtin .max => false
    | .builtin .min => false
    | _ => true
  | _ => false

/-! Numbers of blocks in values; renaming. -/
def idx (ids : List Nat) (i : Nat) : Option Nat :=
  match ids with
  | [] => none
  | a :: r => bif Nat.beq a i then some 0 else match idx r i with | some k => some (k + 1) | none => none

mutual
def V.ids : V → List Nat
  | .ptr i _ => [i]
  | .eptr i _ _ _ _ => [i]
  | .row i => [i]
  | .sub i _ _ _ => [i]
  | .asl i _ _ _ => [i]
  | .mp i => [i]
  | .mth _ x => x.ids
  | .fn _ cs => idsL cs
  | .agg cs => idsL cs
  | .tup cs => idsL cs
  | _ => []
def idsL : List V → List Nat
  | [] => []
  | v :: r => v.ids ++ idsL r
end

mutual
/-- Renaming by a function that may have no answer. -/
def V.ren (f : Nat → Option Nat) : V → Option V
  | .ext v => some (.ext v)
  | .junk => some .junk
  | .ptr i o => match f i with | some j => some (.ptr j o) | none => none
  | .eptr i k lo m o => match f i with | some j => some (.eptr j k lo m o) | none => none
  | .row i => match f i with | some j => some (.row j) | none => none
  | .sub i a n m => match f i with | some j => some (.sub j a n m) | none => none
  | .asl i o n c => match f i with | some j => some (.asl j o n c) | none => none
  | .mp i => match f i with | some j => some (.mp j) | none => none
  | .mth g x => match x.ren f with | some x => some (.mth g x) | none => none
  | .fn g cs => match renL f cs with | some cs => some (.fn g cs) | none => none
  | .agg cs => match renL f cs with | some cs => some (.agg cs) | none => none
  | .tup cs => match renL f cs with | some cs => some (.tup cs) | none => none
def renL (f : Nat → Option Nat) : List V → Option (List V)
  | [] => some []
  | v :: r => match v.ren f, renL f r with
    | some v, some r => some (v :: r)
    | _, _ => none
end

def Blk.ren (f : Nat → Option Nat) : Blk → Option Blk
  | .dead => some .dead
  | .cells T cs => match renL f cs with | some cs => some (.cells T cs) | none => none
  | .row t l ro => some (.row t l ro)
  | .map m n => some (.map m n)
  | .iter m left n c => some (.iter m left n c)
  | .pk tg st => some (.pk tg st)

def Blk.ids : Blk → List Nat
  | .cells _ cs => idsL cs
  | _ => []

def mem (i : Nat) : List Nat → Bool
  | [] => false
  | a :: r => Nat.beq a i || mem i r

def addNew (acc : List Nat) : List Nat → List Nat
  | [] => acc
  | i :: r => bif mem i acc then addNew acc r else addNew (acc ++ [i]) r

def idsAt (H : Heap) (i : Nat) : List Nat :=
  match H[i]? with
  | some b => b.ids
  | none => []

/-- All blocks that are reached: rounds of looking into blocks. -/
def reach (H : Heap) : Nat → List Nat → List Nat
  | 0, acc => acc
  | n + 1, acc => reach H n (addNew acc (acc.flatMap (idsAt H)))

def nodup : List Nat → Bool
  | [] => true
  | a :: r => !mem a r && nodup r

def sel (H : Heap) (f : Nat → Option Nat) : List Nat → Option Heap
  | [] => some []
  | i :: r => match H[i]?, sel H f r with
    | some b, some bs => match b.ren f with | some b => some (b :: bs) | none => none
    | _, _ => none

/-- A nil slice as a row of none. -/
def rowify (H : Heap) (tg : Option Nat) (v : V) : V × Heap :=
  match tg, v with
  | some t, .ext (.slice none 0 0) => (.row H.length, H ++ [.row t [] false])
  | _, v => (v, H)

def rowifyL (H : Heap) : List (Option Nat × V) → List V × Heap
  | [] => ([], H)
  | (tg, v) :: r => match rowify H tg v with
    | (v, H) => match rowifyL H r with
      | (vs, H) => (v :: vs, H)

def mkEnv : List (Nat × V) → Env
  | [] => fun _ => .junk
  | (t, v) :: r => fun u => bif Nat.beq u t then v else mkEnv r u

def zipKeep : List (Nat × Option Nat) → List V → List (Nat × V)
  | (t, _) :: r, v :: vs => (t, v) :: zipKeep r vs
  | _, _ => []

/-- What stands behind a cut: the kept temporaries alone, the blocks that they reach, numbered anew; the first 'pins' blocks stay. -/
def gc (pins : Nat) (keep : List (Nat × Option Nat)) (env : Env) (H : Heap) (K : Env → Heap → Prop) : Prop :=
  match rowifyL H (keep.map fun (t, tg) => (tg, env t)) with
  | (vs, H) =>
    let ids := reach H 3 (addNew (List.range pins) (idsL vs))
    match renL (idx ids) vs, sel H (idx ids) ids with
    | some vs, some H => bif nodup ids then K (mkEnv (zipKeep keep vs)) H else False
    | _, _ => False

/-- Blocks renamed, all of them. -/
def selB (f : Nat → Option Nat) : Heap → Option Heap
  | [] => some []
  | b :: r => match b.ren f, selB f r with
    | some b, some r => some (b :: r)
    | _, _ => none

/-- The blocks that a call may have changed, in their places. -/
def mergeB (ids : List Nat) (hc bs : Heap) : Nat → Heap → Heap
  | _, [] => []
  | n, b :: r => (match idx ids n with
    | some p => match hc[p]? with
      | some c => bif c.writable then bs.getD p .dead else b
      | none => b
    | none => b) :: mergeB ids hc bs (n + 1) r

/-- As one who only reads slices sees a block. -/
def toRO : Blk → Blk
  | .row t l _ => .row t l true
  | b => b

def notRO : Blk → Bool
  | .row _ _ ro => !ro
  | _ => true

/-- What comes back of blocks is nobody else's. -/
def ownB : Heap → Heap → Bool
  | _, [] => true
  | c :: hc, b :: bs => (bif c.writable then notRO b else true) && ownB hc bs
  | [], b :: bs => notRO b && ownB [] bs

/-- A part of a list that is not written is a list that is not written. -/
def roify (H : Heap) (v : V) (K : V → Heap → Prop) : Prop :=
  match v with
  | .sub i lo n m => match H[i]? with
    | some (.row t l ro) => bif ro && Nat.beq m (elM t) then Req (decide (lo + n ≤ l.length)) (K (.row H.length) (H ++ [.row t ((l.drop lo).take n) true])) else K (.sub i lo n m) H
    | _ => False
  | v => K v H

def roifyL : List V → Heap → (List V → Heap → Prop) → Prop
  | [], H, K => K [] H
  | v :: r, H, K => roify H v fun v H => roifyL r H fun vs H => K (v :: vs) H

def backOf (n : Nat) (ids : List Nat) (i : Nat) : Option Nat :=
  match ids[i]? with
  | some j => some j
  | none => some (n + (i - ids.length))

def roB (ro : Bool) (H : Heap) : Heap := match ro with | true => H.map toRO | false => H

/-- A call of a function: its blocks by its own numbers. -/
def callC (s : Spec) (args : List V) (H : Heap) (lk : Option (Blk → Bool)) (K : V → Heap → Prop) : Prop :=
  roifyL args H fun args H =>
    let ids := reach H 3 (addNew [] (idsL args))
    match renL (idx ids) args, sel H (idx ids) ids with
    | some args, some H1 => bif nodup ids && allFree lk (roB s.ro H1) then s.tr args (roB s.ro H1) (fun v H' =>
        match v.ren (backOf H.length ids), selB (backOf H.length ids) H' with
        | some v, some Hb => bif Nat.ble ids.length Hb.length && ownB (roB s.ro H1) Hb then K v (mergeB ids (roB s.ro H1) Hb 0 H ++ Hb.drop ids.length) else False
        | _, _ => False) else False
    | _, _ => False

def kill (H : Heap) (i : Nat) : Heap := H.set i .dead

def decAll (t : Nat) (es : List (List Value)) : Option (List (El t)) :=
  match es with
  | [] => some []
  | e :: r => match elDec t e, decAll t r with
    | some x, some xs => some (x :: xs)
    | _, _ => none

def partsOf (env : Env) : List (Nat × Operand) → Nat → Option (List (List Value))
  | [], _ => some []
  | (i, x) :: r, n => bif Nat.beq i n then match extsV (vcells (ev env x)), partsOf env r (n + 1) with
      | some e, some es => some (e :: es)
      | _, _ => none
    else none

/-! Operations that change memory. -/
def storeV (cfg : Cfg) (lk : Option (Blk → Bool)) (T : TypeId) (a x : V) (H : Heap) (k : Heap → Prop) : Prop :=
  match cfg.ty T with
  | none => False
  | some i => bif allLeaf (vcells x) && Nat.beq (vcells x).length i.size then match a with
    | .ptr b off => match H[b]? with
      | some (.cells T' cs) => bif mayWrite lk (.cells T' cs) && Nat.ble (off + (vcells x).length) cs.length then k (H.set b (.cells T' (setCells cs off (vcells x)))) else False
      | _ => False
    | .eptr b n lo m j => match H[b]? with
      | some (.row tg l ro) => bif mayWrite lk (.row tg l ro) && (!ro && (Nat.ble (j + (vcells x).length) (elM tg) && Nat.beq m (elM tg))) then Req (inR (offs n lo) l.length)
          (match extsV (setCells ((elEnc tg (l.getD (offs n lo).toNat (elD tg))).map .ext) j (vcells x)) with
            | some vs => match elDec tg vs with
              | some y => k (H.set b (.row tg (l.set (offs n lo).toNat y) ro))
              | none => False
            | none => False)
         else False
      | _ => False
    | _ => False
    else False

def appendTo (lk : Option (Blk → Bool)) (tg i : Nat) (H : Heap) (k : V → Heap → Prop) (ty : Nat) (ly : List (El ty)) : Prop :=
  match H[i]? with
  | some (.row tx lx ro) => bif !ro && mayWrite lk (.row tx lx ro) && Nat.beq tx tg then
      (if h : ty = tx then Req (decide (lx.length + ly.length ≤ 1048576)) (k (.row H.length) (kill H i ++ [.row tx (lx ++ h ▸ ly) false])) else False)
    else False
  | _ => False

def appendV (cfg : Cfg) (lk : Option (Blk → Bool)) (t : TypeId) (x y : V) (H : Heap) (k : V → Heap → Prop) : Prop :=
  match cfg.tagOf t with
  | none => False
  | some tg => match rowify H (some tg) x with
    | (.row i, H) => rowOf H y (appendTo lk tg i H k)
    | _ => False

def buildSliceV (cfg : Cfg) (t : TypeId) (n : Nat) (parts : List (Nat × Operand)) (env : Env) (H : Heap) (k : V → Heap → Prop) : Prop :=
  match cfg.tagOf t with
  | none => False
  | some tg => bif Nat.beq n parts.length && Nat.ble n 4096 then match partsOf env parts 0 with
    | some es => match decAll tg es with
      | some l => k (.row H.length) (H ++ [.row tg l false])
      | none => False
    | none => False
    else False

def makeSliceV (cfg : Cfg) (t : TypeId) (len cap : V) (H : Heap) (k : V → Heap → Prop) : Prop :=
  match cfg.tagOf t, len, cap with
  | some tg, .ext (.int .i64 n), .ext (.int .i64 c) => Req (decide (0 ≤ n ∧ n ≤ c ∧ c ≤ 1048576)) (k (.row H.length) (H ++ [.row tg (List.replicate n.toNat (elD tg)) false]))
  | _, _, _ => False

def makeMapV (cfg : Cfg) (t : TypeId) (r : Option V) (H : Heap) (k : V → Heap → Prop) : Prop :=
  match r with
  | none => k (.mp H.length) (H ++ [.map (fun _ => none) 0])
  | some (.ext (.int _ _)) => bif mapInt cfg t then k (.mp H.length) (H ++ [.map (fun _ => none) 0]) else False
  | _ => False

def mapSet (m : Int → Option Int) (a x : Int) : Int → Option Int := fun j => if j = a then some x else m j

def mapUpdateV (cfg : Cfg) (lk : Option (Blk → Bool)) (t : TypeId) (x key v : V) (H : Heap) (k : Heap → Prop) : Prop :=
  match x with
  | .mp i => match key with
    | .ext (.int .i64 a) => match v with
      | .ext (.int .i64 y) => match H[i]? with
        | some (.map m n) => bif mapInt cfg t && mayWrite lk (.map m n) then k (H.set i (.map (mapSet m a y) (n + 1))) else False
        | _ => False
      | _ => False
    | _ => False
  | _ => False

def mapDrop (left : Int → Bool) (a : Int) : Int → Bool := fun b => left b && !(decide (b = a))
def mapHas (m : Int → Option Int) : Int → Bool := fun a => (m a).isSome

/-- A range over a map takes the map over: nobody else may look at it. -/
def rangeV (cfg : Cfg) (lk : Option (Blk → Bool)) (t : TypeId) (x : V) (H : Heap) (k : V → Heap → Prop) : Prop :=
  match x with
  | .mp i => match H[i]? with
    | some (.map m n) => bif mapInt cfg t && mayWrite lk (.map m n) then k (.ptr H.length 0) (kill H i ++ [.iter m (mapHas m) n none]) else False
    | _ => False
  | _ => False

def nextV (lk : Option (Blk → Bool)) (x : V) (str : Bool) (H : Heap) (k : V → Heap → Prop) : Prop :=
  match x with
  | .ptr i 0 => match H[i]? with
    | some (.iter m left n c) => bif !str && mayWrite lk (.iter m left n c) then (∀ a y : Int, left a = true → m a = some y → decide (0 < n) = true → k (.tup [vb true, vi a, vi y]) (H.set i (.iter m (mapDrop left a) (n - 1) (some (a, y))))) ∧
        ((∀ a : Int, left a = false) → k (.tup [vb false]) H) else False
    | _ => False
  | _ => False

/-- A new block's mark: its type, or that it may be written where an order is drawn. -/
def allocTy (cfg : Cfg) (dst : Option Nat) (T : TypeId) : TypeId := match dst with
  | some d => bif cfg.flag d then T + 1048576 else T
  | none => T

def loudOp (cfg : Cfg) (lk : Option (Blk → Bool)) (o : Oper) (env : Env) (H : Heap) (k : V → Heap → Prop) : Prop :=
  match o.op with
  | .alloc T => match cfg.ty T with
    | some i => k (.ptr H.length 0) (H ++ [.cells (allocTy cfg o.dst T) (i.zero.map .ext)])
    | none => False
  | .box T x => bif allLeaf (vcells (ev env x)) then k (.ptr H.length 0) (H ++ [.cells T (vcells (ev env x))]) else False
  | .store T a x => storeV cfg lk T (ev env a) (ev env x) H (k (.ext undef))
  | .buildSlice t n parts => buildSliceV cfg t n parts.toList env H k
  | .makeSlice t len cap => makeSliceV cfg t (ev env len) (ev env cap) H k
  | .makeMap t r => makeMapV cfg t (r.map (ev env)) H k
  | .mapUpdate t m x v => mapUpdateV cfg lk t (ev env m) (ev env x) (ev env v) H (k (.ext undef))
  | .range t x => rangeV cfg lk t (ev env x) H k
  | .next it str => nextV lk (ev env it) str H k
  | .call c => match c.callee with
    | .builtin b => match b, c.args.toList, c.argTypes.toList with
      | .append, [x, y], [t, t'] => bif Nat.beq t t' then appendV cfg lk t (ev env x) (ev env y) H k else False
      | _, _, _ => False
    | .value f => match ev env f with
      | .fn g caps => match cfg.sigs g with
        | some s => bif noJunk (c.args.toList.map (ev env)) then callC s (c.args.toList.map (ev env) ++ caps) H lk k else False
        | none => False
      | .mth g x => match cfg.sigs g with
        | some s => bif noJunk (c.args.toList.map (ev env)) then callC s (x :: c.args.toList.map (ev env)) H lk k else False
        | none => False
      | _ => False
    | _ => False
  | _ => False

def exOp (cfg : Cfg) (lk : Option (Blk → Bool)) (ea : Bool) (HR : Option Heap) (o : Oper) (env : Env) (H : Heap) (k : V → Heap → Prop) : Prop :=
  bif isLoud o then loudOp cfg lk o env H k else pureOp cfg (bif ea then none else lk) (match HR with | some H => H | none => H) o env (fun v => k v H)
/-- Do all operations that change memory wait for this one? -/
def early (ops : List Oper) (i : Nat) : Bool :=
  ops.all fun o => !isLoud o || o.after.toList.any fun e => Region.binds .any e && Nat.beq e.on i

/-- A region's operations, in this order. -/
def exOps (cfg : Cfg) (nt : Nat) (lk : Option (Blk → Bool)) (ea : Nat → Bool) (HR : Option Heap) (ops : List Oper) : List Nat → Env → Heap → (Env → Heap → Prop) → Prop
  | [], env, H, K => K env H
  | i :: rest, env, H, K =>
    match ops[i]? with
    | none => False
    | some o =>
      match o.guard with
      | none => exOp cfg lk (ea i) HR o env H (fun v H => exOps cfg nt lk ea HR ops rest (updO nt env o.dst v) H K)
      | some (j, want) => match ops[j]? with
        | none => False
        | some p => match p.dst with
          | none => False
          | some d => match env d with
            | .ext (.bool b) =>
              let go (env : Env) (w : Bool) : Prop := bif w then exOp cfg lk (ea i) HR o env H (fun v H => exOps cfg nt lk ea HR ops rest (updO nt env o.dst v) H K)
                else exOps cfg nt lk ea HR ops rest (updO nt env o.dst (.ext undef)) H K
              br b (go (updO nt env (some d) (vb true)) want) (go (updO nt env (some d) (vb false)) (!want))
            | .ext (.tuple vs) => bif vs.toList.isEmpty then exOps cfg nt lk ea HR ops rest (updO nt env o.dst (.ext undef)) H K else False
            | _ => False

def planGo (ops : Array Oper) : List Nat → Array Bool → Bool
  | [], listed => (Region.ready .any ops listed).isEmpty
  | i :: rest, listed => (match ops[i]? with
    | none => false
    | some o => bif isLoud o then (Region.ready .any ops listed == [i]) else (Region.ready .any ops listed).contains i && Region.free .any ops listed i) &&
      planGo ops rest (listed.setIfInBounds i true)

def planOk (ops : Array Oper) (plan : List Nat) : Bool := Region.noSelect ops && (plan.length == ops.size) && planGo ops plan (Array.replicate ops.size false)

def exOpsT (cfg : Cfg) (nt : Nat) (lk : Option (Blk → Bool)) (ea : Nat → Bool) (HR : Option Heap) (ops : List Oper) : PT → Env → Heap → (Env → Heap → Prop) → Prop
  | .fin, env, H, K => K env H
  | .op i t, env, H, K => exOps cfg nt lk ea HR ops [i] env H (fun env H => exOpsT cfg nt lk ea HR ops t env H K)
  | .alt t u, env, H, K => exOpsT cfg nt lk ea HR ops t env H K ∧ exOpsT cfg nt lk ea HR ops u env H K

def heads : PT → List Nat
  | .fin => []
  | .op i _ => [i]
  | .alt t u => heads t ++ heads u

def PT.size : PT → Nat
  | .fin => 0
  | .op _ t => t.size + 1
  | .alt t u => max t.size u.size

def loudAt (ops : Array Oper) (i : Nat) : Bool := match ops[i]? with
  | none => false
  | some o => isLoud o

/-- Is each order there? 'b': at a choice. -/
def planGoT (ops : Array Oper) : Bool → PT → Array Bool → Bool
  | b, .fin, listed => !b && (Region.ready .any ops listed).isEmpty
  | b, .op i t, listed => (match ops[i]? with
    | none => false
    | some o => bif isLoud o then (b || Region.ready .any ops listed == [i]) else !b && ((Region.ready .any ops listed).contains i && Region.free .any ops listed i)) &&
      planGoT ops false t (listed.setIfInBounds i true)
  | b, .alt t u, listed => (b || (!(Region.ready .any ops listed).isEmpty && (Region.ready .any ops listed).all fun i => (heads (.alt t u)).contains i)) && (planGoT ops true t listed && planGoT ops true u listed)

def planOkT (ops : Array Oper) (p : PT) : Bool := Region.noSelect ops && Nat.ble p.size ops.size && planGoT ops false p (Array.replicate ops.size false)

inductive Ex where
  | normal
  | exit (id : Nat)
  | ret

/-- A loop at its head, its blocks in order: after some rounds it is left. -/
def loopM (c : Code) (body : Env → Heap → (Ex → Env → Heap → Prop) → Prop) (g : Env → Heap → (Env → Heap → Prop) → Prop) (K : Ex → Env → Heap → Prop) : Nat → Env → Heap → Prop
  | 0, _, _ => False
  | n + 1, env, H => body env H fun e env H => match e with
    | .normal => g env H (loopM c body g K n)
    | .exit i => K (.exit i) env H
    | .ret => K .ret env H

def LoopQ (c : Code) (body : Env → Heap → (Ex → Env → Heap → Prop) → Prop) (g : Env → Heap → (Env → Heap → Prop) → Prop) (env : Env) (H : Heap) (K : Ex → Env → Heap → Prop) : Prop :=
  ∃ n, loopM c body g K n env H

def firstRegion : Code → Nat
  | .region id _ _ => id
  | .seq a b => match a with
    | .skip => firstRegion b
    | .label _ => firstRegion b
    | _ => firstRegion a
  | .block _ c => firstRegion c
  | .loop c => firstRegion c
  | .scope c => firstRegion c
  | .cond _ a _ => firstRegion a
  | _ => 0

def gcO (pins : Nat) (k : Option (List (Nat × Option Nat))) (env : Env) (H : Heap) (K : Env → Heap → Prop) : Prop :=
  match k with
  | some keep => gc pins keep env H K
  | none => K env H

def blockK (cfg : Cfg) (cx : Cx) (id : Nat) (K : Ex → Env → Heap → Prop) (e : Ex) (env : Env) (H : Heap) : Prop :=
  match e with
  | .exit i => bif Nat.beq i id then gcO cx.pins (cfg.keepB id) env H (K .normal) else K (.exit i) env H
  | .normal => gcO cx.pins (cfg.keepB id) env H (K .normal)
  | .ret => K .ret env H

/-- Which blocks stay as they are in a region that draws its order: 0 all; 1 all but rows that may be written; 2 all but those and cells. -/
def lkOf : Nat → Blk → Bool
  | 0, _ => true
  | 1, .row _ _ ro => ro
  | 1, _ => true
  | 3, .cells T _ => Nat.blt T 1048576
  | 3, _ => true
  | _, b => !b.writable

def ex (cfg : Cfg) (cx : Cx) : Code → Env → Heap → (Ex → Env → Heap → Prop) → Prop
  | .skip, env, H, K => K .normal env H
  | .label _, env, H, K => K .normal env H
  | .region id ops draw, env, H, K => match draw with
    | false => exOps cfg cx.nt none (fun _ => true) none ops.toList (List.range ops.toList.length) env H (K .normal)
    | true => match cfg.planT id with
     | some (p, kd) => bif planOkT ops p then exOpsT cfg cx.nt (some (lkOf kd)) (early ops.toList) (some H) ops.toList p env H (K .normal) else False
     | none => match cfg.plan id with
      | some (plan, kd) => bif planOk ops plan then exOps cfg cx.nt (some (lkOf kd)) (early ops.toList) (some H) ops.toList plan env H (K .normal) else False
      | none => False
  | .seq a b, env, H, K => ex cfg cx a env H fun e env H => match e with
    | .normal => ex cfg cx b env H K
    | .exit i => K (.exit i) env H
    | .ret => K .ret env H
  | .cond c a b, env, H, K => match ev env c with
    | .ext (.bool t) => br t (ex cfg cx a env H K) (ex cfg cx b env H K)
    | _ => False
  | .block id c, env, H, K => ex cfg cx c env H (blockK cfg cx id K)
  | .scope c, env, H, K => ex cfg cx c env H K
  | .loop c, env, H, K => gcO cx.pins (cfg.keep (firstRegion c)) env H fun env H => match cfg.unroll (firstRegion c) with
    | some n => loopM c (ex cfg cx c) (gcO cx.pins (cfg.keep (firstRegion c))) K n env H
    | none => LoopQ c (ex cfg cx c) (gcO cx.pins (cfg.keep (firstRegion c))) env H K
  | .exit id, env, H, K => K (.exit id) env H
  | .ret, env, H, K => K .ret env H
  | _, _, _, _ => False

def argEnv (args : List V) : Env := fun t => match args[t]? with | some v => v | none => .ext undef

/-- What stands in a cell of the function's own. -/
def cellV (cfg : Cfg) (H : Heap) (t : TypeId) (x : V) : Option V :=
  match cfg.ty t, x with
  | some i, .ptr b o => match H[b]? with
    | some (.cells _ cs) => bif isAggD i.desc then (bif Nat.ble (o + i.size) cs.length then some (.agg ((cs.drop o).take i.size)) else none) else cs[o]?
    | _ => none
  | _, _ => none

def resV (cfg : Cfg) (env : Env) (H : Heap) : List ResultVar → List TypeId → Option (List V × Heap)
  | .tmp t :: r, ty :: tys => match rowify H (cfg.tagOf ty) (env t) with
    | (v, H) => match resV cfg env H r tys with
      | some (vs, H) => some (v :: vs, H)
      | none => none
  | .cell c t :: r, _ :: tys => match cellV cfg H t (env c), resV cfg env H r tys with
    | some v, some (vs, H) => some (v :: vs, H)
    | _, _ => none
  | [], [] => some ([], H)
  | _, _ => none

def one : List V → V
  | [v] => v
  | vs => .tup vs

/-- What stands behind a function's end: the results, and the blocks that they reach. -/
def retK (cfg : Cfg) (fn : Func) (pins : Nat) (K : V → Heap → Prop) (e : Ex) (env : Env) (H : Heap) : Prop :=
  match e with
  | .exit _ => False
  | _ => match resV cfg env H fn.results.toList fn.resultTypes.toList with
    | none => False
    | some (vs, H) =>
      let ids := reach H 3 (addNew (List.range pins) (idsL vs))
      match renL (idx ids) vs, sel H (idx ids) ids with
      | some vs, some H => bif nodup ids && noJunk vs then K (one vs) H else False
      | _, _ => False

def cxOf (fn : Func) (args : List V) (H : Heap) : Cx := ⟨args.length + (fn.ntmps - args.length), H.length⟩

def exF (cfg : Cfg) (fn : Func) (args : List V) (H : Heap) (K : V → Heap → Prop) : Prop :=
  match fn.body with
  | some c => ex cfg (cxOf fn args H) c (argEnv args) H (retK cfg fn H.length K)
  | none => False

/-- Pieces of code, by paths; and what stands behind a piece. -/
def at_ : Code → List Nat → Code
  | c, [] => c
  | .seq a _, 0 :: p => at_ a p
  | .seq _ b, _ :: p => at_ b p
  | .cond _ a _, 0 :: p => at_ a p
  | .cond _ _ b, _ :: p => at_ b p
  | .block _ c, _ :: p => at_ c p
  | .loop c, _ :: p => at_ c p
  | .scope c, _ :: p => at_ c p
  | c, _ => c

def seqK (cfg : Cfg) (cx : Cx) (b : Code) (K : Ex → Env → Heap → Prop) (e : Ex) (env : Env) (H : Heap) : Prop :=
  match e with
  | .normal => ex cfg cx b env H K
  | .exit i => K (.exit i) env H
  | .ret => K .ret env H

def contK (cfg : Cfg) (cx : Cx) : Code → List Nat → (Ex → Env → Heap → Prop) → Ex → Env → Heap → Prop
  | .seq a b, 0 :: p, K => contK cfg cx a p (seqK cfg cx b K)
  | .seq _ b, _ :: p, K => contK cfg cx b p K
  | .cond _ a _, 0 :: p, K => contK cfg cx a p K
  | .cond _ _ b, _ :: p, K => contK cfg cx b p K
  | .block id c, _ :: p, K => contK cfg cx c p (blockK cfg cx id K)
  | .scope c, _ :: p, K => contK cfg cx c p K
  | _, _, K => K

/-- A loop, by its text. -/
def Loop (cfg : Cfg) (cx : Cx) (c : Code) (env : Env) (H : Heap) (K : Ex → Env → Heap → Prop) : Prop :=
  LoopQ c (ex cfg cx c) (gcO cx.pins (cfg.keep (firstRegion c))) env H K

/-- What stands behind a round. -/
def roundK (cfg : Cfg) (cx : Cx) (c : Code) (K : Ex → Env → Heap → Prop) (J : Env → Heap → Prop) (e : Ex) (env : Env) (H : Heap) : Prop :=
  match e with
  | .normal => gcO cx.pins (cfg.keep (firstRegion c)) env H J
  | .exit i => K (.exit i) env H
  | .ret => K .ret env H

def bodyOf (f : Func) : Code := match f.body with | some c => c | none => .ret

end Go.Rx

