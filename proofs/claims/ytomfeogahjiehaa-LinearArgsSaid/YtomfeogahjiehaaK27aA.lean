/- What the row's text of this claim stands on, part 1: the symbolic executor, contracts of the program's functions, plain facts. No condition. -/
import Derived.OrdersHeld
import Derived.Laws.AppendOwn
import Derived.Laws.MakeOwn
import Derived.Laws.OwnMore
import Derived.Laws.StructEq
import Derived.Laws.Shifts
import Derived.Below
import Derived.Maps.RangeRun
import Derived.ChangeKeysEq
section
namespace Go.Rx
inductive V where
  | ext (v : Value)
  | junk
  | ptr (i off : Nat)
  | eptr (i : Nat) (k : Int) (lo m j : Nat)
  | row (i : Nat)
  | sub (i lo n m : Nat)
  | asl (i o n c : Nat)
  | mp (i : Nat)
  | mth (f : FuncId) (x : V)
  | fn (f : FuncId) (caps : List V)
  | agg (cs : List V)
  | tup (vs : List V)
  deriving Inhabited
def vi (n : Int) : V := .ext (.int .i64 n)
def vb (b : Bool) : V := .ext (.bool b)
structure Pr where
  Addr : Int
  Val : Int
  deriving Inhabited, DecidableEq
structure Ev where
  (Worker CKind CAddr CSize CAlign CValue RErr RAddr RSize RValue SBlocks SAsked SWords SKept SOpen SMapped SUsed Begin End Stamp : Int)
  (Wrote Sure Done : Bool)
  deriving Inhabited, DecidableEq
def El : Nat → Type
  | 0 => Int
  | 1 => Bool
  | 2 => Pr
  | 3 => Ev
  | _ => List Int
def elM : Nat → Nat
  | 0 => 1
  | 1 => 1
  | 2 => 2
  | 3 => 23
  | n + 4 => n % 32 + 1
def dEv : Ev := ⟨0,0,0,0,0,0,0,0,0,0,0,0,0,0,0,0,0,0,0,0,false,false,false⟩
def elD : (t : Nat) → El t
  | 0 => (0 : Int)
  | 1 => false
  | 2 => (⟨0, 0⟩ : Pr)
  | 3 => dEv
  | n + 4 => List.replicate (n % 32 + 1) (0 : Int)
abbrev i64 (n : Int) : Value := .int .i64 n
def encEv (e : Ev) : List Value := [i64 e.Worker, i64 e.CKind, i64 e.CAddr, i64 e.CSize, i64 e.CAlign, i64 e.CValue, i64 e.RErr, i64 e.RAddr, i64 e.RSize, i64 e.RValue,
  i64 e.SBlocks, i64 e.SAsked, i64 e.SWords, i64 e.SKept, i64 e.SOpen, i64 e.SMapped, i64 e.SUsed, i64 e.Begin, i64 e.End, i64 e.Stamp, .bool e.Wrote, .bool e.Sure, .bool e.Done]
def evCs (e : Ev) : List V := (encEv e).map .ext
def evV (e : Ev) : V := .agg (evCs e)
def elEnc : (t : Nat) → El t → List Value
  | 0, (x : Int) => [i64 x]
  | 1, (x : Bool) => [.bool x]
  | 2, (p : Pr) => [i64 p.Addr, i64 p.Val]
  | 3, (e : Ev) => encEv e
  | n + 4, (l : List Int) => (List.range (n % 32 + 1)).map fun i => i64 (l.getD i 0)
def decI : List Value → Option Int
  | [.int .i64 x] => some x
  | _ => none
def decB : List Value → Option Bool
  | [.bool b] => some b
  | _ => none
def decPr : List Value → Option Pr
  | [.int .i64 x, .int .i64 y] => some ⟨x, y⟩
  | _ => none
def decEv : List Value → Option Ev
  | [.int .i64 a1, .int .i64 a2, .int .i64 a3, .int .i64 a4, .int .i64 a5, .int .i64 a6, .int .i64 a7, .int .i64 a8, .int .i64 a9, .int .i64 a10,
      .int .i64 a11, .int .i64 a12, .int .i64 a13, .int .i64 a14, .int .i64 a15, .int .i64 a16, .int .i64 a17, .int .i64 a18, .int .i64 a19, .int .i64 a20, .bool b1, .bool b2, .bool b3] =>
      some ⟨a1, a2, a3, a4, a5, a6, a7, a8, a9, a10, a11, a12, a13, a14, a15, a16, a17, a18, a19, a20, b1, b2, b3⟩
  | _ => none
def intsOf : List Value → Option (List Int)
  | [] => some []
  | .int .i64 x :: r => match intsOf r with
    | some l => some (x :: l)
    | none => none
  | _ => none
def elDec : (t : Nat) → List Value → Option (El t)
  | 0 => decI
  | 1 => decB
  | 2 => decPr
  | 3 => decEv
  | n + 4 => fun vs => match intsOf vs with
    | some l => bif Nat.beq l.length (n % 32 + 1) then some l else none
    | none => none
inductive Blk where
  | dead
  | cells (T : TypeId) (cs : List V)
  | rcells (cs : List V)
  | row (t : Nat) (l : List (El t)) (ro : Bool)
  | map (m : Int → Option Int) (n : Nat)
  | iter (m : Int → Option Int) (left : Int → Bool) (n : Nat) (cur : Option (Int × Int))
  | pk (tag : Nat) (st : List (List Int)) (xs : List Value) (refs : List V)
abbrev Env := Nat → V
abbrev Heap := List Blk
def Blk.writable : Blk → Bool
  | .dead => false
  | .cells .. => true
  | .rcells .. => false
  | .row _ _ ro => !ro
  | .map .. => true
  | .iter .. => true
  | .pk .. => true
def mayRead (lk : Option (Blk → Bool)) (b : Blk) : Bool := match lk with | none => true | some f => f b
def mayWrite (lk : Option (Blk → Bool)) (b : Blk) : Bool := match lk with | none => true | some f => !f b
def allFree (lk : Option (Blk → Bool)) : Heap → Bool
  | [] => true
  | b :: r => (!b.writable || mayWrite lk b) && allFree lk r
structure RO where
  b : Bool
  m : Nat → Bool
  c : Nat → Bool := fun _ => false
instance : Coe Bool RO := ⟨fun b => ⟨b, fun _ => false, fun _ => false⟩⟩
structure Spec where
  tr : List V → Heap → (V → Heap → Prop) → Prop
  ro : RO := (true : Bool)
structure ET where
  ty : Nat → TypeId
  abs : Nat → List (List Int) → Heap → Prop
instance : CoeFun ET (fun _ => Nat → TypeId) := ⟨ET.ty⟩
structure TyI where
  desc : TypeDesc
  size : Nat
  zero : List Value
  bytes : Nat
inductive PT where
  | fin
  | op (i : Nat) (t : PT)
  | alt (t u : PT)
  deriving Inhabited
structure Cfg where
  P : Program
  tagOf : TypeId → Option Nat
  elT : ET
  sigs : FuncId → Option Spec
  keep : Nat → Option (List (Nat × Option Nat))
  keepB : Nat → Option (List (Nat × Option Nat))
  plan : Nat → Option (List Nat × Nat)
  unroll : Nat → Option Nat := fun _ => none
  flag : Nat → Bool := fun _ => false
  planT : Nat → Option (PT × Nat) := fun _ => none
  nilrow : Bool := false
def Cfg.ty (cfg : Cfg) (t : TypeId) : Option TyI :=
  match cfg.P.info? t, cfg.P.underlying t with
  | some i, some d => match i.zero with
    | some z => some ⟨d, i.size, z.cells.toList, i.bytes⟩
    | none => none
  | _, _ => none
def br (b : Bool) (A B : Prop) : Prop := match b with | true => A | false => B
def Req (b : Bool) (A : Prop) : Prop := match b with | true => A | false => False
def upd (env : Env) (d : Nat) (v : V) : Env := fun t => bif Nat.beq t d then v else env t
def updO (nt : Nat) (env : Env) (d : Option Nat) (v : V) : Env := match d with | some d => bif Nat.ble nt d then env else upd env d v | none => env
structure Cx where
  nt : Nat
  pins : Nat
def ev (env : Env) : Operand → V
  | .tmp t => env t
  | .const v => .ext v
  | .global g => .ext (.pointer (some ⟨g, 0, none⟩))
  | .func f => .fn f []
def extV : V → Option Value
  | .ext v => some v
  | _ => none
def extsV : List V → Option (List Value)
  | [] => some []
  | v :: r => match extV v, extsV r with
    | some x, some y => some (x :: y)
    | _, _ => none
def vcells : V → List V
  | .agg cs => cs
  | .ext (.agg cs) => cs.toList.map .ext
  | v => [v]
def leaf : V → Bool
  | .ext (.agg _) | .ext (.tuple _) | .junk | .agg _ | .tup _ => false
  | _ => true
def setCells (cs : List V) (o : Nat) : List V → List V
  | [] => cs
  | v :: r => setCells (cs.set o v) (o + 1) r
def allLeaf : List V → Bool
  | [] => true
  | v :: r => leaf v && allLeaf r
def isAggD : TypeDesc → Bool
  | .struct _ | .array _ _ => true
  | _ => false
def rowOf (H : Heap) (v : V) (K : (t : Nat) → List (El t) → Prop) : Prop :=
  match v with
  | .row i => match H[i]? with
    | some (.row t l _) => K t l
    | _ => False
  | .sub i lo n m => match H[i]? with
    | some (.row t l _) => bif Nat.beq m (elM t) then Req (decide (lo + n ≤ l.length)) (K t ((l.drop lo).take n)) else False
    | _ => False
  | _ => False
def lenOf (H : Heap) : V → Option Nat
  | .row i => match H[i]? with | some (.row _ l _) => some l.length | _ => none
  | .sub _ _ n _ => some n
  | .ext (.slice none 0 0) => some 0
  | .asl _ _ n _ => some n
  | _ => none
def offs (n : Int) : Nat → Int
  | 0 => n
  | lo + 1 => n + ((lo + 1 : Nat) : Int)
def inR (n : Int) (len : Nat) : Bool := decide (0 ≤ n ∧ n < (len : Int))
def intOp (op : BinOp) (k : IntKind) (a b : Int) (K : Value → Prop) : Prop :=
  match op with
  | .add => K (.int k (k.wrap (a + b)))
  | .sub => K (.int k (k.wrap (a - b)))
  | .mul => K (.int k (k.wrap (a * b)))
  | .quo => Req (!(b == 0)) (K (.int k (k.wrap (a.tdiv b))))
  | .rem => Req (!(b == 0)) (K (.int k (a.tmod b)))
  | .and => K (.int k (bits .and k a b))
  | .or => K (.int k (bits .or k a b))
  | .xor => K (.int k (bits .xor k a b))
  | .andNot => K (.int k (bits .andNot k a b))
  | .eql => K (.bool (a == b))
  | .neq => K (.bool (a != b))
  | .lss => K (.bool (a < b))
  | .leq => K (.bool (a ≤ b))
  | .gtr => K (.bool (a > b))
  | .geq => K (.bool (a ≥ b))
  | .shl => Req (decide (0 ≤ b)) (K (.int k (k.wrap (a * 2 ^ min b.toNat k.bits))))
  | .shr => Req (decide (0 ≤ b)) (K (.int k (a / 2 ^ min b.toNat k.bits)))
def fieldOff (cfg : Cfg) (s : TypeId) (f : Nat) : Option (Nat × TypeId) :=
  match cfg.ty s with
  | some ⟨.struct fs, _, _, _⟩ => match fs.toList[f]? with
    | some f => some (f.offset, f.type)
    | none => none
  | _ => none
def natOf (v : V) : Option Int := match v with | .ext (.int _ n) => some n | _ => none
def sliceOp (len cap : Nat) (lo hi : Option Int) (K : Nat → Nat → Prop) : Prop :=
  match lo, hi with
  | none, none => K 0 len
  | some l, none => Req (decide (0 ≤ l ∧ l ≤ (len : Int))) (K l.toNat (len - l.toNat))
  | none, some h => Req (decide (0 ≤ h ∧ h ≤ (cap : Int))) (K 0 h.toNat)
  | some l, some h => Req (decide (0 ≤ h ∧ h ≤ (cap : Int))) (Req (decide (0 ≤ l ∧ l ≤ h)) (K l.toNat (h.toNat - l.toNat)))
def optInt (env : Env) : Option Operand → Option (Option Int)
  | none => some none
  | some x => match natOf (ev env x) with | some n => some (some n) | none => none
def eqFsV (cfg : Cfg) (xs ys : List V) : List Field → Option Bool
  | [] => some true
  | f :: fs => bif f.name == "_" then none else match cfg.ty f.type, xs[f.offset]?, ys[f.offset]?, eqFsV cfg xs ys fs with
    | some ⟨.int _, _, _, _⟩, some (.ext (.int kx a)), some (.ext (.int ky b)), some r => bif decide (kx = ky) then some (a == b && r) else none
    | some ⟨.bool, _, _, _⟩, some (.ext (.bool a)), some (.ext (.bool b)), some r => some ((a == b) && r)
    | _, _, _, _ => none
def eqFs2 (cfg : Cfg) (xs ys : List V) : List Field → Option Bool
  | [] => some true
  | f :: fs => bif f.name == "_" then none else match cfg.ty f.type, eqFs2 cfg xs ys fs with
    | some ⟨.int _, _, _, _⟩, some r => match xs[f.offset]?, ys[f.offset]? with
      | some (.ext (.int kx a)), some (.ext (.int ky b)) => bif decide (kx = ky) then some (a == b && r) else none
      | _, _ => none
    | some ⟨.bool, _, _, _⟩, some r => match xs[f.offset]?, ys[f.offset]? with
      | some (.ext (.bool a)), some (.ext (.bool b)) => some ((a == b) && r)
      | _, _ => none
    | some ⟨.struct gs, sz, _, _⟩, some r => bif !(cfg.P.stoodInHeld f.type) then
        match eqFsV cfg ((xs.drop f.offset).take sz) ((ys.drop f.offset).take sz) gs.toList with
        | some r1 => some (r1 && r)
        | none => none
      else none
    | _, _ => none
def eqIsV (xs ys : List V) (sz : Nat) : List Nat → Option Bool
  | [] => some true
  | i :: is => match xs[i * sz]?, ys[i * sz]?, eqIsV xs ys sz is with
    | some (.ext (.int kx a)), some (.ext (.int ky b)), some r => bif decide (kx = ky) then some (a == b && r) else none
    | _, _, _ => none
def binV (cfg : Cfg) (op : BinOp) (t : TypeId) (x y : V) (k : V → Prop) : Prop :=
  match x, y with
  | .ext (.int kx a), .ext (.int ky b) => bif decide (kx = ky) then intOp op kx a b (fun v => k (.ext v)) else False
  | .ext (.bool a), .ext (.bool b) => match op, cfg.ty t with
    | .eql, some ⟨.bool, _, _, _⟩ => k (vb (a == b))
    | .neq, some ⟨.bool, _, _, _⟩ => k (vb (!(a == b)))
    | _, _ => False
  | .agg xs, .agg ys => match cfg.ty t with
    | some ⟨.struct fs, _, _, _⟩ => bif !(cfg.P.stoodInHeld t) && !(cfg.P.eqGuardType cfg.P.depth t) then match eqFs2 cfg xs ys fs.toList with
      | some r => match op with
        | .eql => k (vb r)
        | .neq => k (vb (!r))
        | _ => False
      | none => False
      else False
    | some ⟨.array n e, _, _, _⟩ => bif !(cfg.P.eqGuardType cfg.P.depth t) then match cfg.ty e with
      | some ⟨.int _, sz, _, _⟩ => match eqIsV xs ys sz (List.range n) with
        | some r => match op with
          | .eql => k (vb r)
          | .neq => k (vb (!r))
          | _ => False
        | none => False
      | _ => False
      else False
    | _ => False
  | _, _ => False
def unV (op : UnOp) (x : V) (k : V → Prop) : Prop :=
  match op, x with
  | .not, .ext (.bool b) => k (vb (!b))
  | .neg, .ext (.int kd n) => k (.ext (.int kd (kd.wrap (0 - n))))
  | _, _ => False
def convV (cfg : Cfg) (s t : TypeId) (x : V) (k : V → Prop) : Prop :=
  match x with
  | .ext (.int _ n) => match cfg.ty s, cfg.ty t with
    | some _, some ⟨.int kd, _, _, _⟩ => k (.ext (.int kd (kd.wrap n)))
    | _, _ => False
  | _ => False
def fieldAddrV (cfg : Cfg) (s : TypeId) (x : V) (f : Nat) (k : V → Prop) : Prop :=
  match fieldOff cfg s f with
  | none => False
  | some (off, T) => match cfg.ty T with
    | none => False
    | some i => bif Nat.beq i.size 0 then False else match x with
      | .ptr i o => k (.ptr i (o + off))
      | .eptr i n lo m j => k (.eptr i n lo m (j + off))
      | _ => False
def splitI (n : Int) (a : Nat) : Nat → (Nat → Prop) → Prop
  | 0, _ => True
  | c + 1, k => br (n == (a : Int)) (k a) (splitI n (a + 1) c k)
def indexAddrV (cfg : Cfg) (HR : Heap) (t : TypeId) (x ix : V) (k : V → Prop) : Prop :=
  match ix with
  | .ext (.int _ n) => match x with
    | .row i => match HR[i]? with
      | some (.row tg l _) => match cfg.tagOf t with
        | some tg' => bif Nat.beq tg tg' then Req (inR n l.length) (k (.eptr i n 0 (elM tg) 0)) else False
        | none => False
      | _ => False
    | .sub i lo len m => match HR[i]? with
      | some (.row tg l _) => match cfg.tagOf t with
        | some tg' => bif Nat.beq tg tg' && Nat.beq m (elM tg) then Req (decide (lo + len ≤ l.length)) (Req (inR n len) (k (.eptr i n lo m 0))) else False
        | none => False
      | _ => False
    | .ptr i o => match cfg.ty t with
      | some ⟨.array len E, _, _, _⟩ => match cfg.ty E with
        | some ⟨_, sz, _, _⟩ => Req (inR n len) (splitI n 0 len fun j => k (.ptr i (o + j * sz)))
        | none => False
      | _ => False
    | .asl i o len _ => match cfg.tagOf t with
      | some tg => Req (inR n len) (splitI n 0 len fun j => k (.ptr i (o + j * elM tg)))
      | none => False
    | _ => False
  | _ => False
def loadV (cfg : Cfg) (lk : Option (Blk → Bool)) (HR : Heap) (t : TypeId) (x : V) (k : V → Prop) : Prop :=
  match cfg.ty t with
  | none => False
  | some i => match x with
    | .ptr b o => match HR[b]? with
      | some (.cells T cs) => bif mayRead lk (.cells T cs) then
          (bif isAggD i.desc then bif Nat.ble (o + i.size) cs.length then k (.agg ((cs.drop o).take i.size)) else False
           else match cs[o]? with | some v => k v | none => False)
        else False
      | some (.rcells cs) => bif mayRead lk (.rcells cs) then
          (bif isAggD i.desc then bif Nat.ble (o + i.size) cs.length then k (.agg ((cs.drop o).take i.size)) else False
           else match cs[o]? with | some v => k v | none => False)
        else False
      | _ => False
    | .eptr b n lo m j => match HR[b]? with
      | some (.row tg l ro) => bif mayRead lk (.row tg l ro) && Nat.beq m (elM tg) then Req (inR (offs n lo) l.length)
          (bif isAggD i.desc then
            bif Nat.beq j 0 && Nat.beq i.size m then k (.agg ((elEnc tg (l.getD (offs n lo).toNat (elD tg))).map .ext)) else
            bif Nat.ble (j + i.size) m then k (.agg ((((elEnc tg (l.getD (offs n lo).toNat (elD tg))).drop j).take i.size).map .ext)) else False
           else match (elEnc tg (l.getD (offs n lo).toNat (elD tg)))[j]? with | some v => k (.ext v) | none => False)
        else False
      | _ => False
    | _ => False
def fieldV (cfg : Cfg) (t : TypeId) (x : V) (f : Nat) (k : V → Prop) : Prop :=
  match fieldOff cfg t f with
  | none => False
  | some (off, T) => match cfg.ty T with
    | some i => match x with
      | .agg cs => bif isAggD i.desc then bif Nat.ble (off + i.size) cs.length then k (.agg ((cs.drop off).take i.size)) else False
          else match cs[off]? with | some v => k v | none => False
      | _ => False
    | none => False
def buildGo (cfg : Cfg) (t : TypeId) (env : Env) : List (Nat × Operand) → List V → Option (List V)
  | [], cs => some cs
  | (i, x) :: r, cs => match fieldOff cfg t i with
    | none => none
    | some (off, T) => match cfg.ty T with
      | none => none
      | some inf => bif Nat.beq (vcells (ev env x)).length inf.size && (Nat.ble (off + (vcells (ev env x)).length) cs.length && allLeaf (vcells (ev env x))) then buildGo cfg t env r (setCells cs off (vcells (ev env x))) else none
def buildV (cfg : Cfg) (t : TypeId) (parts : List (Nat × Operand)) (env : Env) (k : V → Prop) : Prop :=
  match cfg.ty t with
  | some ⟨.struct fs, _, zero, _⟩ => bif fs.toList.all (fun f => (cfg.ty f.type).isSome) then match buildGo cfg t env parts (zero.map .ext) with
    | some cs => k (.agg cs)
    | none => False
    else False
  | _ => False
def buildGoP (place : Nat → Option (Nat × Nat)) (env : Env) : List (Nat × Operand) → List V → Option (List V)
  | [], cs => some cs
  | (i, x) :: r, cs => match place i with
    | none => none
    | some (off, sz) => bif Nat.beq (vcells (ev env x)).length sz && (Nat.ble (off + (vcells (ev env x)).length) cs.length && allLeaf (vcells (ev env x))) then buildGoP place env r (setCells cs off (vcells (ev env x))) else none
def buildAV (cfg : Cfg) (t : TypeId) (parts : List (Nat × Operand)) (env : Env) (k : V → Prop) : Prop :=
  match cfg.ty t with
  | some ⟨.array _ E, _, zero, _⟩ => match cfg.ty E with
    | some i => match buildGoP (fun j => some (j * i.size, i.size)) env parts (zero.map .ext) with
      | some cs => k (.agg cs)
      | none => False
    | none => False
  | _ => False
def isArr (cfg : Cfg) (t : TypeId) : Bool := match cfg.ty t with
  | some ⟨.array _ _, _, _, _⟩ => true
  | _ => false
def indexV (cfg : Cfg) (t : TypeId) (x ix : V) (k : V → Prop) : Prop :=
  match ix with
  | .ext (.int _ n) => match x with
    | .agg cs => match cfg.ty t with
      | some ⟨.array len E, _, _, _⟩ => match cfg.ty E with
        | some i => Req (inR n len) (splitI n 0 len fun j => bif isAggD i.desc then bif Nat.ble (j * i.size + i.size) cs.length then k (.agg ((cs.drop (j * i.size)).take i.size)) else False
            else match cs[j * i.size]? with | some v => k v | none => False)
        | none => False
      | _ => False
    | _ => False
  | _ => False
def mapInt (cfg : Cfg) (t : TypeId) : Bool := match cfg.ty t with
  | some ⟨.map K E, _, _, _⟩ => match cfg.ty K, cfg.P.info? E with
    | some ⟨.int .i64, _, _, _⟩, some i => match i.zero with
      | some (.int .i64 (.ofNat 0)) => true
      | _ => false
    | _, _ => false
  | _ => false
def lookupV (cfg : Cfg) (lk : Option (Blk → Bool)) (HR : Heap) (t : TypeId) (x key : V) (commaOk : Bool) (k : V → Prop) : Prop :=
  match x with
  | .mp i => match key with
    | .ext (.int .i64 a) => match HR[i]? with
      | some (.map m n) => bif mapInt cfg t && mayRead lk (.map m n) then k (match commaOk with | true => .tup [vi ((m a).getD 0), vb (m a).isSome] | false => vi ((m a).getD 0)) else False
      | _ => False
    | _ => False
  | _ => False
def entryV (lk : Option (Blk → Bool)) (HR : Heap) (x : V) (k : V → Prop) : Prop :=
  match x with
  | .ptr i 0 => match HR[i]? with
    | some (.iter m left n (some (a, y))) => bif mayRead lk (.iter m left n (some (a, y))) then k (.tup [vi a, vi y]) else False
    | _ => False
  | _ => False
def extractV (x : V) (ix : Nat) (k : V → Prop) : Prop :=
  match x with
  | .tup vs => match vs[ix]? with | some v => k v | none => False
  | _ => False
def nilV (x : V) (k : V → Prop) : Prop :=
  match x with
  | .ptr i o => k (.ptr i o)
  | .eptr i n lo m j => k (.eptr i n lo m j)
  | .fn f caps => k (.fn f caps)
  | .mth f x => k (.mth f x)
  | _ => False
def sliceA (cfg : Cfg) (t : TypeId) (x : V) (lo hi mx : Option Int) (k : V → Prop) : Prop :=
  match x with
  | .ptr i o => match cfg.ty t with
    | some ⟨.array n E, _, _, _⟩ => match cfg.ty E, lo, hi, mx with
      | some _, none, some h, some m => Req (decide (0 ≤ m ∧ m ≤ (n : Int))) (Req (decide (0 ≤ h ∧ h ≤ m)) (Req (decide (0 < m)) (k (.asl i o h.toNat m.toNat))))
      | _, _, _, _ => False
    | _ => False
  | _ => False
def sliceV (cfg : Cfg) (HR : Heap) (t : TypeId) (x : V) (lo hi : Option Int) (k : V → Prop) : Prop :=
  match cfg.tagOf t with
  | none => False
  | some tg => match x with
    | .row i => match lenOf HR (.row i) with
      | some len => sliceOp len len lo hi (fun a n => k (.sub i a n (elM tg)))
      | none => False
    | _ => False
def lenV (cfg : Cfg) (HR : Heap) (t : TypeId) (x : V) (k : V → Prop) : Prop :=
  match cfg.tagOf t with
  | none => False
  | some _ => match lenOf HR x with
    | some n => k (vi (n : Int))
    | none => False
def maxV (x y : V) (k : V → Prop) : Prop :=
  match x, y with
  | .ext (.int .i64 a), .ext (.int .i64 b) => k (vi (if b > a then b else a))
  | _, _ => False
def minV (x y : V) (k : V → Prop) : Prop :=
  match x, y with
  | .ext (.int .i64 a), .ext (.int .i64 b) => k (vi (if b < a then b else a))
  | _, _ => False
def minL : Int → List V → (V → Prop) → Prop
  | a, [], k => k (vi a)
  | a, v :: r, k => match v with
    | .ext (.int .i64 b) => minL (if b < a then b else a) r k
    | _ => False
def pureCall (cfg : Cfg) (HR : Heap) (env : Env) (b : Builtin) (args : List Operand) (ts : List TypeId) (k : V → Prop) : Prop :=
  match b, args, ts with
  | .len, [x], [t] => lenV cfg HR t (ev env x) k
  | .max, [x, y], _ => maxV (ev env x) (ev env y) k
  | .min, [x, y], _ => minV (ev env x) (ev env y) k
  | .min, x :: y :: z :: r, _ => match ev env x with
    | .ext (.int .i64 a) => minL a ((y :: z :: r).map (ev env)) k
    | _ => False
  | _, _, _ => False
def pickV (c : V) (A B : Prop) : Prop :=
  match c with
  | .ext (.bool t) => br t A B
  | _ => False
def isNilC : Operand → Bool
  | .const .nilFunc => true
  | .const (.pointer none) => true
  | .const .nilIface => true
  | _ => false
def nilEq (cfg : Cfg) (t : TypeId) (x : V) (y : Operand) : Option Bool :=
  match y with
  | .const .nilFunc => match cfg.ty t with
    | some ⟨.func _ _ _, _, _, _⟩ => match x with | .fn _ _ => some false | .mth _ _ => some false | .ext .nilFunc => some true | _ => none
    | _ => none
  | .const (.pointer none) => match cfg.ty t with
    | some ⟨.pointer _, _, _, _⟩ => match x with | .ptr _ _ => some false | .eptr _ _ _ _ _ => some false | .ext (.pointer none) => some true | _ => none
    | _ => none
  | .const .nilIface => match cfg.ty t with
    | some ⟨.interface _, _, _, _⟩ => match x with | .ext .nilIface => some true | .ext (.iface _ _) => some false | _ => none
    | _ => none
  | _ => none
def nilCmp (op : BinOp) (r : Option Bool) (k : V → Prop) : Prop :=
  match r with
  | some r => match op with
    | .eql => k (vb r)
    | .neq => k (vb (!r))
    | _ => False
  | none => False
def noJunk : List V → Bool
  | [] => true
  | .junk :: _ => false
  | _ :: r => noJunk r
def pureOp (cfg : Cfg) (lk : Option (Blk → Bool)) (HR : Heap) (o : Oper) (env : Env) (k : V → Prop) : Prop :=
  match o.op with
  | .move x => k (ev env x)
  | .assign x => k (ev env x)
  | .pick c a b => pickV (ev env c) (k (ev env a)) (k (ev env b))
  | .binOp op t x y _ => bif isNilC y then nilCmp op (nilEq cfg t (ev env x) y) k else binV cfg op t (ev env x) (ev env y) k
  | .unOp op _ x => unV op (ev env x) k
  | .convert s t x => convV cfg s t (ev env x) k
  | .fieldAddr s x f => fieldAddrV cfg s (ev env x) f k
  | .indexAddr t x ix => indexAddrV cfg HR t (ev env x) (ev env ix) k
  | .load t a => loadV cfg lk HR t (ev env a) k
  | .field t x f => fieldV cfg t (ev env x) f k
  | .extract x ix => extractV (ev env x) ix k
  | .build t parts => bif isArr cfg t then buildAV cfg t parts.toList env k else buildV cfg t parts.toList env k
  | .index t x ix => indexV cfg t (ev env x) (ev env ix) k
  | .lookup t x ix c => lookupV cfg lk HR t (ev env x) (ev env ix) c k
  | .entry x => entryV lk HR (ev env x) k
  | .makeFunc fn first caps => match fn with
    | .func f => match first.toList with
      | [] => bif noJunk (caps.toList.map (ev env)) then k (.fn f (caps.toList.map (ev env))) else False
      | [x] => bif caps.toList.isEmpty && noJunk [ev env x] then k (.mth f (ev env x)) else False
      | _ => False
    | _ => False
  | .nilCheck x => nilV (ev env x) k
  | .slice t x lo hi mx => match mx, optInt env lo, optInt env hi with
    | none, some lo, some hi => sliceV cfg HR t (ev env x) lo hi k
    | some m, some lo, some hi => match natOf (ev env m) with
      | some m => sliceA cfg t (ev env x) lo hi (some m) k
      | none => False
    | _, _, _ => False
  | .call c => match c.callee with
    | .builtin b => pureCall cfg HR env b c.args.toList c.argTypes.toList k
    | _ => False
  | _ => False
def isLoud (o : Oper) : Bool :=
  match o.op with
  | .alloc _ => true
  | .box _ _ => true
  | .store _ _ _ => true
  | .buildSlice _ _ _ => true
  | .makeSlice _ _ _ => true
  | .makeMap _ _ => true
  | .mapUpdate _ _ _ _ => true
  | .range _ _ => true
  | .next _ _ => true
  | .call c => match c.callee with
    | .builtin .len => false
    | .builtin .max => false
    | .builtin .min => false
    | _ => true
  | _ => false
def idx (ids : List Nat) (i : Nat) : Option Nat :=
  match ids with
  | [] => none
  | a :: r => bif Nat.beq a i then some 0 else match idx r i with | some k => some (k + 1) | none => none
mutual
def V.ids : V → List Nat
  | .ptr i _ => [i]
  | .eptr i _ _ _ _ => [i]
  | .row i => [i]
  | .sub i _ _ _ => [i]
  | .asl i _ _ _ => [i]
  | .mp i => [i]
  | .mth _ x => x.ids
  | .fn _ cs => idsL cs
  | .agg cs => idsL cs
  | .tup cs => idsL cs
  | _ => []
def idsL : List V → List Nat
  | [] => []
  | v :: r => v.ids ++ idsL r
end
mutual
def V.ren (f : Nat → Option Nat) : V → Option V
  | .ext v => some (.ext v)
  | .junk => some .junk
  | .ptr i o => match f i with | some j => some (.ptr j o) | none => none
  | .eptr i k lo m o => match f i with | some j => some (.eptr j k lo m o) | none => none
  | .row i => match f i with | some j => some (.row j) | none => none
  | .sub i a n m => match f i with | some j => some (.sub j a n m) | none => none
  | .asl i o n c => match f i with | some j => some (.asl j o n c) | none => none
  | .mp i => match f i with | some j => some (.mp j) | none => none
  | .mth g x => match x.ren f with | some x => some (.mth g x) | none => none
  | .fn g cs => match renL f cs with | some cs => some (.fn g cs) | none => none
  | .agg cs => match renL f cs with | some cs => some (.agg cs) | none => none
  | .tup cs => match renL f cs with | some cs => some (.tup cs) | none => none
def renL (f : Nat → Option Nat) : List V → Option (List V)
  | [] => some []
  | v :: r => match v.ren f, renL f r with
    | some v, some r => some (v :: r)
    | _, _ => none
end
def Blk.ren (f : Nat → Option Nat) : Blk → Option Blk
  | .dead => some .dead
  | .cells T cs => match renL f cs with | some cs => some (.cells T cs) | none => none
  | .rcells cs => match renL f cs with | some cs => some (.rcells cs) | none => none
  | .row t l ro => some (.row t l ro)
  | .map m n => some (.map m n)
  | .iter m left n c => some (.iter m left n c)
  | .pk tg st xs rs => match renL f rs with | some rs => some (.pk tg st xs rs) | none => none
def Blk.ids : Blk → List Nat
  | .cells _ cs => idsL cs
  | .rcells cs => idsL cs
  | .pk _ _ _ rs => idsL rs
  | _ => []
def mem (i : Nat) : List Nat → Bool
  | [] => false
  | a :: r => Nat.beq a i || mem i r
def addNew (acc : List Nat) : List Nat → List Nat
  | [] => acc
  | i :: r => bif mem i acc then addNew acc r else addNew (acc ++ [i]) r
def idsAt (H : Heap) (i : Nat) : List Nat :=
  match H[i]? with
  | some b => b.ids
  | none => []
def reach (H : Heap) : Nat → List Nat → List Nat
  | 0, acc => acc
  | n + 1, acc => reach H n (addNew acc (acc.flatMap (idsAt H)))
def nodup : List Nat → Bool
  | [] => true
  | a :: r => !mem a r && nodup r
def sel (H : Heap) (f : Nat → Option Nat) : List Nat → Option Heap
  | [] => some []
  | i :: r => match H[i]?, sel H f r with
    | some b, some bs => match b.ren f with | some b => some (b :: bs) | none => none
    | _, _ => none
def rowify (H : Heap) (tg : Option Nat) (v : V) : V × Heap :=
  match tg, v with
  | some t, .ext (.slice none 0 0) => (.row H.length, H ++ [.row t [] false])
  | _, v => (v, H)
def rowifyL (H : Heap) : List (Option Nat × V) → List V × Heap
  | [] => ([], H)
  | (tg, v) :: r => match rowify H tg v with
    | (v, H) => match rowifyL H r with
      | (vs, H) => (v :: vs, H)
def mkEnv : List (Nat × V) → Env
  | [] => fun _ => .junk
  | (t, v) :: r => fun u => bif Nat.beq u t then v else mkEnv r u
def zipKeep : List (Nat × Option Nat) → List V → List (Nat × V)
  | (t, _) :: r, v :: vs => (t, v) :: zipKeep r vs
  | _, _ => []
def gc (pins : Nat) (keep : List (Nat × Option Nat)) (env : Env) (H : Heap) (K : Env → Heap → Prop) : Prop :=
  match rowifyL H (keep.map fun (t, tg) => (tg, env t)) with
  | (vs, H) =>
    let ids := reach H 3 (addNew (List.range pins) (idsL vs))
    match renL (idx ids) vs, sel H (idx ids) ids with
    | some vs, some H => bif nodup ids then K (mkEnv (zipKeep keep vs)) H else False
    | _, _ => False
def selB (f : Nat → Option Nat) : Heap → Option Heap
  | [] => some []
  | b :: r => match b.ren f, selB f r with
    | some b, some r => some (b :: r)
    | _, _ => none
def mergeB (ids : List Nat) (hc bs : Heap) : Nat → Heap → Heap
  | _, [] => []
  | n, b :: r => (match idx ids n with
    | some p => match hc[p]? with
      | some c => bif c.writable then bs.getD p .dead else b
      | none => b
    | none => b) :: mergeB ids hc bs (n + 1) r
def toRO : Blk → Blk
  | .row t l _ => .row t l true
  | b => b
def toRC : Blk → Blk
  | .cells _ cs => .rcells cs
  | b => b
def notRO : Blk → Bool
  | .row _ _ ro => !ro
  | .rcells _ => false
  | _ => true
def ownB : Heap → Heap → Bool
  | _, [] => true
  | c :: hc, b :: bs => (bif c.writable then notRO b else true) && ownB hc bs
  | [], b :: bs => notRO b && ownB [] bs
def nilTag (ro : RO) (k : Nat) : Option Nat := (List.range 128).find? fun tg => ro.c (1000000 + 1000 * k + tg)
def roify (ro : RO) (lk : Option (Blk → Bool)) (k : Nat) (H : Heap) (v : V) (K : V → Heap → Prop) : Prop :=
  match v with
  | .sub i lo n m => match H[i]? with
    | some (.row t l r) => bif r && Nat.beq m (elM t) then Req (decide (lo + n ≤ l.length)) (K (.row H.length) (H ++ [.row t ((l.drop lo).take n) true]))
      else bif ro.c 999999 && (Nat.beq m (elM t) && mayWrite lk (.row t l r)) then Req (decide (lo + n ≤ l.length)) (K (.row H.length) (H.set i (.row t l true) ++ [.row t ((l.drop lo).take n) true]))
      else K (.sub i lo n m) H
    | _ => False
  | .ext (.slice none 0 0) => match nilTag ro k with
    | some tg => K (.row H.length) (H ++ [.row tg [] true])
    | none => K (.ext (.slice none 0 0)) H
  | v => K v H
def roifyL (ro : RO) (lk : Option (Blk → Bool)) : Nat → List V → Heap → (List V → Heap → Prop) → Prop
  | _, [], H, K => K [] H
  | k, v :: r, H, K => roify ro lk k H v fun v H => roifyL ro lk (k + 1) r H fun vs H => K (v :: vs) H
def backOf (n : Nat) (ids : List Nat) (i : Nat) : Option Nat :=
  match ids[i]? with
  | some j => some j
  | none => some (n + (i - ids.length))
def roGo (m c : Nat → Bool) : Nat → Heap → Heap
  | _, [] => []
  | n, b :: r => (bif c n then toRC b else bif m n then b else toRO b) :: roGo m c (n + 1) r
def roB (ro : RO) (H : Heap) : Heap := match ro.b with | true => roGo ro.m ro.c 0 H | false => H
def callC (s : Spec) (args : List V) (H : Heap) (lk : Option (Blk → Bool)) (K : V → Heap → Prop) : Prop :=
  roifyL s.ro lk 0 args H fun args H =>
    let ids := reach H 3 (addNew [] (idsL args))
    match renL (idx ids) args, sel H (idx ids) ids with
    | some args, some H1 => bif nodup ids && allFree lk (roB s.ro H1) then s.tr args (roB s.ro H1) (fun v H' =>
        match v.ren (backOf H.length ids), selB (backOf H.length ids) H' with
        | some v, some Hb => bif Nat.ble ids.length Hb.length && ownB (roB s.ro H1) Hb then K v (mergeB ids (roB s.ro H1) Hb 0 H ++ Hb.drop ids.length) else False
        | _, _ => False) else False
    | _, _ => False
def kill (H : Heap) (i : Nat) : Heap := H.set i .dead
def decAll (t : Nat) (es : List (List Value)) : Option (List (El t)) :=
  match es with
  | [] => some []
  | e :: r => match elDec t e, decAll t r with
    | some x, some xs => some (x :: xs)
    | _, _ => none
def partsOf (env : Env) : List (Nat × Operand) → Nat → Option (List (List Value))
  | [], _ => some []
  | (i, x) :: r, n => bif Nat.beq i n then match extsV (vcells (ev env x)), partsOf env r (n + 1) with
      | some e, some es => some (e :: es)
      | _, _ => none
    else none
def storeV (cfg : Cfg) (lk : Option (Blk → Bool)) (T : TypeId) (a x : V) (H : Heap) (k : Heap → Prop) : Prop :=
  match cfg.ty T with
  | none => False
  | some i => bif allLeaf (vcells x) && Nat.beq (vcells x).length i.size then match a with
    | .ptr b off => match H[b]? with
      | some (.cells T' cs) => bif mayWrite lk (.cells T' cs) && Nat.ble (off + (vcells x).length) cs.length then k (H.set b (.cells T' (setCells cs off (vcells x)))) else False
      | _ => False
    | .eptr b n lo m j => match H[b]? with
      | some (.row tg l ro) => bif mayWrite lk (.row tg l ro) && (!ro && (Nat.ble (j + (vcells x).length) (elM tg) && Nat.beq m (elM tg))) then Req (inR (offs n lo) l.length)
          (match extsV (setCells ((elEnc tg (l.getD (offs n lo).toNat (elD tg))).map .ext) j (vcells x)) with
            | some vs => match elDec tg vs with
              | some y => k (H.set b (.row tg (l.set (offs n lo).toNat y) ro))
              | none => False
            | none => False)
         else False
      | _ => False
    | _ => False
    else False
def appendTo (lk : Option (Blk → Bool)) (tg i : Nat) (H : Heap) (k : V → Heap → Prop) (ty : Nat) (ly : List (El ty)) : Prop :=
  match H[i]? with
  | some (.row tx lx ro) => bif !ro && mayWrite lk (.row tx lx ro) && Nat.beq tx tg then
      (if h : ty = tx then Req (decide (lx.length + ly.length ≤ 1048576)) (k (.row H.length) (kill H i ++ [.row tx (lx ++ h ▸ ly) false])) else False)
    else False
  | _ => False
def appendV (cfg : Cfg) (lk : Option (Blk → Bool)) (t : TypeId) (x y : V) (H : Heap) (k : V → Heap → Prop) : Prop :=
  match cfg.tagOf t with
  | none => False
  | some tg => match x with
    | .sub i 0 n m => match H[i]? with
      | some (.row tx lx ro) => bif !ro && mayWrite lk (.row tx lx ro) && Nat.beq m (elM tx) then
          Req (decide (n ≤ lx.length)) (rowOf H y (appendTo lk tg H.length (kill H i ++ [.row tx (lx.take n) false]) k)) else False
      | _ => False
    | x => match rowify H (some tg) x with
      | (.row i, H) => rowOf H y (appendTo lk tg i H k)
      | _ => False
def copyTo (lk : Option (Blk → Bool)) (tg i lo n : Nat) (H : Heap) (k : V → Heap → Prop) (ty : Nat) (ly : List (El ty)) : Prop :=
  match H[i]? with
  | some (.row tx lx ro) => bif !ro && mayWrite lk (.row tx lx ro) && Nat.beq tx tg then
      (if h : ty = tx then Req (decide (lo + n ≤ lx.length)) (k (vi ((min n ly.length : Nat) : Int)) (H.set i (.row tx (lx.take lo ++ ((h ▸ ly : List (El tx)).take (min n ly.length) ++ lx.drop (lo + min n ly.length))) false))) else False)
    else False
  | _ => False
def copyV (cfg : Cfg) (lk : Option (Blk → Bool)) (t : TypeId) (x y : V) (H : Heap) (k : V → Heap → Prop) : Prop :=
  match cfg.tagOf t with
  | none => False
  | some tg => match x with
    | .row i => match H[i]? with
      | some (.row _ l _) => rowOf H y (copyTo lk tg i 0 l.length H k)
      | _ => False
    | .sub i lo n m => bif Nat.beq m (elM tg) then rowOf H y (copyTo lk tg i lo n H k) else False
    | _ => False
def buildSliceV (cfg : Cfg) (t : TypeId) (n : Nat) (parts : List (Nat × Operand)) (env : Env) (H : Heap) (k : V → Heap → Prop) : Prop :=
  match cfg.tagOf t with
  | none => False
  | some tg => bif Nat.beq n parts.length && Nat.ble n 4096 then match partsOf env parts 0 with
    | some es => match decAll tg es with
      | some l => k (.row H.length) (H ++ [.row tg l false])
      | none => False
    | none => False
    else False
def makeSliceV (cfg : Cfg) (t : TypeId) (len cap : V) (H : Heap) (k : V → Heap → Prop) : Prop :=
  match cfg.tagOf t, len, cap with
  | some tg, .ext (.int .i64 n), .ext (.int .i64 c) => Req (decide (0 ≤ n ∧ n ≤ c ∧ c ≤ 1048576)) (k (.row H.length) (H ++ [.row tg (List.replicate n.toNat (elD tg)) false]))
  | _, _, _ => False
def makeMapV (cfg : Cfg) (t : TypeId) (r : Option V) (H : Heap) (k : V → Heap → Prop) : Prop :=
  match r with
  | none => k (.mp H.length) (H ++ [.map (fun _ => none) 0])
  | some (.ext (.int _ _)) => bif mapInt cfg t then k (.mp H.length) (H ++ [.map (fun _ => none) 0]) else False
  | _ => False
def mapSet (m : Int → Option Int) (a x : Int) : Int → Option Int := fun j => if j = a then some x else m j
def mapUpdateV (cfg : Cfg) (lk : Option (Blk → Bool)) (t : TypeId) (x key v : V) (H : Heap) (k : Heap → Prop) : Prop :=
  match x with
  | .mp i => match key with
    | .ext (.int .i64 a) => match v with
      | .ext (.int .i64 y) => match H[i]? with
        | some (.map m n) => bif mapInt cfg t && mayWrite lk (.map m n) then k (H.set i (.map (mapSet m a y) (n + 1))) else False
        | _ => False
      | _ => False
    | _ => False
  | _ => False
def mapDrop (left : Int → Bool) (a : Int) : Int → Bool := fun b => left b && !(decide (b = a))
def mapHas (m : Int → Option Int) : Int → Bool := fun a => (m a).isSome
def rangeV (cfg : Cfg) (lk : Option (Blk → Bool)) (t : TypeId) (x : V) (H : Heap) (k : V → Heap → Prop) : Prop :=
  match x with
  | .mp i => match H[i]? with
    | some (.map m n) => bif mapInt cfg t && mayWrite lk (.map m n) then k (.ptr H.length 0) (kill H i ++ [.iter m (mapHas m) n none]) else False
    | _ => False
  | _ => False
def nextV (lk : Option (Blk → Bool)) (x : V) (str : Bool) (H : Heap) (k : V → Heap → Prop) : Prop :=
  match x with
  | .ptr i 0 => match H[i]? with
    | some (.iter m left n c) => bif !str && mayWrite lk (.iter m left n c) then (∀ a y : Int, left a = true → m a = some y → decide (0 < n) = true → k (.tup [vb true, vi a, vi y]) (H.set i (.iter m (mapDrop left a) (n - 1) (some (a, y))))) ∧
        ((∀ a : Int, left a = false) → k (.tup [vb false]) H) else False
    | _ => False
  | _ => False
def allocTy (cfg : Cfg) (dst : Option Nat) (T : TypeId) : TypeId := match dst with
  | some d => bif cfg.flag d then T + 1048576 * (d + 1) else T
  | none => T
def allocV (cfg : Cfg) (dst : Option Nat) (T : TypeId) (z : List Value) (H : Heap) (k : V → Heap → Prop) : Prop :=
  match (bif cfg.nilrow then cfg.tagOf T else none), z with
  | some tg, [.slice none 0 0] => k (.ptr (H.length + 1) 0) (H ++ [.row tg [] false] ++ [.cells (allocTy cfg dst T) [.row H.length]])
  | _, z => k (.ptr H.length 0) (H ++ [.cells (allocTy cfg dst T) (z.map .ext)])
def loudOp (cfg : Cfg) (lk : Option (Blk → Bool)) (o : Oper) (env : Env) (H : Heap) (k : V → Heap → Prop) : Prop :=
  match o.op with
  | .alloc T => match cfg.ty T with
    | some i => allocV cfg o.dst T i.zero H k
    | none => False
  | .box T x => bif allLeaf (vcells (ev env x)) then k (.ptr H.length 0) (H ++ [.cells T (vcells (ev env x))]) else False
  | .store T a x => storeV cfg lk T (ev env a) (ev env x) H (k (.ext undef))
  | .buildSlice t n parts => buildSliceV cfg t n parts.toList env H k
  | .makeSlice t len cap => makeSliceV cfg t (ev env len) (ev env cap) H k
  | .makeMap t r => makeMapV cfg t (r.map (ev env)) H k
  | .mapUpdate t m x v => mapUpdateV cfg lk t (ev env m) (ev env x) (ev env v) H (k (.ext undef))
  | .range t x => rangeV cfg lk t (ev env x) H k
  | .next it str => nextV lk (ev env it) str H k
  | .call c => match c.callee with
    | .builtin b => match b, c.args.toList, c.argTypes.toList with
      | .append, [x, y], [t, t'] => bif Nat.beq t t' then appendV cfg lk t (ev env x) (ev env y) H k else False
      | .copy, [x, y], [t, t'] => bif Nat.beq t t' then copyV cfg lk t (ev env x) (ev env y) H k else False
      | _, _, _ => False
    | .value f => match ev env f with
      | .fn g caps => match cfg.sigs g with
        | some s => bif noJunk (c.args.toList.map (ev env)) then callC s (c.args.toList.map (ev env) ++ caps) H lk k else False
        | none => False
      | .mth g x => match cfg.sigs g with
        | some s => bif noJunk (c.args.toList.map (ev env)) then callC s (x :: c.args.toList.map (ev env)) H lk k else False
        | none => False
      | _ => False
    | _ => False
  | _ => False
structure QM where
  quiet : Bool
  late : Nat
def qm0 : QM := ⟨false, 0⟩
def isQuiet (q : QM) (o : Oper) : Bool := bif q.quiet then (match o.op with
  | .call c => (match c.callee with | .value _ => true | _ => false)
  | _ => false) else false
def lkq (q : QM) (i : Nat) (lk : Option (Blk → Bool)) : Option (Blk → Bool) := bif Nat.beq q.late (i + 1) then none else lk
def exOp (cfg : Cfg) (lk : Option (Blk → Bool)) (q : QM) (ea : Bool) (HR : Option Heap) (o : Oper) (env : Env) (H : Heap) (k : V → Heap → Prop) : Prop :=
  bif isLoud o then loudOp cfg (bif isQuiet q o then some (fun _ => true) else lk) o env H k else pureOp cfg (bif ea then none else lk) (match HR with | some H => H | none => H) o env (fun v => k v H)
def depOn (ops : List Oper) (i : Nat) : Nat → Nat → Bool
  | 0, _ => false
  | n + 1, j => match ops[j]? with
    | some o => o.after.toList.any fun e => Region.binds .any e && (Nat.beq e.on i || depOn ops i n e.on)
    | none => false
def early (q : QM) (ops : List Oper) (i : Nat) : Bool :=
  (List.range ops.length).all fun j => match ops[j]? with
    | some o => !(isLoud o && !isQuiet q o) || depOn ops i ops.length j
    | none => true
def exOps (cfg : Cfg) (nt : Nat) (lk : Option (Blk → Bool)) (q : QM) (ea : Nat → Bool) (HR : Option Heap) (ops : List Oper) : List Nat → Env → Heap → (Env → Heap → Prop) → Prop
  | [], env, H, K => K env H
  | i :: rest, env, H, K =>
    match ops[i]? with
    | none => False
    | some o =>
      match o.guard with
      | none => exOp cfg (lkq q i lk) q (ea i) HR o env H (fun v H => exOps cfg nt lk q ea HR ops rest (updO nt env o.dst v) H K)
      | some (j, want) => match ops[j]? with
        | none => False
        | some p => match p.dst with
          | none => False
          | some d => match env d with
            | .ext (.bool b) =>
              let go (env : Env) (w : Bool) : Prop := bif w then exOp cfg (lkq q i lk) q (ea i) HR o env H (fun v H => exOps cfg nt lk q ea HR ops rest (updO nt env o.dst v) H K)
                else exOps cfg nt lk q ea HR ops rest (updO nt env o.dst (.ext undef)) H K
              br b (go (updO nt env (some d) (vb true)) want) (go (updO nt env (some d) (vb false)) (!want))
            | .ext (.tuple vs) => bif vs.toList.isEmpty then exOps cfg nt lk q ea HR ops rest (updO nt env o.dst (.ext undef)) H K else False
            | _ => False
def planGo (ops : Array Oper) : List Nat → Array Bool → Bool
  | [], listed => (Region.ready .any ops listed).isEmpty
  | i :: rest, listed => (match ops[i]? with
    | none => false
    | some o => bif isLoud o then (Region.ready .any ops listed == [i]) else (Region.ready .any ops listed).contains i && Region.free .any ops listed i) &&
      planGo ops rest (listed.setIfInBounds i true)
def planOk (ops : Array Oper) (plan : List Nat) : Bool := Region.noSelect ops && (plan.length == ops.size) && planGo ops plan (Array.replicate ops.size false)
def exOpsT (cfg : Cfg) (nt : Nat) (lk : Option (Blk → Bool)) (q : QM) (ea : Nat → Bool) (HR : Option Heap) (ops : List Oper) : PT → Env → Heap → (Env → Heap → Prop) → Prop
  | .fin, env, H, K => K env H
  | .op i t, env, H, K => exOps cfg nt lk q ea HR ops [i] env H (fun env H => exOpsT cfg nt lk q ea HR ops t env H K)
  | .alt t u, env, H, K => exOpsT cfg nt lk q ea HR ops t env H K ∧ exOpsT cfg nt lk q ea HR ops u env H K
def heads : PT → List Nat
  | .fin => []
  | .op i _ => [i]
  | .alt t u => heads t ++ heads u
def PT.size : PT → Nat
  | .fin => 0
  | .op _ t => t.size + 1
  | .alt t u => max t.size u.size
def loudAt (ops : Array Oper) (i : Nat) : Bool := match ops[i]? with
  | none => false
  | some o => isLoud o
def planGoT (ops : Array Oper) : Bool → PT → Array Bool → Bool
  | b, .fin, listed => !b && (Region.ready .any ops listed).isEmpty
  | b, .op i t, listed => (match ops[i]? with
    | none => false
    | some o => bif isLoud o then (b || Region.ready .any ops listed == [i]) else !b && ((Region.ready .any ops listed).contains i && Region.free .any ops listed i)) &&
      planGoT ops false t (listed.setIfInBounds i true)
  | b, .alt t u, listed => (b || (!(Region.ready .any ops listed).isEmpty && (Region.ready .any ops listed).all fun i => (heads (.alt t u)).contains i)) && (planGoT ops true t listed && planGoT ops true u listed)
def planOkT (ops : Array Oper) (p : PT) : Bool := Region.noSelect ops && Nat.ble p.size ops.size && planGoT ops false p (Array.replicate ops.size false)
inductive Ex where
  | normal
  | exit (id : Nat)
  | ret
def loopM (c : Code) (body : Env → Heap → (Ex → Env → Heap → Prop) → Prop) (g : Env → Heap → (Env → Heap → Prop) → Prop) (K : Ex → Env → Heap → Prop) : Nat → Env → Heap → Prop
  | 0, _, _ => False
  | n + 1, env, H => body env H fun e env H => match e with
    | .normal => g env H (loopM c body g K n)
    | .exit i => K (.exit i) env H
    | .ret => K .ret env H
def LoopQ (c : Code) (body : Env → Heap → (Ex → Env → Heap → Prop) → Prop) (g : Env → Heap → (Env → Heap → Prop) → Prop) (env : Env) (H : Heap) (K : Ex → Env → Heap → Prop) : Prop :=
  ∃ n, loopM c body g K n env H
def firstRegion : Code → Nat
  | .region id _ _ => id
  | .seq a b => match a with
    | .skip => firstRegion b
    | .label _ => firstRegion b
    | _ => firstRegion a
  | .block _ c => firstRegion c
  | .loop c => firstRegion c
  | .scope c => firstRegion c
  | .cond _ a _ => firstRegion a
  | _ => 0
def gcO (pins : Nat) (k : Option (List (Nat × Option Nat))) (env : Env) (H : Heap) (K : Env → Heap → Prop) : Prop :=
  match k with
  | some keep => gc pins keep env H K
  | none => K env H
def blockK (cfg : Cfg) (cx : Cx) (id : Nat) (K : Ex → Env → Heap → Prop) (e : Ex) (env : Env) (H : Heap) : Prop :=
  match e with
  | .exit i => bif Nat.beq i id then gcO cx.pins (cfg.keepB id) env H (K .normal) else K (.exit i) env H
  | .normal => gcO cx.pins (cfg.keepB id) env H (K .normal)
  | .ret => K .ret env H
def lkM (m : Nat) : Blk → Bool
  | .cells T _ => bif Nat.ble m 1 then true else !(bif Nat.ble 1048576 T then Nat.testBit m (T / 1048576) else false)
  | .row _ _ ro => bif Nat.testBit m 0 then ro else true
  | .pk .. => false
  | _ => true
def lkOf : Nat → Blk → Bool
  | 0, _ => true
  | 1, .row _ _ ro => ro
  | 1, _ => true
  | 3, .cells T _ => Nat.blt T 1048576
  | 3, _ => true
  | 4, .cells T _ => !Nat.beq T 0
  | 4, .row _ _ ro => ro
  | 4, _ => true
  | kd, b => bif Nat.ble 16 kd then lkM (kd - 16) b else !b.writable
def kdQ (kd : Nat) : QM := ⟨Nat.beq ((kd / 1099511627776) % 2) 1, kd / 2199023255552⟩
def kdB (kd : Nat) : Nat := kd % 1099511627776
def lateOk (ops : Array Oper) : Nat → Bool
  | 0 => true
  | e + 1 => loudAt ops e && (List.range ops.size).all fun j => Nat.beq j e || depOn ops.toList j ops.toList.length e
def setC (nt : Nat) (env : Env) (c : Operand) (b : Bool) : Env := match c with | .tmp t => updO nt env (some t) (vb b) | _ => env
theorem setC_eq {nt : Nat} {env : Env} {c : Operand} {b : Bool} (h : ev env c = .ext (.bool b)) : setC nt env c b = env := by
  cases c <;> try rfl
  rename_i t
  have h : env t = .ext (.bool b) := h
  unfold setC updO
  simp only
  cases Nat.ble nt t with
  | true => rfl
  | false =>
    funext s
    simp only [upd, cond_false]
    cases hb : Nat.beq s t with
    | true => have hb := Nat.eq_of_beq_eq_true hb; subst hb; rw [cond_true, h]; rfl
    | false => rfl
def ex (cfg : Cfg) (cx : Cx) : Code → Env → Heap → (Ex → Env → Heap → Prop) → Prop
  | .skip, env, H, K => K .normal env H
  | .label _, env, H, K => K .normal env H
  | .region id ops draw, env, H, K => match draw with
    | false => exOps cfg cx.nt none qm0 (fun _ => true) none ops.toList (List.range ops.toList.length) env H (K .normal)
    | true => match cfg.planT id with
     | some (p, kd) => bif planOkT ops p && lateOk ops (kdQ kd).late then exOpsT cfg cx.nt (some (lkOf (kdB kd))) (kdQ kd) (early (kdQ kd) ops.toList) (some H) ops.toList p env H (K .normal) else False
     | none => match cfg.plan id with
      | some (plan, kd) => bif planOk ops plan && lateOk ops (kdQ kd).late then exOps cfg cx.nt (some (lkOf (kdB kd))) (kdQ kd) (early (kdQ kd) ops.toList) (some H) ops.toList plan env H (K .normal) else False
      | none => False
  | .seq a b, env, H, K => ex cfg cx a env H fun e env H => match e with
    | .normal => ex cfg cx b env H K
    | .exit i => K (.exit i) env H
    | .ret => K .ret env H
  | .cond c a b, env, H, K => match ev env c with
    | .ext (.bool t) => br t (ex cfg cx a (setC cx.nt env c true) H K) (ex cfg cx b (setC cx.nt env c false) H K)
    | _ => False
  | .block id c, env, H, K => ex cfg cx c env H (blockK cfg cx id K)
  | .scope c, env, H, K => ex cfg cx c env H K
  | .loop c, env, H, K => gcO cx.pins (cfg.keep (firstRegion c)) env H fun env H => match cfg.unroll (firstRegion c) with
    | some n => loopM c (ex cfg cx c) (gcO cx.pins (cfg.keep (firstRegion c))) K n env H
    | none => LoopQ c (ex cfg cx c) (gcO cx.pins (cfg.keep (firstRegion c))) env H K
  | .exit id, env, H, K => K (.exit id) env H
  | .ret, env, H, K => K .ret env H
  | _, _, _, _ => False
def argEnv (args : List V) : Env := fun t => match args[t]? with | some v => v | none => .ext undef
def cellV (cfg : Cfg) (H : Heap) (t : TypeId) (x : V) : Option V :=
  match cfg.ty t, x with
  | some i, .ptr b o => match H[b]? with
    | some (.cells _ cs) => bif isAggD i.desc then (bif Nat.ble (o + i.size) cs.length then some (.agg ((cs.drop o).take i.size)) else none) else cs[o]?
    | _ => none
  | _, _ => none
def resV (cfg : Cfg) (env : Env) (H : Heap) : List ResultVar → List TypeId → Option (List V × Heap)
  | .tmp t :: r, ty :: tys => match rowify H (cfg.tagOf ty) (env t) with
    | (v, H) => match resV cfg env H r tys with
      | some (vs, H) => some (v :: vs, H)
      | none => none
  | .cell c t :: r, _ :: tys => match cellV cfg H t (env c), resV cfg env H r tys with
    | some v, some (vs, H) => some (v :: vs, H)
    | _, _ => none
  | [], [] => some ([], H)
  | _, _ => none
def one : List V → V
  | [v] => v
  | vs => .tup vs
def retK (cfg : Cfg) (fn : Func) (pins : Nat) (K : V → Heap → Prop) (e : Ex) (env : Env) (H : Heap) : Prop :=
  match e with
  | .exit _ => False
  | _ => match resV cfg env H fn.results.toList fn.resultTypes.toList with
    | none => False
    | some (vs, H) =>
      let ids := reach H 3 (addNew (List.range pins) (idsL vs))
      match renL (idx ids) vs, sel H (idx ids) ids with
      | some vs, some H => bif nodup ids && noJunk vs then K (one vs) H else False
      | _, _ => False
def cxOf (fn : Func) (args : List V) (H : Heap) : Cx := ⟨args.length + (fn.ntmps - args.length), H.length⟩
def exF (cfg : Cfg) (fn : Func) (args : List V) (H : Heap) (K : V → Heap → Prop) : Prop :=
  match fn.body with
  | some c => ex cfg (cxOf fn args H) c (argEnv args) H (retK cfg fn H.length K)
  | none => False
def at_ : Code → List Nat → Code
  | c, [] => c
  | .seq a _, 0 :: p => at_ a p
  | .seq _ b, _ :: p => at_ b p
  | .cond _ a _, 0 :: p => at_ a p
  | .cond _ _ b, _ :: p => at_ b p
  | .block _ c, _ :: p => at_ c p
  | .loop c, _ :: p => at_ c p
  | .scope c, _ :: p => at_ c p
  | c, _ => c
def seqK (cfg : Cfg) (cx : Cx) (b : Code) (K : Ex → Env → Heap → Prop) (e : Ex) (env : Env) (H : Heap) : Prop :=
  match e with
  | .normal => ex cfg cx b env H K
  | .exit i => K (.exit i) env H
  | .ret => K .ret env H
def contK (cfg : Cfg) (cx : Cx) : Code → List Nat → (Ex → Env → Heap → Prop) → Ex → Env → Heap → Prop
  | .seq a b, 0 :: p, K => contK cfg cx a p (seqK cfg cx b K)
  | .seq _ b, _ :: p, K => contK cfg cx b p K
  | .cond _ a _, 0 :: p, K => contK cfg cx a p K
  | .cond _ _ b, _ :: p, K => contK cfg cx b p K
  | .block id c, _ :: p, K => contK cfg cx c p (blockK cfg cx id K)
  | .scope c, _ :: p, K => contK cfg cx c p K
  | _, _, K => K
def Loop (cfg : Cfg) (cx : Cx) (c : Code) (env : Env) (H : Heap) (K : Ex → Env → Heap → Prop) : Prop :=
  LoopQ c (ex cfg cx c) (gcO cx.pins (cfg.keep (firstRegion c))) env H K
def roundK (cfg : Cfg) (cx : Cx) (c : Code) (K : Ex → Env → Heap → Prop) (J : Env → Heap → Prop) (e : Ex) (env : Env) (H : Heap) : Prop :=
  match e with
  | .normal => gcO cx.pins (cfg.keep (firstRegion c)) env H J
  | .exit i => K (.exit i) env H
  | .ret => K .ret env H
def bodyOf (f : Func) : Code := match f.body with | some c => c | none => .ret
end Go.Rx
end

section
namespace Go.Rx
mutual
def V.den (ρ : List Value) : V → Option Value
  | .ext v => some v
  | .junk => none
  | .ptr i off => match ρ[i]? with
    | some (.pointer (some ⟨b, 0, none⟩)) => some (.pointer (some ⟨b, off, none⟩))
    | _ => none
  | .eptr i k lo m j => match ρ[i]? with
    | some (.slice (some a) _ _) => bif decide (0 ≤ k) then some (.pointer (some (a.add ((offs k lo).toNat * m + j)))) else none
    | _ => none
  | .row i => match ρ[i]? with
    | some (.slice a n c) => some (.slice a n c)
    | _ => none
  | .sub i lo n m => match ρ[i]? with
    | some (.slice a _ cap) => some (.slice (if cap = lo then a else a.map (·.add (lo * m))) n (cap - lo))
    | _ => none
  | .asl i o n c => match ρ[i]? with
    | some (.pointer (some ⟨b, 0, none⟩)) => some (.slice (some ⟨b, o, none⟩) n c)
    | _ => none
  | .mp i => match ρ[i]? with
    | some (.map (some b)) => some (.map (some b))
    | _ => none
  | .mth f x => match x.den ρ with
    | some v => some (.func (.func f) #[v] #[])
    | none => none
  | .fn f cs => match denL ρ cs with
    | some vs => some (.func (.func f) #[] vs.toArray)
    | none => none
  | .agg cs => match denL ρ cs with
    | some vs => some (.agg vs.toArray)
    | none => none
  | .tup cs => match denL ρ cs with
    | some vs => some (.tuple vs.toArray)
    | none => none
def denL (ρ : List Value) : List V → Option (List Value)
  | [] => some []
  | v :: r => match v.den ρ, denL ρ r with
    | some x, some xs => some (x :: xs)
    | _, _ => none
end
def Le (ρ ρ' : List Value) : Prop := ∀ (i : Nat) (x : Value), ρ[i]? = some x → ρ'[i]? = some x
theorem Le.refl (ρ : List Value) : Le ρ ρ := fun _ _ h => h
theorem Le.trans {a b c : List Value} (h : Le a b) (k : Le b c) : Le a c := fun i x hx => k i x (h i x hx)
theorem Le.append (ρ r : List Value) : Le ρ (ρ ++ r) := fun i x h => by
  have hi : i < ρ.length := (List.getElem?_eq_some_iff.1 h).1
  rw [List.getElem?_append_left hi]; exact h
mutual
theorem den_le {ρ ρ' : List Value} (h : Le ρ ρ') : ∀ (v : V) (x : Value), v.den ρ = some x → v.den ρ' = some x
  | .ext v, x, e => by simpa [V.den] using e
  | .junk, x, e => by simp [V.den] at e
  | .ptr i off, x, e => by
    simp only [V.den] at e ⊢
    cases hi : ρ[i]? with
    | none => simp [hi] at e
    | some y => rw [h i y hi]; rw [hi] at e; exact e
  | .eptr i k lo m j, x, e => by
    simp only [V.den] at e ⊢
    cases hi : ρ[i]? with
    | none => simp [hi] at e
    | some y => rw [h i y hi]; rw [hi] at e; exact e
  | .row i, x, e => by
    simp only [V.den] at e ⊢
    cases hi : ρ[i]? with
    | none => simp [hi] at e
    | some y => rw [h i y hi]; rw [hi] at e; exact e
  | .sub i lo n m, x, e => by
    simp only [V.den] at e ⊢
    cases hi : ρ[i]? with
    | none => simp [hi] at e
    | some y => rw [h i y hi]; rw [hi] at e; exact e
  | .asl i o n c, x, e => by
    simp only [V.den] at e ⊢
    cases hi : ρ[i]? with
    | none => simp [hi] at e
    | some y => rw [h i y hi]; rw [hi] at e; exact e
  | .mp i, x, e => by
    simp only [V.den] at e ⊢
    cases hi : ρ[i]? with
    | none => simp [hi] at e
    | some y => rw [h i y hi]; rw [hi] at e; exact e
  | .mth f v, x, e => by
    simp only [V.den] at e ⊢
    cases hc : v.den ρ with
    | none => simp [hc] at e
    | some y => rw [den_le h v y hc]; rw [hc] at e; exact e
  | .fn f cs, x, e => by
    simp only [V.den] at e ⊢
    cases hc : denL ρ cs with
    | none => simp [hc] at e
    | some vs => rw [denL_le h cs vs hc]; rw [hc] at e; exact e
  | .agg cs, x, e => by
    simp only [V.den] at e ⊢
    cases hc : denL ρ cs with
    | none => simp [hc] at e
    | some vs => rw [denL_le h cs vs hc]; rw [hc] at e; exact e
  | .tup cs, x, e => by
    simp only [V.den] at e ⊢
    cases hc : denL ρ cs with
    | none => simp [hc] at e
    | some vs => rw [denL_le h cs vs hc]; rw [hc] at e; exact e
theorem denL_le {ρ ρ' : List Value} (h : Le ρ ρ') : ∀ (vs : List V) (xs : List Value), denL ρ vs = some xs → denL ρ' vs = some xs
  | [], xs, e => by simpa [denL] using e
  | v :: r, xs, e => by
    simp only [denL] at e ⊢
    cases hv : v.den ρ with
    | none => simp [hv] at e
    | some x =>
      cases hr : denL ρ r with
      | none => simp [hv, hr] at e
      | some ys => rw [den_le h v x hv, denL_le h r ys hr]; rw [hv, hr] at e; exact e
end
def Rel (ρ : List Value) (v : V) (x : Value) : Prop := v = .junk ∨ v.den ρ = some x
theorem Rel.le {ρ ρ' : List Value} {v : V} {x : Value} (hl : Le ρ ρ') (h : Rel ρ v x) : Rel ρ' v x :=
  h.imp id (den_le hl v x)
def REnv (ρ : List Value) (env : Env) (tmps : Array Value) : Prop := ∀ t, t < tmps.size → Rel ρ (env t) (tmps.getD t undef)
theorem denL_len {ρ : List Value} : ∀ {vs : List V} {xs : List Value}, denL ρ vs = some xs → vs.length = xs.length
  | [], xs, e => by simp [denL] at e; simp [e]
  | v :: r, xs, e => by
    simp only [denL] at e
    cases hv : v.den ρ with
    | none => simp [hv] at e
    | some x =>
      cases hr : denL ρ r with
      | none => simp [hv, hr] at e
      | some ys => simp only [hv, hr] at e; injection e with e; subst e; simp [denL_len hr]
theorem denL_get {ρ : List Value} : ∀ {vs : List V} {xs : List Value}, denL ρ vs = some xs → ∀ (i : Nat) (v : V), vs[i]? = some v → ∃ x, xs[i]? = some x ∧ v.den ρ = some x
  | [], xs, _, i, v, hv => by simp at hv
  | w :: r, xs, e, i, v, hv => by
    simp only [denL] at e
    cases hw : w.den ρ with
    | none => simp [hw] at e
    | some x =>
      cases hr : denL ρ r with
      | none => simp [hw, hr] at e
      | some ys =>
        simp only [hw, hr] at e; injection e with e; subst e
        cases i with
        | zero => simp at hv; subst hv; exact ⟨x, rfl, hw⟩
        | succ i => simp at hv; obtain ⟨y, h1, h2⟩ := denL_get hr i v hv; exact ⟨y, by simpa using h1, h2⟩
theorem denL_append {ρ : List Value} : ∀ {vs ws : List V} {xs ys : List Value}, denL ρ vs = some xs → denL ρ ws = some ys → denL ρ (vs ++ ws) = some (xs ++ ys)
  | [], ws, xs, ys, e, f => by simp [denL] at e; subst e; simpa using f
  | v :: r, ws, xs, ys, e, f => by
    simp only [denL] at e
    cases hv : v.den ρ with
    | none => simp [hv] at e
    | some x =>
      cases hr : denL ρ r with
      | none => simp [hv, hr] at e
      | some zs =>
        simp only [hv, hr] at e; injection e with e; subst e
        simp only [List.cons_append, denL, hv, denL_append hr f]
theorem denL_drop {ρ : List Value} : ∀ {vs : List V} {xs : List Value} (n : Nat), denL ρ vs = some xs → denL ρ (vs.drop n) = some (xs.drop n)
  | vs, xs, 0, e => by simpa using e
  | [], xs, n + 1, e => by simp [denL] at e; subst e; simp [denL]
  | v :: r, xs, n + 1, e => by
    simp only [denL] at e
    cases hv : v.den ρ with
    | none => simp [hv] at e
    | some x =>
      cases hr : denL ρ r with
      | none => simp [hv, hr] at e
      | some zs =>
        simp only [hv, hr] at e; injection e with e; subst e
        simpa using denL_drop n hr
theorem denL_take {ρ : List Value} : ∀ {vs : List V} {xs : List Value} (n : Nat), denL ρ vs = some xs → denL ρ (vs.take n) = some (xs.take n)
  | vs, xs, 0, e => by simp [denL]
  | [], xs, n + 1, e => by simp [denL] at e; subst e; simp [denL]
  | v :: r, xs, n + 1, e => by
    simp only [denL] at e
    cases hv : v.den ρ with
    | none => simp [hv] at e
    | some x =>
      cases hr : denL ρ r with
      | none => simp [hv, hr] at e
      | some zs =>
        simp only [hv, hr] at e; injection e with e; subst e
        simp only [List.take_succ_cons, denL, hv, denL_take n hr]
theorem denL_set {ρ : List Value} : ∀ {vs : List V} {xs : List Value} (n : Nat) (w : V) (y : Value), denL ρ vs = some xs → w.den ρ = some y → denL ρ (vs.set n w) = some (xs.set n y)
  | [], xs, n, w, y, e, f => by simp [denL] at e; subst e; simp [denL]
  | v :: r, xs, n, w, y, e, f => by
    simp only [denL] at e
    cases hv : v.den ρ with
    | none => simp [hv] at e
    | some x =>
      cases hr : denL ρ r with
      | none => simp [hv, hr] at e
      | some zs =>
        simp only [hv, hr] at e; injection e with e; subst e
        cases n with
        | zero => simp [denL, f, hr]
        | succ n => simp [denL, hv, denL_set n w y hr f]
theorem denL_ext {ρ : List Value} (xs : List Value) : denL ρ (xs.map .ext) = some xs := by
  induction xs with
  | nil => simp [denL]
  | cons x r ih => simp [denL, V.den, ih]
theorem extsV_den {ρ : List Value} : ∀ {vs : List V} {xs : List Value}, extsV vs = some xs → denL ρ vs = some xs
  | [], xs, e => by simpa [extsV, denL] using e
  | v :: r, xs, e => by
    simp only [extsV] at e
    cases v with
    | ext y =>
      simp only [extV] at e
      cases hr : extsV r with
      | none => simp [hr] at e
      | some ys => simp only [hr] at e; injection e with e; subst e; simp [denL, V.den, extsV_den hr]
    | _ => simp [extV] at e
theorem elEnc_len : ∀ (t : Nat) (x : El t), (elEnc t x).length = elM t
  | 0, _ => rfl
  | 1, _ => rfl
  | 2, _ => rfl
  | 3, _ => rfl
  | _ + 4, _ => by simp [elEnc, elM]
theorem elM_pos : ∀ t : Nat, 0 < elM t
  | 0 => by decide
  | 1 => by decide
  | 2 => by decide
  | 3 => by decide
  | _ + 4 => by simp [elM]
theorem intsOf_map : ∀ {vs : List Value} {l : List Int}, intsOf vs = some l → l.map i64 = vs
  | [], l, h => by simp only [intsOf, Option.some.injEq] at h; subst h; rfl
  | v :: r, l, h => by
    unfold intsOf at h
    split at h
    · cases ‹_ :: _ = []›
    · rename_i x r' e
      injection e with e1 e2
      subst e1; subst e2
      split at h
      · rename_i l' hl'
        injection h with h; subst h
        simp [intsOf_map hl']
      · cases h
    · cases h
theorem elDec_enc : ∀ (t : Nat) (vs : List Value) (x : El t), elDec t vs = some x → elEnc t x = vs
  | 0, vs, x, h => by
    change decI vs = some x at h; unfold decI at h; split at h
    · injection h with h; subst h; rfl
    · cases h
  | 1, vs, x, h => by
    change decB vs = some x at h; unfold decB at h; split at h
    · injection h with h; subst h; rfl
    · cases h
  | 2, vs, x, h => by
    change decPr vs = some x at h; unfold decPr at h; split at h
    · injection h with h; subst h; rfl
    · cases h
  | 3, vs, x, h => by
    change decEv vs = some x at h; unfold decEv at h; split at h
    · injection h with h; subst h; rfl
    · cases h
  | n + 4, vs, x, h => by
    change (match intsOf vs with | some l => bif Nat.beq l.length (n % 32 + 1) then some l else none | none => none) = some x at h
    split at h
    · rename_i l hl
      cases hb : Nat.beq l.length (n % 32 + 1) with
      | false => rw [hb] at h; cases h
      | true =>
        rw [hb] at h
        injection h with h; subst h
        have hn := Nat.eq_of_beq_eq_true hb
        rw [← intsOf_map hl]
        show (List.range (n % 32 + 1)).map (fun i => i64 (l.getD i 0)) = _
        rw [← hn]
        apply List.ext_getElem?
        intro i
        by_cases hi : i < l.length
        · simp [hi, List.getD]
        · simp [hi]
    · cases h
theorem elEnc_one : ∀ (t : Nat) (x : El t) (v : Value), v ∈ elEnc t x → v.oneCell' = true
  | 0, x, v, h => by simp [elEnc] at h; subst h; rfl
  | 1, x, v, h => by simp [elEnc] at h; subst h; rfl
  | 2, x, v, h => by simp [elEnc] at h; rcases h with h | h <;> subst h <;> rfl
  | 3, x, v, h => by simp [elEnc, encEv] at h; rcases h with h | h | h | h | h | h | h | h | h | h | h | h | h | h | h | h | h | h | h | h | h | h | h <;> subst h <;> rfl
  | _ + 4, x, v, h => by simp only [elEnc, List.mem_map] at h; obtain ⟨i, _, rfl⟩ := h; rfl
def flat (t : Nat) (l : List (El t)) : List Value := l.flatMap (elEnc t)
theorem flat_len (t : Nat) (l : List (El t)) : (flat t l).length = l.length * elM t := by
  unfold flat
  induction l with
  | nil => simp
  | cons x r ih => simp [List.flatMap_cons, ih, elEnc_len, Nat.add_mul, Nat.add_comm]
theorem flat_append (t : Nat) (a b : List (El t)) : flat t (a ++ b) = flat t a ++ flat t b := by simp [flat]
theorem flat_get (t : Nat) (l : List (El t)) (k : Nat) (hk : k < l.length) (j : Nat) (hj : j < elM t) :
    (flat t l)[k * elM t + j]? = (elEnc t (l.getD k (elD t)))[j]? := by
  induction l generalizing k with
  | nil => simp at hk
  | cons x r ih =>
    show (elEnc t x ++ flat t r)[k * elM t + j]? = _
    cases k with
    | zero =>
      simp only [Nat.zero_mul, Nat.zero_add, List.getD_cons_zero]
      rw [List.getElem?_append_left (by rw [elEnc_len]; exact hj)]
    | succ k =>
      simp only [List.getD_cons_succ]
      rw [List.getElem?_append_right (by rw [elEnc_len, Nat.add_mul]; omega), elEnc_len]
      have := ih k (by simpa using hk)
      rw [← this]
      congr 1
      rw [Nat.add_mul]
      omega
theorem flat_one (t : Nat) (l : List (El t)) : ∀ v ∈ flat t l, v.oneCell' = true := by
  intro v hv
  simp only [flat, List.mem_flatMap] at hv
  obtain ⟨x, _, hx⟩ := hv
  exact elEnc_one t x v hx
theorem flat_drop (t : Nat) : ∀ (n : Nat) (l : List (El t)), flat t (l.drop n) = (flat t l).drop (n * elM t)
  | 0, l => by simp
  | n + 1, [] => by simp [flat]
  | n + 1, x :: r => by
    show flat t (r.drop n) = (elEnc t x ++ flat t r).drop _
    rw [flat_drop t n r, Nat.add_mul, List.drop_append]
    simp [elEnc_len]
theorem flat_take (t : Nat) : ∀ (n : Nat) (l : List (El t)), flat t (l.take n) = (flat t l).take (n * elM t)
  | 0, l => by simp [flat]
  | n + 1, [] => by simp [flat]
  | n + 1, x :: r => by
    show elEnc t x ++ flat t (r.take n) = (elEnc t x ++ flat t r).take _
    rw [flat_take t n r, Nat.add_mul, List.take_append]
    simp [elEnc_len]
    rw [List.take_of_length_le (by rw [elEnc_len]; omega)]
def entriesOK (m : Int → Option Int) (es : List MapEntry) (clock : Nat) : Prop :=
  (∀ e ∈ es, ∃ k v, e.key = i64 k ∧ e.val = i64 v ∧ m k = some v) ∧ (∀ k v, m k = some v → ∃ e ∈ es, e.key = i64 k) ∧ es.Pairwise (fun x y => x.key ≠ y.key) ∧
    es.Pairwise (fun x y => x.born ≠ y.born) ∧ ∀ e ∈ es, e.born < clock
def iterOK (left : Int → Bool) (es : List MapEntry) (seen : Array Nat) (n : Nat) : Prop :=
  (∀ e ∈ es, ∀ k, e.key = i64 k → left k = !seen.contains e.born) ∧ (∀ k, left k = true → ∃ e ∈ es, e.key = i64 k) ∧ (es.filter fun e => !seen.contains e.born).length ≤ n
def Blk.holds0 (elT : ET) (ρ : List Value) (w : World) (v : Value) (F : List Nat) : Blk → Prop
  | .dead => F = []
  | .cells _ cs => ∃ b vs, v = .pointer (some ⟨b, 0, none⟩) ∧ F = [b] ∧ denL ρ cs = some vs ∧ ∃ U, w.heap[b]? = some (.cells vs.toArray U (0, 0))
  | .rcells cs => ∃ b vs, v = .pointer (some ⟨b, 0, none⟩) ∧ F = [b] ∧ denL ρ cs = some vs ∧ ∃ U, w.heap[b]? = some (.cells vs.toArray U (0, 0))
  | .row t l true => ∃ a cap, v = .slice a l.length cap ∧ l.length ≤ cap ∧ cap ≤ maxLen ∧ ((a = none → cap = 0) ∧
      ∀ j x, (flat t l)[j]? = some x → ∃ ad, a = some ad ∧ ad.block ∈ F ∧ w.cell? (ad.add j) = some x)
  | .row t l false => w.ownsRow 0 (elT t) (elM t) v l.length (flat t l) ∧ F = v.ownBlock.toList
  | .map m n => ∃ b es clock, v = .map (some b) ∧ F = [b] ∧ w.heap[b]? = some (.map es clock) ∧ entriesOK m es.toList clock ∧ es.size ≤ n
  | .iter m left n cur => ∃ r b es clock seen, v = .pointer (some ⟨r, 0, none⟩) ∧ F = [r, b] ∧ r ≠ b ∧ w.heap[b]? = some (.map es clock) ∧ w.heap[r]? = some (.mapIter (some b) clock seen clock) ∧
      entriesOK m es.toList clock ∧ iterOK left es.toList seen n ∧ ∀ k x, cur = some (k, x) → ∃ (seen' : Array Nat) (e : MapEntry), seen = seen'.push e.born ∧ e ∈ es.toList ∧ e.key = i64 k ∧ e.val = i64 x
  | .pk _ _ _ _ => False
structure Sat0 (elT : ET) (ρ : List Value) (F : Nat → List Nat) (H : Heap) (w : World) : Prop where
  len : ρ.length = H.length
  each : ∀ (i : Nat) (b : Blk) (x : Value), H[i]? = some b → ρ[i]? = some x → b.holds0 elT ρ w x (F i)
  lt : ∀ (i : Nat) (b : Blk), H[i]? = some b → ∀ n ∈ F i, n < w.heap.size
  disj : ∀ (i j : Nat) (bi bj : Blk), H[i]? = some bi → H[j]? = some bj → i ≠ j → bi.writable = true → ∀ n ∈ F i, n ∉ F j
def foot (F : Nat → List Nat) (n : Nat) : List Nat := (List.range n).flatMap F
def Blk.holds (elT : ET) (ρ : List Value) (w : World) (v : Value) (F : List Nat) : Blk → Prop
  | .pk tg st xs rs => ∃ (Hc : Heap) (ρc : List Value) (Fc : Nat → List Nat) (zs : List Value), elT.abs tg st Hc ∧ Sat0 elT ρc Fc Hc w ∧ ρc[0]? = some v ∧ F = foot Fc Hc.length ∧ (∀ (k : Nat) (z : Value), xs[k]? = some z → ρc[k + 1]? = some z) ∧
      denL ρ rs = some zs ∧ ∀ (k : Nat) (z : Value), zs[k]? = some z → ρc[k + 2]? = some z
  | b => b.holds0 elT ρ w v F
structure Sat (elT : ET) (ρ : List Value) (F : Nat → List Nat) (H : Heap) (w : World) : Prop where
  len : ρ.length = H.length
  each : ∀ (i : Nat) (b : Blk) (x : Value), H[i]? = some b → ρ[i]? = some x → b.holds elT ρ w x (F i)
  lt : ∀ (i : Nat) (b : Blk), H[i]? = some b → ∀ n ∈ F i, n < w.heap.size
  disj : ∀ (i j : Nat) (bi bj : Blk), H[i]? = some bi → H[j]? = some bj → i ≠ j → bi.writable = true → ∀ n ∈ F i, n ∉ F j
def SatR (cfg : Cfg) (lk : Option (Blk → Bool)) (ρ : List Value) (F : Nat → List Nat) (H : Heap) (w : World) : Prop :=
  ∀ (i : Nat) (b : Blk), H[i]? = some b → mayRead lk b = true → ∃ x, ρ[i]? = some x ∧ b.holds cfg.elT ρ w x (F i)
theorem Sat.reads {cfg : Cfg} {ρ : List Value} {F : Nat → List Nat} {H : Heap} {w : World} (h : Sat cfg.elT ρ F H w) (lk : Option (Blk → Bool)) : SatR cfg lk ρ F H w := by
  intro i b hb _
  have hi : i < H.length := (List.getElem?_eq_some_iff.1 hb).1
  have hr : i < ρ.length := by rw [h.len]; exact hi
  exact ⟨ρ[i], List.getElem?_eq_getElem hr, h.each i b _ hb (List.getElem?_eq_getElem hr)⟩
theorem Blk.holds0_le {elT : ET} {ρ ρ' : List Value} {w w' : World} {v : Value} {F : List Nat} (hl : Le ρ ρ') (hw : ∀ n ∈ F, w'.heap[n]? = w.heap[n]?) :
    ∀ (b : Blk), b.holds0 elT ρ w v F → b.holds0 elT ρ' w' v F
  | .dead, h => h
  | .cells T cs, ⟨b, vs, h1, h2, h3, h4⟩ => ⟨b, vs, h1, h2, denL_le hl cs vs h3, by rw [hw b (by simp [h2])]; exact h4⟩
  | .rcells cs, ⟨b, vs, h1, h2, h3, h4⟩ => ⟨b, vs, h1, h2, denL_le hl cs vs h3, by rw [hw b (by simp [h2])]; exact h4⟩
  | .row t l true, ⟨a, cap, h1, h2, h3, h5, h4⟩ => ⟨a, cap, h1, h2, h3, h5, fun j x hj => by
      obtain ⟨ad, h5, h6, h7⟩ := h4 j x hj
      refine ⟨ad, h5, h6, ?_⟩
      have hb : (ad.add j).block = ad.block := by unfold Addr.add; split <;> rfl
      rw [World.cell?_of_block (w := w) (by rw [hb]; exact hw _ h6)]
      exact h7⟩
  | .row t l false, ⟨h1, h2⟩ => by
      refine ⟨⟨h1.1, ?_⟩, h2⟩
      rcases h1.2 with h | ⟨g, cap, cur, hv, hg, hh, r⟩
      · exact .inl h
      · exact .inr ⟨g, cap, cur, hv, hg, by rw [hw g (by simp [h2, hv, Value.ownBlock])]; exact hh, r⟩
  | .map m n, ⟨b, es, clock, h1, h2, h3, h4⟩ => ⟨b, es, clock, h1, h2, by rw [hw b (by simp [h2])]; exact h3, h4⟩
  | .iter m left n _, ⟨r, b, es, clock, seen, h1, h2, h3, h4, h5, h6⟩ => ⟨r, b, es, clock, seen, h1, h2, h3, by rw [hw b (by simp [h2])]; exact h4, by rw [hw r (by simp [h2])]; exact h5, h6⟩
  | .pk _ _ _ _, h => h.elim
theorem mem_foot {F : Nat → List Nat} {n i j : Nat} (hi : i < n) (h : j ∈ F i) : j ∈ foot F n := List.mem_flatMap.2 ⟨i, List.mem_range.2 hi, h⟩
theorem Sat0.le {elT : ET} {ρ : List Value} {F : Nat → List Nat} {H : Heap} {w w' : World} (h : Sat0 elT ρ F H w) (hw : ∀ n ∈ foot F H.length, w'.heap[n]? = w.heap[n]?) : Sat0 elT ρ F H w' := by
  have hlen : ∀ (i : Nat) (b : Blk), H[i]? = some b → i < H.length := fun i b hb => (List.getElem?_eq_some_iff.1 hb).1
  refine ⟨h.len, fun i b x hb hx => Blk.holds0_le (Le.refl ρ) (fun n hn => hw n (mem_foot (hlen i b hb) hn)) b (h.each i b x hb hx), fun i b hb n hn => ?_, h.disj⟩
  have h1 := h.lt i b hb n hn
  have h2 := hw n (mem_foot (hlen i b hb) hn)
  rw [Array.getElem?_eq_getElem h1] at h2
  exact (Array.getElem?_eq_some_iff.1 h2).1
theorem Blk.holds_le {elT : ET} {ρ ρ' : List Value} {w w' : World} {v : Value} {F : List Nat} (hl : Le ρ ρ') (hw : ∀ n ∈ F, w'.heap[n]? = w.heap[n]?) :
    ∀ (b : Blk), b.holds elT ρ w v F → b.holds elT ρ' w' v F
  | .pk tg st xs rs, ⟨Hc, ρc, Fc, zs, h1, h2, h3, h4, h5, h6, h7⟩ => ⟨Hc, ρc, Fc, zs, h1, h2.le (by rw [← h4]; exact hw), h3, h4, h5, denL_le hl rs zs h6, h7⟩
  | .dead, h => Blk.holds0_le (elT := elT) (v := v) hl hw .dead h
  | .cells T cs, h => Blk.holds0_le (elT := elT) (v := v) hl hw (.cells T cs) h
  | .row t l ro, h => Blk.holds0_le (elT := elT) (v := v) hl hw (.row t l ro) h
  | .rcells cs, h => Blk.holds0_le (elT := elT) (v := v) hl hw (.rcells cs) h
  | .map m n, h => Blk.holds0_le (elT := elT) (v := v) hl hw (.map m n) h
  | .iter m left n c, h => Blk.holds0_le (elT := elT) (v := v) hl hw (.iter m left n c) h
theorem Blk.holds_of {elT : ET} {ρ : List Value} {w : World} {v : Value} {F : List Nat} : ∀ {b : Blk}, b.holds0 elT ρ w v F → b.holds elT ρ w v F
  | .pk _ _ _ _, h => h.elim
  | .dead, h => h
  | .cells _ _, h => h
  | .rcells _, h => h
  | .row _ _ _, h => h
  | .map _ _, h => h
  | .iter _ _ _ _, h => h
theorem Sat.le {cfg : Cfg} {ρ : List Value} {F : Nat → List Nat} {H : Heap} {w w' : World} (h : Sat cfg.elT ρ F H w)
    (hs : w.heap.size ≤ w'.heap.size) (hw : ∀ (i : Nat) (b : Blk), H[i]? = some b → ∀ n ∈ F i, w'.heap[n]? = w.heap[n]?) : Sat cfg.elT ρ F H w' :=
  ⟨h.len, fun i b x hb hx => Blk.holds_le (Le.refl ρ) (hw i b hb) b (h.each i b x hb hx), fun i b hb n hn => Nat.lt_of_lt_of_le (h.lt i b hb n hn) hs, h.disj⟩
theorem Sat.drew {cfg : Cfg} {ρ : List Value} {F : Nat → List Nat} {H : Heap} {w : World} (h : Sat cfg.elT ρ F H w) : Sat cfg.elT ρ F H w.drew :=
  h.le (Nat.le_refl _) (fun _ _ _ _ _ => rfl)
end Go.Rx
end

section
namespace Go.Rx
structure CfgOK (cfg : Cfg) : Prop where
  small : ∀ (t tg : Nat), cfg.tagOf t = some tg → elM tg ≤ 4096
  tags : ∀ (t tg : Nat), cfg.tagOf t = some tg → cfg.P.underlying t = some (.slice (cfg.elT tg)) ∧ ∃ i z, cfg.P.info? (cfg.elT tg) = some i ∧ i.zero = some z ∧ z.cells = (elEnc tg (elD tg)).toArray ∧ i.size = elM tg ∧ i.bytes ≤ 65536
  mixed : cfg.P.follows .mixedOrders = true
theorem Cfg.ty_spec {cfg : Cfg} {t : TypeId} {i : TyI} (h : cfg.ty t = some i) :
    ∃ inf z, cfg.P.info? t = some inf ∧ cfg.P.underlying t = some i.desc ∧ inf.zero = some z ∧ i.size = inf.size ∧ i.zero = z.cells.toList := by
  unfold Cfg.ty at h
  split at h
  · rename_i inf d h1 h2
    split at h
    · rename_i z hz
      injection h with h
      subst h
      exact ⟨inf, z, h1, h2, hz, rfl, rfl⟩
    · cases h
  · cases h
theorem REnv.ev {ρ : List Value} {env : Env} {a : Act} (hE : ∀ t, Rel ρ (env t) (a.tmps.getD t undef)) (x : Operand) : Rel ρ (ev env x) (a.eval x) := by
  cases x with
  | tmp t => exact hE t
  | const v => exact .inr rfl
  | global g => exact .inr rfl
  | func f => exact .inr (by simp [Rx.ev, V.den, denL, Act.eval])
theorem Rel.den {ρ : List Value} {v : V} {x : Value} (h : Rel ρ v x) (hv : v ≠ .junk) : v.den ρ = some x := h.resolve_left hv
theorem Req_elim {b : Bool} {A : Prop} (h : Req b A) : b = true ∧ A := by
  cases b with
  | true => exact ⟨rfl, h⟩
  | false => exact h.elim
theorem cond_elim {b : Bool} {A : Prop} (h : bif b then A else False) : b = true ∧ A := by
  cases b with
  | true => exact ⟨rfl, h⟩
  | false => exact h.elim
theorem cond_elim' {b : Bool} {A : Prop} (h : bif b then False else A) : b = false ∧ A := by
  cases b with
  | true => exact h.elim
  | false => exact ⟨rfl, h⟩
def Told (k : V → Prop) (ρ : List Value) (S : World → Prop) (P : Program) (m : Sem Value) : Prop :=
  ∃ v x, k v ∧ Rel ρ v x ∧ ∀ w, S w → m.run P w = .ok x w
theorem intOp_sound {P : Program} {op : BinOp} {k : IntKind} {t : TypeId} {a b : Int} {K : Value → Prop} (h : intOp op k a b K) : ∃ v, K v ∧ ∀ w, (binOp op t (.int k a) (.int k b)).run P w = .ok v w := by
  cases op <;> simp only [intOp] at h <;> first
    | exact h.elim
    | exact ⟨_, h, fun w => by simp [binOp, Op.intArith, Op.intCmp, intBits_and, intBits_or, intBits_xor, intBits_andNot]⟩
    | (obtain ⟨hb, h⟩ := Req_elim h
       have hb' : ¬ b = 0 := by simpa using hb
       exact ⟨_, h, fun w => by simp [binOp, Op.intDiv, hb']⟩)
    | (obtain ⟨hb, h⟩ := Req_elim h
       have hb' : 0 ≤ b := by simpa using hb
       exact ⟨_, h, fun w => by simp [binOp, shift_shl_any k k a b hb', shift_shr_any k k a b hb']⟩)
theorem eqGuard_int {P : Program} {op : BinOp} {t : TypeId} {x y : Operand} {k k' : IntKind} {a b : Int} (w : World) : (eqGuard op t x y (.int k a) (.int k' b)).run P w = .ok () w := by
  unfold eqGuard
  split <;> simp
theorem eqGuard_bool {P : Program} {op : BinOp} {t : TypeId} {x y : Operand} {a b : Bool} (w : World) : (eqGuard op t x y (.bool a) (.bool b)).run P w = .ok () w := by
  unfold eqGuard
  split <;> simp
variable {cfg : Cfg} {lk : Option (Blk → Bool)} {HR : Heap} {ρ : List Value} {F : Nat → List Nat} {k : V → Prop}
theorem run_equalIn_bool {P : Program} {t : TypeId} (d : Nat) (h : P.underlying t = some .bool) (a b : Bool) (w : World) : (Op.equalIn (d + 1) t (.bool a) (.bool b)).run P w = .ok (a == b) w := by
  unfold Op.equalIn
  simp only [Sem.run_bind, run_underlying h, Result.andThen_ok, Sem.run_pure]
theorem run_equal_bool {P : Program} {t : TypeId} (h : P.underlying t = some .bool) (a b : Bool) (w : World) : (Op.equal t (.bool a) (.bool b)).run P w = .ok (a == b) w := by
  exact run_equalIn_bool 9999 h a b w
theorem run_eql_bool {P : Program} {t : TypeId} (h : P.underlying t = some .bool) (a b : Bool) (w : World) : (binOp .eql t (.bool a) (.bool b)).run P w = .ok (.bool (a == b)) w := by
  have e : binOp .eql t (.bool a) (.bool b) = (do pure (.bool (← Op.equal t (.bool a) (.bool b)))) := rfl
  rw [e, Sem.run_bind, run_equal_bool h]; rfl
theorem run_neq_bool {P : Program} {t : TypeId} (h : P.underlying t = some .bool) (a b : Bool) (w : World) : (binOp .neq t (.bool a) (.bool b)).run P w = .ok (.bool (!(a == b))) w := by
  have e : binOp .neq t (.bool a) (.bool b) = (do pure (.bool (!(← Op.equal t (.bool a) (.bool b))))) := rfl
  rw [e, Sem.run_bind, run_equal_bool h]; rfl
theorem den_ext {x : Value} {a : Value} (hx : Rel ρ (.ext x) a) : a = x := by
  have ha := hx.den (by simp)
  simp only [V.den, Option.some.injEq] at ha
  exact ha.symm
theorem run_isAgg {P : Program} {t : TypeId} {d : TypeDesc} (h : P.underlying t = some d) (w : World) : (isAgg t).run P w = .ok (isAggD d) w := by
  unfold isAgg
  simp only [Sem.run_bind, run_underlying h, Result.andThen_ok]
  cases d <;> rfl
theorem run_sizeOf' {P : Program} {t : TypeId} {i : TypeInfo} (h : P.info? t = some i) (w : World) : (sizeOf t).run P w = .ok i.size w := by
  simp [sizeOf, typeInfo, h]
theorem run_part' {P : Program} {t : TypeId} {d : TypeDesc} {i : TypeInfo} (hu : P.underlying t = some d) (hi : P.info? t = some i) (cs : List Value) (off : Nat) (w : World) :
    (isAggD d = true → (part t cs.toArray off).run P w = .ok (.agg ((cs.drop off).take i.size).toArray) w) ∧
    (isAggD d = false → ∀ v, cs[off]? = some v → (part t cs.toArray off).run P w = .ok v w) := by
  constructor
  · intro h
    unfold part
    simp only [Sem.run_bind, run_isAgg hu, Result.andThen_ok, h, if_true, run_sizeOf' hi, Sem.run_pure]
    congr 2
    apply Array.ext'
    simp [List.extract_eq_take_drop]
  · intro h v hv
    unfold part
    simp [Sem.run_bind, run_isAgg hu, Result.andThen_ok, h, hv]
theorem eqFsV_sound {xs ys : List V} {vs us : List Value} (hx : denL ρ xs = some vs) (hy : denL ρ ys = some us) {d : Nat} (w : World) : ∀ {fs : List Field} {r : Bool}, eqFsV cfg xs ys fs = some r →
    (Op.eqFields (d + 1) vs.toArray us.toArray fs).run cfg.P w = .ok r w
  | [], r, h => by simp only [eqFsV, Option.some.injEq] at h; subst h; simp [Op.eqFields]
  | f :: fs, r, h => by
    unfold eqFsV at h
    cases hn : (f.name == "_") with
    | true => rw [hn] at h; cases h
    | false =>
      rw [hn] at h
      simp only [cond_false] at h
      have hn' : f.name ≠ "_" := by simpa using hn
      have go : ∀ {desc : TypeDesc} {sz : Nat} {zero : List Value} {by_ : Nat} {a b : Value} {e r' : Bool}, cfg.ty f.type = some ⟨desc, sz, zero, by_⟩ → isAggD desc = false → xs[f.offset]? = some (.ext a) → ys[f.offset]? = some (.ext b) →
          eqFsV cfg xs ys fs = some r' → (∀ u, cfg.P.underlying f.type = some desc → (Op.equalIn (d + 1) f.type a b).run cfg.P u = .ok e u) → (Op.eqFields (d + 1) vs.toArray us.toArray (f :: fs)).run cfg.P w = .ok (e && r') w := by
        intro desc sz zero by_ a b e r' ht hd ha hb hr he
        obtain ⟨inf, z, i1, i2, i3, i4, i5⟩ := Cfg.ty_spec ht
        obtain ⟨x1, hx1, hx2⟩ := denL_get hx _ _ ha
        obtain ⟨y1, hy1, hy2⟩ := denL_get hy _ _ hb
        simp only [V.den, Option.some.injEq] at hx2 hy2
        subst hx2; subst hy2
        have ih := eqFsV_sound hx hy (d := d) w hr
        rw [Op.eqFields]
        simp only [if_pos hn', Sem.run_bind, (run_part' i2 i1 vs f.offset w).2 hd _ hx1, (run_part' i2 i1 us f.offset w).2 hd _ hy1, Result.andThen_ok, he w i2]
        cases e with
        | false => simp
        | true => simpa using ih
      split at h
      · rename_i kx a ky b r' e1 e2 e3 e4
        cases hk : decide (kx = ky) with
        | false => rw [hk] at h; cases h
        | true =>
          rw [hk] at h
          injection h with h; subst h
          have hk' : kx = ky := by simpa using hk
          subst hk'
          exact go e1 rfl e2 e3 e4 (fun u hu => run_equalIn_int u d f.type kx _ a b hu)
      · rename_i a b r' e1 e2 e3 e4
        injection h with h; subst h
        exact go e1 rfl e2 e3 e4 (fun u hu => run_equalIn_bool d hu a b u)
      · cases h
theorem eqFs2_sound {xs ys : List V} {vs us : List Value} (hx : denL ρ xs = some vs) (hy : denL ρ ys = some us) {d : Nat} (w : World) : ∀ {fs : List Field} {r : Bool}, eqFs2 cfg xs ys fs = some r →
    (Op.eqFields (d + 2) vs.toArray us.toArray fs).run cfg.P w = .ok r w
  | [], r, h => by simp only [eqFs2, Option.some.injEq] at h; subst h; simp [Op.eqFields]
  | f :: fs, r, h => by
    unfold eqFs2 at h
    cases hn : (f.name == "_") with
    | true => rw [hn] at h; cases h
    | false =>
      rw [hn] at h
      simp only [cond_false] at h
      have hn' : f.name ≠ "_" := by simpa using hn
      have go : ∀ {desc : TypeDesc} {sz : Nat} {zero : List Value} {by_ : Nat} {a b : Value} {e r' : Bool}, cfg.ty f.type = some ⟨desc, sz, zero, by_⟩ → isAggD desc = false → xs[f.offset]? = some (.ext a) → ys[f.offset]? = some (.ext b) →
          eqFs2 cfg xs ys fs = some r' → (∀ u, cfg.P.underlying f.type = some desc → (Op.equalIn (d + 2) f.type a b).run cfg.P u = .ok e u) → (Op.eqFields (d + 2) vs.toArray us.toArray (f :: fs)).run cfg.P w = .ok (e && r') w := by
        intro desc sz zero by_ a b e r' ht hd ha hb hr he
        obtain ⟨inf, z, i1, i2, i3, i4, i5⟩ := Cfg.ty_spec ht
        obtain ⟨x1, hx1, hx2⟩ := denL_get hx _ _ ha
        obtain ⟨y1, hy1, hy2⟩ := denL_get hy _ _ hb
        simp only [V.den, Option.some.injEq] at hx2 hy2
        subst hx2; subst hy2
        have ih := eqFs2_sound hx hy (d := d) w hr
        rw [Op.eqFields]
        simp only [if_pos hn', Sem.run_bind, (run_part' i2 i1 vs f.offset w).2 hd _ hx1, (run_part' i2 i1 us f.offset w).2 hd _ hy1, Result.andThen_ok, he w i2]
        cases e with
        | false => simp
        | true => simpa using ih
      split at h
      · rename_i kd sz z by_ r' e1 e4
        split at h
        · rename_i kx a ky b e2 e3
          cases hk : decide (kx = ky) with
          | false => rw [hk] at h; cases h
          | true =>
            rw [hk] at h
            injection h with h; subst h
            have hk' : kx = ky := by simpa using hk
            subst hk'
            exact go e1 rfl e2 e3 e4 (fun u hu => run_equalIn_int u (d + 1) f.type kx _ a b hu)
        · cases h
      · rename_i sz z by_ r' e1 e4
        split at h
        · rename_i a b e2 e3
          injection h with h; subst h
          exact go e1 rfl e2 e3 e4 (fun u hu => run_equalIn_bool (d + 1) hu a b u)
        · cases h
      · rename_i gs sz z by_ r' e1 e4
        have hc : cfg.P.stoodInHeld f.type = false := by
          cases hb : cfg.P.stoodInHeld f.type with
          | false => rfl
          | true => rw [hb] at h; cases h
        have hh := h
        rw [hc] at hh
        simp only [Bool.not_false, cond_true] at hh
        split at hh
        · rename_i r1 hr1
          injection hh with hh; subst hh
          obtain ⟨inf, zz, i1, i2, i3, i4, i5⟩ := Cfg.ty_spec e1
          have hfo : cfg.P.fieldsOf f.type = gs := by simp [Program.fieldsOf, i2]
          have ih := eqFs2_sound hx hy (d := d) w e4
          have hsub := eqFsV_sound (d := d) (denL_take sz (denL_drop f.offset hx)) (denL_take sz (denL_drop f.offset hy)) w hr1
          have he : (Op.equalIn (d + 2) f.type (.agg ((vs.drop f.offset).take inf.size).toArray) (.agg ((us.drop f.offset).take inf.size).toArray)).run cfg.P w = .ok r1 w := by
            rw [run_equalIn_struct (P := cfg.P) w (d + 1) f.type _ _ (by rw [hfo]; exact i2) hc, hfo, ← i4]
            exact hsub
          rw [Op.eqFields]
          simp only [if_pos hn', Sem.run_bind, (run_part' i2 i1 vs f.offset w).1 rfl, (run_part' i2 i1 us f.offset w).1 rfl, Result.andThen_ok, he]
          cases r1 with
          | false => simp
          | true => simpa using ih
        · cases hh
      · cases h
theorem eqIsV_sound {xs ys : List V} {vs us : List Value} (hx : denL ρ xs = some vs) (hy : denL ρ ys = some us) {e : TypeId} {kd : IntKind} {sz : Nat} {zero : List Value} {by_ : Nat} (ht : cfg.ty e = some ⟨.int kd, sz, zero, by_⟩) {d : Nat} (w : World) :
    ∀ {is : List Nat} {r : Bool}, eqIsV xs ys sz is = some r → (Op.eqItems (d + 1) e sz vs.toArray us.toArray is).run cfg.P w = .ok r w
  | [], r, h => by simp only [eqIsV, Option.some.injEq] at h; subst h; simp [Op.eqItems]
  | i :: is, r, h => by
    unfold eqIsV at h
    split at h
    · rename_i kx a ky b r' e1 e2 e3
      cases hk : decide (kx = ky) with
      | false => rw [hk] at h; cases h
      | true =>
        rw [hk] at h
        injection h with h; subst h
        have hk' : kx = ky := by simpa using hk
        subst hk'
        obtain ⟨inf, z, i1, i2, i3, i4, i5⟩ := Cfg.ty_spec ht
        obtain ⟨x1, hx1, hx2⟩ := denL_get hx _ _ e1
        obtain ⟨y1, hy1, hy2⟩ := denL_get hy _ _ e2
        simp only [V.den, Option.some.injEq] at hx2 hy2
        subst hx2; subst hy2
        have ih := eqIsV_sound hx hy ht (d := d) w e3
        rw [Op.eqItems]
        simp only [Sem.run_bind, (run_part' i2 i1 vs (i * sz) w).2 rfl _ hx1, (run_part' i2 i1 us (i * sz) w).2 rfl _ hy1, Result.andThen_ok, run_equalIn_int w d e kx _ a b i2]
        cases a == b with
        | false => simp
        | true => simpa using ih
    · cases h
theorem binV_sound {op : BinOp} {t : TypeId} {x y : V} {a b : Value} (X Y : Operand) (h : binV cfg op t x y k) (hx : Rel ρ x a) (hy : Rel ρ y b) (S : World → Prop) :
    Told k ρ S cfg.P (do eqGuard op t X Y a b; binOp op t a b) := by
  unfold binV at h
  split at h
  · rename_i kx a' ky b'
    have h1 := cond_elim h
    have hk : kx = ky := by simpa using h1.1
    have ha := den_ext hx; have hb := den_ext hy
    obtain ⟨v, hv, hr⟩ := intOp_sound (P := cfg.P) (t := t) h1.2
    refine ⟨_, _, hv, .inr rfl, fun w _ => ?_⟩
    rw [ha, hb, ← hk]
    simp only [Sem.run_bind, eqGuard_int, Result.andThen_ok, hr w]
  · rename_i a' b'
    have ha := den_ext hx; have hb := den_ext hy
    split at h
    · rename_i hty
      obtain ⟨inf, z, h1, h2, h3, h4, h5⟩ := Cfg.ty_spec hty
      refine ⟨_, _, h, .inr rfl, fun w _ => ?_⟩
      rw [ha, hb]
      simp only [Sem.run_bind, eqGuard_bool, Result.andThen_ok, run_eql_bool h2]
    · rename_i hty
      obtain ⟨inf, z, h1, h2, h3, h4, h5⟩ := Cfg.ty_spec hty
      refine ⟨_, _, h, .inr rfl, fun w _ => ?_⟩
      rw [ha, hb]
      simp only [Sem.run_bind, eqGuard_bool, Result.andThen_ok, run_neq_bool h2]
    · exact h.elim
  · rename_i xs ys
    have ha := hx.den (by simp)
    have hb := hy.den (by simp)
    simp only [V.den] at ha hb
    split at ha
    · rename_i vs hvs
      injection ha with ha; subst ha
      split at hb
      · rename_i us hus
        injection hb with hb; subst hb
        split at h
        · rename_i fs _ _ _ hty
          obtain ⟨inf, z, h1, h2, h3, h4, h5⟩ := Cfg.ty_spec hty
          have hq := cond_elim h
          have hc := hq.1
          simp only [Bool.and_eq_true, Bool.not_eq_true'] at hc
          have hh := hq.2
          have hfo : cfg.P.fieldsOf t = fs := by simp [Program.fieldsOf, h2]
          split at hh
          · rename_i r hr
            have hrun : ∀ w, (Op.equalIn 10000 t (.agg vs.toArray) (.agg us.toArray)).run cfg.P w = .ok r w := fun w => by
              rw [run_equalIn_struct (P := cfg.P) w 9999 t _ _ (by rw [hfo]; exact h2) hc.1, hfo]
              exact eqFs2_sound hvs hus (d := 9997) w hr
            split at hh
            · refine ⟨_, _, hh, .inr rfl, fun w _ => ?_⟩
              simp only [Sem.run_bind, run_eqGuard_agg (P := cfg.P) w .eql t X Y _ _ hc.2, Result.andThen_ok, run_eql_struct (P := cfg.P) w t, hrun w]
            · refine ⟨_, _, hh, .inr rfl, fun w _ => ?_⟩
              simp only [Sem.run_bind, run_eqGuard_agg (P := cfg.P) w .neq t X Y _ _ hc.2, Result.andThen_ok, run_neq_struct (P := cfg.P) w t, hrun w]
            · exact hh.elim
          · exact hh.elim
        · rename_i n e _ _ _ hty
          obtain ⟨inf, z, h1, h2, h3, h4, h5⟩ := Cfg.ty_spec hty
          have hq := cond_elim h
          have hc := hq.1
          simp only [Bool.not_eq_true'] at hc
          have hh := hq.2
          split at hh
          · rename_i kd sz _ _ hte
            obtain ⟨inf2, z2, g1, g2, g3, g4, g5⟩ := Cfg.ty_spec hte
            have hco : cfg.P.cellsOf e = sz := by simp only [Program.cellsOf, g1]; exact g4.symm
            split at hh
            · rename_i r hr
              have hrun : ∀ w, (Op.equalIn 10000 t (.agg vs.toArray) (.agg us.toArray)).run cfg.P w = .ok r w := fun w => by
                rw [run_equalIn_array (P := cfg.P) w 9999 _ _ h2 g1, hco]
                exact eqIsV_sound hvs hus hte (d := 9998) w hr
              split at hh
              · refine ⟨_, _, hh, .inr rfl, fun w _ => ?_⟩
                simp only [Sem.run_bind, run_eqGuard_agg (P := cfg.P) w .eql t X Y _ _ hc, Result.andThen_ok, run_eql_struct (P := cfg.P) w t, hrun w]
              · refine ⟨_, _, hh, .inr rfl, fun w _ => ?_⟩
                simp only [Sem.run_bind, run_eqGuard_agg (P := cfg.P) w .neq t X Y _ _ hc, Result.andThen_ok, run_neq_struct (P := cfg.P) w t, hrun w]
              · exact hh.elim
            · exact hh.elim
          · exact hh.elim
        · exact h.elim
      · cases hb
    · cases ha
  · exact h.elim
theorem unV_sound {op : UnOp} {x : V} {a : Value} (h : unV op x k) (hx : Rel ρ x a) (S : World → Prop) : Told k ρ S cfg.P (Op.unary op a) := by
  unfold unV at h
  split at h
  · have ha := hx.den (by simp)
    simp only [V.den, Option.some.injEq] at ha
    subst ha
    exact ⟨_, _, h, .inr rfl, fun w _ => by simp [Op.unary]⟩
  · have ha := hx.den (by simp)
    simp only [V.den, Option.some.injEq] at ha
    subst ha
    exact ⟨_, _, h, .inr rfl, fun w _ => by simp [Op.unary, Op.intArith]⟩
  · exact h.elim
theorem convV_sound {s t : TypeId} {x : V} {a : Value} (h : convV cfg s t x k) (hx : Rel ρ x a) (S : World → Prop) : Told k ρ S cfg.P (convert s t a) := by
  unfold convV at h
  split at h
  · have ha := hx.den (by simp)
    simp only [V.den, Option.some.injEq] at ha
    subst ha
    split at h
    · rename_i hs ht
      obtain ⟨inf, z, h1, h2, h3, h4, h5⟩ := Cfg.ty_spec hs
      obtain ⟨inf', z', h1', h2', h3', h4', h5'⟩ := Cfg.ty_spec ht
      exact ⟨_, _, h, .inr rfl, fun w _ => by simp [convert, run_underlying h2, run_underlying h2', Conv.intToInt]⟩
    · exact h.elim
  · exact h.elim
theorem fieldOff_spec {s : TypeId} {f off : Nat} {T : TypeId} (h : fieldOff cfg s f = some (off, T)) :
    ∃ fs fd, cfg.P.underlying s = some (.struct fs) ∧ fs[f]? = some fd ∧ fd.offset = off ∧ fd.type = T := by
  unfold fieldOff at h
  split at h
  · rename_i fs _ _ _ hty
    obtain ⟨inf, z, h1, h2, h3, h4, h5⟩ := Cfg.ty_spec hty
    split at h
    · rename_i fd hf
      injection h with h
      injection h with ha hb
      exact ⟨fs, fd, h2, by rw [← Array.getElem?_toList]; exact hf, ha, hb⟩
    · cases h
  · cases h
theorem add_add (a : Addr) (x y : Nat) : (a.add x).add y = a.add (x + y) := by
  unfold Addr.add
  by_cases hx : x = 0
  · subst hx; simp
  · by_cases hy : y = 0
    · subst hy; simp [hx]
    · have : ¬ (x + y = 0) := by omega
      simp [hx, hy, Nat.add_assoc]
theorem add_lit0 (b o n : Nat) : (⟨b, o, none⟩ : Addr).add n = ⟨b, o + n, none⟩ := by
  unfold Addr.add; split <;> simp_all
theorem den_ptr {i o : Nat} {a : Value} (hx : Rel ρ (.ptr i o) a) : ∃ b, ρ[i]? = some (.pointer (some ⟨b, 0, none⟩)) ∧ a = .pointer (some ⟨b, o, none⟩) := by
  have ha := hx.den (by simp)
  simp only [V.den] at ha
  split at ha
  · rename_i b hb; injection ha with ha; exact ⟨b, hb, ha.symm⟩
  · cases ha
theorem den_eptr {i lo m j : Nat} {n : Int} {a : Value} (hx : Rel ρ (.eptr i n lo m j) a) :
    ∃ ad len cap, ρ[i]? = some (.slice (some ad) len cap) ∧ 0 ≤ n ∧ a = .pointer (some (ad.add ((offs n lo).toNat * m + j))) := by
  have ha := hx.den (by simp)
  simp only [V.den] at ha
  split at ha
  · rename_i ad len cap hb
    cases hk : decide (0 ≤ n) with
    | false => rw [hk] at ha; cases ha
    | true => rw [hk] at ha; injection ha with ha; exact ⟨ad, len, cap, hb, by simpa using hk, ha.symm⟩
  · cases ha
theorem den_sub {i lo n m : Nat} {a : Value} (hx : Rel ρ (.sub i lo n m) a) :
    ∃ ad len cap, ρ[i]? = some (.slice ad len cap) ∧ a = .slice (if cap = lo then ad else ad.map (·.add (lo * m))) n (cap - lo) := by
  have ha := hx.den (by simp)
  simp only [V.den] at ha
  split at ha
  · rename_i ad len cap hb; injection ha with ha; exact ⟨ad, len, cap, hb, ha.symm⟩
  · cases ha
theorem den_asl {i o n c : Nat} {a : Value} (hx : Rel ρ (.asl i o n c) a) : ∃ b, ρ[i]? = some (.pointer (some ⟨b, 0, none⟩)) ∧ a = .slice (some ⟨b, o, none⟩) n c := by
  have ha := hx.den (by simp)
  simp only [V.den] at ha
  split at ha
  · rename_i b hb; injection ha with ha; exact ⟨b, hb, ha.symm⟩
  · cases ha
theorem den_mp {i : Nat} {a : Value} (hx : Rel ρ (.mp i) a) : ∃ b, ρ[i]? = some (.map (some b)) ∧ a = .map (some b) := by
  have ha := hx.den (by simp)
  simp only [V.den] at ha
  split at ha
  · rename_i b hb; injection ha with ha; exact ⟨b, hb, ha.symm⟩
  · cases ha
theorem mk_mp {i b : Nat} (h : ρ[i]? = some (.map (some b))) : Rel ρ (.mp i) (.map (some b)) := .inr (by simp only [V.den, h])
theorem mk_asl {i o n c b : Nat} (h : ρ[i]? = some (.pointer (some ⟨b, 0, none⟩))) : Rel ρ (.asl i o n c) (.slice (some ⟨b, o, none⟩) n c) := .inr (by simp only [V.den, h])
theorem mk_ptr {i o b : Nat} (h : ρ[i]? = some (.pointer (some ⟨b, 0, none⟩))) : Rel ρ (.ptr i o) (.pointer (some ⟨b, o, none⟩)) := .inr (by simp only [V.den, h])
theorem mk_eptr {i lo m j len cap : Nat} {n : Int} {ad : Addr} (h : ρ[i]? = some (.slice (some ad) len cap)) (hn : 0 ≤ n) : Rel ρ (.eptr i n lo m j) (.pointer (some (ad.add ((offs n lo).toNat * m + j)))) := .inr (by simp only [V.den, h, hn, decide_true, cond_true])
theorem mk_sub {i lo n m len cap : Nat} {ad : Option Addr} (h : ρ[i]? = some (.slice ad len cap)) : Rel ρ (.sub i lo n m) (.slice (if cap = lo then ad else ad.map (·.add (lo * m))) n (cap - lo)) := .inr (by simp only [V.den, h])
theorem fieldAddrV_sound {s : TypeId} {f : Nat} {x : V} {a : Value} (h : fieldAddrV cfg s x f k) (hx : Rel ρ x a) (S : World → Prop) : Told k ρ S cfg.P (Instr.fieldAt s a f) := by
  unfold fieldAddrV at h
  split at h
  · exact h.elim
  · rename_i off T hf
    obtain ⟨fs, fd, h1, h2, rfl, rfl⟩ := fieldOff_spec hf
    split at h
    · exact h.elim
    · rename_i i hi
      obtain ⟨inf, z, i1, i2, i3, i4, i5⟩ := Cfg.ty_spec hi
      have hh := cond_elim' h
      have hz : inf.size ≠ 0 := by rw [← i4]; intro e; have := hh.1; rw [e] at this; simp at this
      have h := hh.2
      split at h
      · obtain ⟨b, hb, rfl⟩ := den_ptr hx
        refine ⟨_, _, h, mk_ptr hb, fun w _ => ?_⟩
        simp [Instr.fieldAt, run_underlying h1, h2, Instr.sureAddr, fieldPlace, sizeOf, typeInfo, i1, hz, add_lit0]
      · obtain ⟨ad, len, cap, hb, hn, rfl⟩ := den_eptr hx
        refine ⟨_, _, h, mk_eptr hb hn, fun w _ => ?_⟩
        simp [Instr.fieldAt, run_underlying h1, h2, Instr.sureAddr, fieldPlace, sizeOf, typeInfo, i1, hz, add_add, Nat.add_assoc]
      · exact h.elim
theorem row_val {t : Nat} {l : List (El t)} {ro : Bool} {w : World} {x : Value} {G : List Nat} (h : (Blk.row t l ro).holds cfg.elT ρ w x G) :
    ∃ a cap, x = .slice a l.length cap ∧ l.length ≤ cap ∧ cap ≤ maxLen ∧ (a = none → cap = 0) ∧
      ∀ j y, (flat t l)[j]? = some y → ∃ ad, a = some ad ∧ ad.block ∈ G ∧ w.cell? (ad.add j) = some y := by
  cases ro with
  | true => obtain ⟨a, cap, h1, h2, h3, h4, h5⟩ := h; exact ⟨a, cap, h1, h2, h3, h4, h5⟩
  | false =>
    obtain ⟨h1, h2⟩ := h
    rcases h1.2 with ⟨rfl, hn⟩ | ⟨g, cap, cur, rfl, _, hh, hc, hm, hs, ht⟩
    · have : l = [] := List.eq_nil_of_length_eq_zero hn
      subst this
      exact ⟨none, 0, rfl, by simp, by simp, fun _ => rfl, fun j y hy => by simp [flat] at hy⟩
    · refine ⟨_, cap, rfl, hc, hm, (fun h => by cases h), fun j y hy => ⟨_, rfl, ?_, h1.cells (g := g) rfl j y hy⟩⟩
      simp [h2, Value.ownBlock]
theorem inR_spec {n : Int} {len : Nat} (h : inR n len = true) : 0 ≤ n ∧ n < (len : Int) := by simpa [inR] using h
theorem den_row {i : Nat} {a : Value} (hx : Rel ρ (.row i) a) : ρ[i]? = some a := by
  have ha := hx.den (by simp)
  simp only [V.den] at ha
  split at ha
  · rename_i h; injection ha with ha; rw [h, ha]
  · cases ha
def RowShape (ρ : List Value) (H : Heap) : Prop :=
  ∀ (i t : Nat) (l : List (El t)) (ro : Bool), H[i]? = some (.row t l ro) → ∃ a cap, ρ[i]? = some (.slice a l.length cap) ∧ l.length ≤ cap ∧ cap ≤ maxLen ∧ (a = none → cap = 0)
theorem Sat.shape {elT : ET} {H : Heap} {w : World} (h : Sat elT ρ F H w) : RowShape ρ H := by
  intro i t l ro hb
  have hi : i < ρ.length := by rw [h.len]; exact (List.getElem?_eq_some_iff.1 hb).1
  obtain ⟨a, cap, e, h1, h2, h3, _⟩ := row_val (cfg := ⟨default, fun _ => none, elT, fun _ => none, fun _ => none, fun _ => none, fun _ => none, fun _ => none, fun _ => false, fun _ => none, false⟩) (h.each i _ _ hb (List.getElem?_eq_getElem hi))
  exact ⟨a, cap, by rw [List.getElem?_eq_getElem hi, e], h1, h2, h3⟩
theorem RowShape.le {ρ' : List Value} {H : Heap} (h : RowShape ρ H) (hl : Le ρ ρ') : RowShape ρ' H := fun i t l ro hb =>
  let ⟨a, cap, h1, h2⟩ := h i t l ro hb; ⟨a, cap, hl i _ h1, h2⟩
theorem splitI_elim {n : Int} {k : Nat → Prop} : ∀ {c a : Nat}, splitI n a c k → (a : Int) ≤ n → n < (a : Int) + (c : Int) → k n.toNat
  | 0, a, _, h1, h2 => by omega
  | c + 1, a, h, h1, h2 => by
    unfold splitI br at h
    by_cases e : n = (a : Int)
    · subst e
      simp only [beq_self_eq_true] at h
      simpa using h
    · have eb : (n == (a : Int)) = false := by simp [e]
      rw [eb] at h
      exact splitI_elim h (by omega) (by omega)
theorem indexAddrV_sound (ok : CfgOK cfg) {t : TypeId} {x ix : V} {a b : Value} (h : indexAddrV cfg HR t x ix k) (hx : Rel ρ x a) (hi : Rel ρ ix b)
    (hS : RowShape ρ HR) (S : World → Prop) : Told k ρ S cfg.P (Instr.indexAt t a b) := by
  unfold indexAddrV at h
  split at h
  · rename_i kd n
    have hb := den_ext hi
    subst hb
    split at h
    · rename_i i
      split at h
      · rename_i tg l ro hH
        split at h
        · rename_i tg' ht
          have hc := cond_elim h
          obtain rfl := Nat.eq_of_beq_eq_true hc.1
          have hr := Req_elim hc.2
          obtain ⟨h0, h1⟩ := inR_spec hr.1
          obtain ⟨u1, inf, z, u2, u3, u4, u5, u6⟩ := ok.tags t tg ht
          have ha := den_row hx
          obtain ⟨ad, cap, hx1, hcap, hcm, hnone⟩ := hS i _ _ _ hH
          rw [ha] at hx1; injection hx1 with hx1; subst hx1
          cases ad with
          | none => have := hnone rfl; omega
          | some ad =>
            refine ⟨_, _, hr.2, mk_eptr ha h0, fun w hw => ?_⟩
            simp [Instr.indexAt, run_underlying u1, asIntOf, h0, h1, sizeOf, typeInfo, u2, u5, offs]
        · exact h.elim
      · exact h.elim
    · rename_i i lo len m
      split at h
      · rename_i tg l ro hH
        split at h
        · rename_i tg' ht
          have hc := cond_elim h
          have hc1 := hc.1
          simp only [Bool.and_eq_true] at hc1
          obtain ⟨hc1, hc2⟩ := hc1
          obtain rfl := Nat.eq_of_beq_eq_true hc1
          obtain rfl := Nat.eq_of_beq_eq_true hc2
          have hq := Req_elim hc.2
          have hq1 : lo + len ≤ l.length := by simpa using hq.1
          have hr := Req_elim hq.2
          obtain ⟨h0, h1⟩ := inR_spec hr.1
          obtain ⟨u1, inf, z, u2, u3, u4, u5, u6⟩ := ok.tags t tg ht
          obtain ⟨ad, len', cap, hb, rfl⟩ := den_sub hx
          obtain ⟨ad', cap', hx1, hcap, hcm, hnone⟩ := hS i _ _ _ hH
          rw [hb] at hx1; injection hx1 with hx1
          injection hx1 with e1 e2 e3
          subst e1; subst e2; subst e3
          cases ad with
          | none => have := hnone rfl; omega
          | some ad =>
            have hne : ¬ cap = lo := by omega
            refine ⟨_, _, hr.2, mk_eptr hb h0, fun w hw => ?_⟩
            have e : (offs n lo).toNat * elM tg + 0 = lo * elM tg + n.toNat * elM tg := by
              rw [Nat.add_zero, ← Nat.add_mul]
              congr 1
              cases lo <;> simp only [offs] <;> omega
            rw [e]
            simp [Instr.indexAt, run_underlying u1, asIntOf, h0, h1, sizeOf, typeInfo, u2, u5, hne, add_add]
        · exact h.elim
      · exact h.elim
    · rename_i i o
      split at h
      · rename_i len E _ _ _ ht
        split at h
        · rename_i sz _ _ hE
          have hr := Req_elim h
          obtain ⟨h0, h1⟩ := inR_spec hr.1
          obtain ⟨inf, z, i1, i2, i3, i4, i5⟩ := Cfg.ty_spec ht
          obtain ⟨inf', z', j1, j2, j3, j4, j5⟩ := Cfg.ty_spec hE
          obtain ⟨b, hb, rfl⟩ := den_ptr hx
          refine ⟨_, _, splitI_elim hr.2 (by omega) (by omega), mk_ptr hb, fun w _ => ?_⟩
          simp only at i2 j4
          simp [Instr.indexAt, run_underlying i2, asIntOf, Instr.sureAddr, h0, h1, sizeOf, typeInfo, j1, ← j4, add_lit0]
        · exact h.elim
      · exact h.elim
    · rename_i i o len c
      split at h
      · rename_i tg ht
        have hr := Req_elim h
        obtain ⟨h0, h1⟩ := inR_spec hr.1
        obtain ⟨u1, inf, z, u2, u3, u4, u5, u6⟩ := ok.tags t tg ht
        obtain ⟨b, hb, rfl⟩ := den_asl hx
        refine ⟨_, _, splitI_elim hr.2 (by omega) (by omega), mk_ptr hb, fun w _ => ?_⟩
        simp [Instr.indexAt, run_underlying u1, asIntOf, h0, h1, sizeOf, typeInfo, u2, u5, add_lit0]
      · exact h.elim
    · exact h.elim
  · exact h.elim
theorem run_loadVar_agg {P : Program} {t : TypeId} {d : TypeDesc} {i : TypeInfo} {w : World} (hu : P.underlying t = some d) (hi : P.info? t = some i) (ha : isAggD d = true) (a : Addr) (cs : List Value) (hl : cs.length = i.size)
    (hc : ∀ j v, cs[j]? = some v → w.cell? (a.add j) = some v) : (loadVar t a).run P w = .ok (.agg cs.toArray) w := by
  have h := run_loadCells_list (P := P) w a cs hc
  rw [hl] at h
  unfold loadVar
  simp only [Sem.run_bind, run_isAgg hu, Result.andThen_ok, ha, if_true, run_sizeOf' hi, h, Sem.run_pure]
theorem run_loadVar_cell {P : Program} {t : TypeId} {d : TypeDesc} {w : World} (hu : P.underlying t = some d) (ha : isAggD d = false) (a : Addr) (v : Value)
    (hc : w.cell? a = some v) : (loadVar t a).run P w = .ok v w := by
  unfold loadVar
  simp [Sem.run_bind, run_isAgg hu, Result.andThen_ok, ha, hc]
theorem cells_get {T : TypeId} {cs : List V} {w : World} {x : Value} {G : List Nat} (h : (Blk.cells T cs).holds cfg.elT ρ w x G) :
    ∃ b vs, x = .pointer (some ⟨b, 0, none⟩) ∧ denL ρ cs = some vs ∧ ∀ j, w.cell? ⟨b, j, none⟩ = vs[j]? := by
  obtain ⟨b, vs, h1, h2, h3, U, h4⟩ := h
  exact ⟨b, vs, h1, h3, fun j => by simp [World.cell?, h4]⟩
theorem rcells_get {cs : List V} {w : World} {x : Value} {G : List Nat} (h : (Blk.rcells cs).holds cfg.elT ρ w x G) :
    ∃ b vs, x = .pointer (some ⟨b, 0, none⟩) ∧ denL ρ cs = some vs ∧ ∀ j, w.cell? ⟨b, j, none⟩ = vs[j]? := by
  obtain ⟨b, vs, h1, h2, h3, U, h4⟩ := h
  exact ⟨b, vs, h1, h3, fun j => by simp [World.cell?, h4]⟩
theorem loadV_sound {t : TypeId} {x : V} {a : Value} (h : loadV cfg lk HR t x k) (hx : Rel ρ x a)
    {w0 : World} (hS : SatR cfg lk ρ F HR w0) : Told k ρ (SatR cfg lk ρ F HR) cfg.P (Instr.loadAt t a) := by
  unfold loadV at h
  split at h
  · exact h.elim
  · rename_i i hi
    obtain ⟨inf, z, i1, i2, i3, i4, i5⟩ := Cfg.ty_spec hi
    split at h
    · rename_i b o
      obtain ⟨g, hb, rfl⟩ := den_ptr hx
      split at h
      · rename_i T cs hH
        have hc := cond_elim h
        have hm := hc.1
        have h := hc.2
        obtain ⟨x0, hx1, hx2⟩ := hS b _ hH hm
        rw [hb] at hx1; injection hx1 with hx1; subst hx1
        obtain ⟨g', vs, e, hvs, hcell0⟩ := cells_get hx2
        injection e with e; injection e with e; injection e with e; subst e
        have hget : ∀ w, SatR cfg lk ρ F HR w → ∀ j, w.cell? ⟨g, j, none⟩ = vs[j]? := by
          intro w hw
          obtain ⟨x0, hx1, hx2⟩ := hw b _ hH hm
          rw [hb] at hx1; injection hx1 with hx1; subst hx1
          obtain ⟨g', vs', e, hvs', hcell⟩ := cells_get hx2
          injection e with e; injection e with e; injection e with e; subst e
          rw [hvs] at hvs'; injection hvs' with hvs'; subst hvs'
          exact hcell
        cases hd : isAggD i.desc with
        | true =>
          rw [hd] at h
          have hq := cond_elim h
          have hle : o + i.size ≤ cs.length := Nat.le_of_ble_eq_true hq.1
          have hl := denL_len hvs
          have hv' : denL ρ ((cs.drop o).take i.size) = some ((vs.drop o).take i.size) := denL_take _ (denL_drop _ hvs)
          refine ⟨_, _, hq.2, .inr (by simp only [V.den, hv']; rfl), fun w hw => ?_⟩
          simp only [Instr.loadAt, Instr.sureAddr, Sem.run_bind, Sem.run_pure, Result.andThen_ok]
          refine run_loadVar_agg i2 i1 hd _ _ (by simp; omega) (fun j v hj => ?_)
          rw [add_lit0, hget w hw]
          rw [List.getElem?_take] at hj
          split at hj
          · rw [List.getElem?_drop] at hj; exact hj
          · cases hj
        | false =>
          rw [hd] at h
          simp only [cond_false] at h
          split at h
          · rename_i v hv
            obtain ⟨y, hy1, hy2⟩ := denL_get hvs o v hv
            refine ⟨_, _, h, .inr hy2, fun w hw => ?_⟩
            simp only [Instr.loadAt, Instr.sureAddr, Sem.run_bind, Sem.run_pure, Result.andThen_ok]
            exact run_loadVar_cell i2 hd _ _ (by rw [hget w hw]; exact hy1)
          · exact h.elim
      · rename_i cs hH
        have hc := cond_elim h
        have hm := hc.1
        have h := hc.2
        obtain ⟨x0, hx1, hx2⟩ := hS b _ hH hm
        rw [hb] at hx1; injection hx1 with hx1; subst hx1
        obtain ⟨g', vs, e, hvs, hcell0⟩ := rcells_get hx2
        injection e with e; injection e with e; injection e with e; subst e
        have hget : ∀ w, SatR cfg lk ρ F HR w → ∀ j, w.cell? ⟨g, j, none⟩ = vs[j]? := by
          intro w hw
          obtain ⟨x0, hx1, hx2⟩ := hw b _ hH hm
          rw [hb] at hx1; injection hx1 with hx1; subst hx1
          obtain ⟨g', vs', e, hvs', hcell⟩ := rcells_get hx2
          injection e with e; injection e with e; injection e with e; subst e
          rw [hvs] at hvs'; injection hvs' with hvs'; subst hvs'
          exact hcell
        cases hd : isAggD i.desc with
        | true =>
          rw [hd] at h
          have hq := cond_elim h
          have hle : o + i.size ≤ cs.length := Nat.le_of_ble_eq_true hq.1
          have hl := denL_len hvs
          have hv' : denL ρ ((cs.drop o).take i.size) = some ((vs.drop o).take i.size) := denL_take _ (denL_drop _ hvs)
          refine ⟨_, _, hq.2, .inr (by simp only [V.den, hv']; rfl), fun w hw => ?_⟩
          simp only [Instr.loadAt, Instr.sureAddr, Sem.run_bind, Sem.run_pure, Result.andThen_ok]
          refine run_loadVar_agg i2 i1 hd _ _ (by simp; omega) (fun j v hj => ?_)
          rw [add_lit0, hget w hw]
          rw [List.getElem?_take] at hj
          split at hj
          · rw [List.getElem?_drop] at hj; exact hj
          · cases hj
        | false =>
          rw [hd] at h
          simp only [cond_false] at h
          split at h
          · rename_i v hv
            obtain ⟨y, hy1, hy2⟩ := denL_get hvs o v hv
            refine ⟨_, _, h, .inr hy2, fun w hw => ?_⟩
            simp only [Instr.loadAt, Instr.sureAddr, Sem.run_bind, Sem.run_pure, Result.andThen_ok]
            exact run_loadVar_cell i2 hd _ _ (by rw [hget w hw]; exact hy1)
          · exact h.elim
      · exact h.elim
    · rename_i b n lo m j
      obtain ⟨ad, len, cap, hb, hn, rfl⟩ := den_eptr hx
      split at h
      · rename_i tg l ro hH
        have hc := cond_elim h
        have hm := hc.1
        simp only [Bool.and_eq_true] at hm
        obtain ⟨hm, hmm⟩ := hm
        obtain rfl := Nat.eq_of_beq_eq_true hmm
        have hr := Req_elim hc.2
        obtain ⟨h0, h1⟩ := inR_spec hr.1
        have hh := hr.2
        clear h hc
        have hget : ∀ w, SatR cfg lk ρ F HR w → ∀ p y, (flat tg l)[p]? = some y → w.cell? (ad.add p) = some y := by
          intro w hw p y hp
          obtain ⟨x0, hx1, hx2⟩ := hw b _ hH hm
          rw [hb] at hx1; injection hx1 with hx1; subst hx1
          obtain ⟨ad', cap', he, hcap, hcm, hnone, hcells⟩ := row_val hx2
          injection he with e1 e2 e3; subst e1
          obtain ⟨ad'', e, _, hc⟩ := hcells p y hp
          injection e with e; subst e; exact hc
        have hk : (offs n lo).toNat < l.length := by omega
        have hflat := fun j hj => flat_get tg l (offs n lo).toNat hk j hj
        have hel := elEnc_len tg (l.getD (offs n lo).toNat (elD tg))
        generalize l.getD (offs n lo).toNat (elD tg) = e at hh hflat hel
        generalize (offs n lo).toNat = q at *
        cases hd : isAggD i.desc with
        | true =>
          rw [hd] at hh
          simp only [cond_true] at hh
          cases hj : (Nat.beq j 0 && Nat.beq i.size (elM tg)) with
          | true =>
            rw [hj] at hh
            simp only [cond_true] at hh
            simp only [Bool.and_eq_true] at hj
            obtain rfl := Nat.eq_of_beq_eq_true hj.1
            have hsz := Nat.eq_of_beq_eq_true hj.2
            refine ⟨_, _, hh, .inr (by simp only [V.den, denL_ext]; rfl), fun w hw => ?_⟩
            simp only [Instr.loadAt, Instr.sureAddr, Sem.run_bind, Sem.run_pure, Result.andThen_ok]
            refine run_loadVar_agg i2 i1 hd _ _ (by rw [hel, ← hsz, i4]) (fun p v hp => ?_)
            rw [add_add]
            refine hget w hw _ _ ?_
            have hpl : p < elM tg := by rw [← hel]; exact (List.getElem?_eq_some_iff.1 hp).1
            rw [Nat.add_zero, hflat p hpl]; exact hp
          | false =>
            rw [hj] at hh
            simp only [cond_false] at hh
            have hq := cond_elim hh
            have hle : j + i.size ≤ elM tg := Nat.le_of_ble_eq_true hq.1
            refine ⟨_, _, hq.2, .inr (by simp only [V.den, denL_ext]; rfl), fun w hw => ?_⟩
            simp only [Instr.loadAt, Instr.sureAddr, Sem.run_bind, Sem.run_pure, Result.andThen_ok]
            refine run_loadVar_agg i2 i1 hd _ _ (by simp [hel]; omega) (fun p v hp => ?_)
            rw [List.getElem?_take] at hp
            split at hp
            · rename_i hpl
              rw [List.getElem?_drop] at hp
              rw [add_add, Nat.add_assoc]
              exact hget w hw _ _ (by rw [hflat (j + p) (by omega)]; exact hp)
            · cases hp
        | false =>
          rw [hd] at hh
          simp only [cond_false] at hh
          split at hh
          · rename_i v hv
            have hjl : j < elM tg := by rw [← hel]; exact (List.getElem?_eq_some_iff.1 hv).1
            refine ⟨_, _, hh, .inr rfl, fun w hw => ?_⟩
            simp only [Instr.loadAt, Instr.sureAddr, Sem.run_bind, Sem.run_pure, Result.andThen_ok]
            exact run_loadVar_cell i2 hd _ _ (hget w hw _ _ (by rw [hflat j hjl]; exact hv))
          · exact hh.elim
      · exact h.elim
    · exact h.elim
theorem fieldV_sound {t : TypeId} {f : Nat} {x : V} {a : Value} (h : fieldV cfg t x f k) (hx : Rel ρ x a) (S : World → Prop) : Told k ρ S cfg.P (Instr.field t a f) := by
  unfold fieldV at h
  split at h
  · exact h.elim
  · rename_i off T hf
    obtain ⟨fs, fd, h1, h2, rfl, rfl⟩ := fieldOff_spec hf
    split at h
    · rename_i i hi
      obtain ⟨inf, z, i1, i2, i3, i4, i5⟩ := Cfg.ty_spec hi
      split at h
      · rename_i cs
        have ha := hx.den (by simp)
        simp only [V.den] at ha
        split at ha
        · rename_i vs hvs
          injection ha with ha; subst ha
          cases hd : isAggD i.desc with
          | true =>
            rw [hd] at h
            have hq := cond_elim h
            have hv' : denL ρ ((cs.drop fd.offset).take i.size) = some ((vs.drop fd.offset).take i.size) := denL_take _ (denL_drop _ hvs)
            refine ⟨_, _, hq.2, .inr (by simp only [V.den, hv']; rfl), fun w hw => ?_⟩
            simp only [Instr.field, Sem.run_bind, run_underlying h1, Result.andThen_ok, h2, asAgg, Sem.run_pure]
            rw [(run_part' i2 i1 vs fd.offset w).1 hd, i4]
          | false =>
            rw [hd] at h
            simp only [cond_false] at h
            split at h
            · rename_i v hv
              obtain ⟨y, hy1, hy2⟩ := denL_get hvs _ v hv
              refine ⟨_, _, h, .inr hy2, fun w hw => ?_⟩
              simp only [Instr.field, Sem.run_bind, run_underlying h1, Result.andThen_ok, h2, asAgg, Sem.run_pure]
              exact (run_part' i2 i1 vs fd.offset w).2 hd y hy1
            · exact h.elim
        · cases ha
      · exact h.elim
    · exact h.elim
theorem extractV_sound {ix : Nat} {x : V} {a : Value} {P : Program} (h : extractV x ix k) (hx : Rel ρ x a) (S : World → Prop) : Told k ρ S P (Instr.extract a ix) := by
  unfold extractV at h
  split at h
  · rename_i vs
    have ha := hx.den (by simp)
    simp only [V.den] at ha
    split at ha
    · rename_i xs hxs
      injection ha with ha; subst ha
      split at h
      · rename_i v hv
        obtain ⟨y, hy1, hy2⟩ := denL_get hxs _ v hv
        exact ⟨_, _, h, .inr hy2, fun w hw => by simp [Instr.extract, hy1]⟩
      · exact h.elim
    · cases ha
  · exact h.elim
theorem lenOf_spec (hS : RowShape ρ HR) {x : V} {a : Value} {n : Nat} (hx : Rel ρ x a) (h : lenOf HR x = some n) : ∃ ad cap, a = .slice ad n cap := by
  unfold lenOf at h
  split at h
  · rename_i i
    split at h
    · rename_i t l ro hH
      injection h with h
      have ha := den_row hx
      obtain ⟨ad, cap, hx1, _⟩ := hS i _ _ _ hH
      rw [ha] at hx1; injection hx1 with hx1; subst hx1
      exact ⟨ad, cap, by rw [h]⟩
    · cases h
  · injection h with h
    obtain ⟨ad, len, cap, hb, rfl⟩ := den_sub hx
    exact ⟨_, _, by rw [h]⟩
  · injection h with h
    have := den_ext hx
    exact ⟨none, 0, by rw [this, ← h]⟩
  · injection h with h
    obtain ⟨b, hb, rfl⟩ := den_asl hx
    exact ⟨_, _, by rw [h]⟩
  · cases h
theorem lenV_sound (ok : CfgOK cfg) {t ty : TypeId} {x : V} {a : Value} (h : lenV cfg HR t x k) (hx : Rel ρ x a)
    (hS : RowShape ρ HR) (S : World → Prop) : Told k ρ S cfg.P (Builtin.len_ #[t] ty #[a]) := by
  unfold lenV at h
  split at h
  · exact h.elim
  · rename_i tg ht
    obtain ⟨u1, inf, z, u2, u3, u4, u5, u6⟩ := ok.tags t tg ht
    split at h
    · rename_i n hn
      obtain ⟨ad, cap, rfl⟩ := lenOf_spec hS hx hn
      exact ⟨_, _, h, .inr rfl, fun w _ => by simp [Builtin.len_, run_underlying u1, goInt]⟩
    · exact h.elim
theorem maxV_sound {P : Program} {ts : Array TypeId} {ty : TypeId} {x y : V} {a b : Value} (h : maxV x y k) (hx : Rel ρ x a) (hy : Rel ρ y b) (S : World → Prop) : Told k ρ S P (Builtin.max_ ts ty #[a, b]) := by
  unfold maxV at h
  split at h
  · have ha := den_ext hx; have hb := den_ext hy
    subst ha; subst hb
    exact ⟨_, _, h, .inr rfl, fun w _ => by simp [Builtin.max_, Builtin.max2]⟩
  · exact h.elim
theorem minV_sound {P : Program} {ts : Array TypeId} {ty : TypeId} {x y : V} {a b : Value} (h : minV x y k) (hx : Rel ρ x a) (hy : Rel ρ y b) (S : World → Prop) : Told k ρ S P (Builtin.min_ ts ty #[a, b]) := by
  unfold minV at h
  split at h
  · have ha := den_ext hx; have hb := den_ext hy
    subst ha; subst hb
    exact ⟨_, _, h, .inr rfl, fun w _ => by simp [Builtin.min_, Builtin.min2]⟩
  · exact h.elim
theorem minL_sound {P : Program} {env : Env} {a : Act} (hE : ∀ t, Rel ρ (env t) (a.tmps.getD t undef)) : ∀ (xs : List Operand) (n : Int) {k : V → Prop}, minL n (xs.map (ev env)) k →
    ∃ m : Int, k (vi m) ∧ ∀ w, (List.foldlM Builtin.min2 (i64 n) (xs.map a.eval)).run P w = .ok (i64 m) w
  | [], n, k, h => ⟨n, h, fun w => rfl⟩
  | x :: r, n, k, h => by
    simp only [List.map_cons, minL] at h
    split at h
    · rename_i b hb
      have hx := REnv.ev hE x
      rw [hb] at hx
      have hx := den_ext hx
      obtain ⟨m, h1, h2⟩ := minL_sound (P := P) hE r _ h
      refine ⟨m, h1, fun w => ?_⟩
      simp only [List.map_cons, List.foldlM_cons, Sem.run_bind, hx, Builtin.min2, Sem.run_pure, Result.andThen_ok]
      exact h2 w
    · exact h.elim
theorem sliceOp_spec {len cap cap' : Nat} {lo hi : Option Int} {K : Nat → Nat → Prop} (h : sliceOp len cap lo hi K) (h1 : len ≤ cap) (h2 : cap ≤ cap')
    {lo' hi' : Option Value} (hlo : ∀ n, lo = some n → ∃ kd, lo' = some (.int kd n)) (hlo' : lo = none → lo' = none) (hhi : ∀ n, hi = some n → ∃ kd, hi' = some (.int kd n)) (hhi' : hi = none → hi' = none) :
    ∃ l n, K l n ∧ l + n ≤ cap ∧ ∀ (P : Program) w, (Instr.sliceBounds true len cap' lo' hi' none).run P w = .ok (l, l + n, cap') w := by
  unfold sliceOp at h
  cases lo with
  | none =>
    obtain rfl := hlo' rfl
    cases hi with
    | none =>
      obtain rfl := hhi' rfl
      exact ⟨0, len, h, by omega, fun P w => by simp [Instr.sliceBounds]⟩
    | some hv =>
      obtain ⟨kd, rfl⟩ := hhi hv rfl
      have hr := Req_elim h
      have hq : 0 ≤ hv ∧ hv ≤ (cap : Int) := by simpa using hr.1
      exact ⟨0, hv.toNat, hr.2, by omega, fun P w => by
        have : 0 ≤ hv ∧ hv ≤ (cap' : Int) := by omega
        simp [Instr.sliceBounds, Instr.sliceBound, asIntOf, this]⟩
  | some l =>
    obtain ⟨kl, rfl⟩ := hlo l rfl
    cases hi with
    | none =>
      obtain rfl := hhi' rfl
      have hr := Req_elim h
      have hq : 0 ≤ l ∧ l ≤ (len : Int) := by simpa using hr.1
      refine ⟨l.toNat, len - l.toNat, hr.2, by omega, fun P w => ?_⟩
      have e : l.toNat + (len - l.toNat) = len := by omega
      rw [e]
      simp [Instr.sliceBounds, Instr.sliceBound, asIntOf, hq]
    | some hv =>
      obtain ⟨kd, rfl⟩ := hhi hv rfl
      have hr := Req_elim h
      have hq : 0 ≤ hv ∧ hv ≤ (cap : Int) := by simpa using hr.1
      have hr' := Req_elim hr.2
      have hq' : 0 ≤ l ∧ l ≤ hv := by simpa using hr'.1
      refine ⟨l.toNat, hv.toNat - l.toNat, hr'.2, by omega, fun P w => ?_⟩
      have e : l.toNat + (hv.toNat - l.toNat) = hv.toNat := by omega
      rw [e]
      have h3 : 0 ≤ hv ∧ hv ≤ (cap' : Int) := by omega
      have h4 : 0 ≤ l ∧ l ≤ (hv.toNat : Int) := by omega
      simp [Instr.sliceBounds, Instr.sliceBound, asIntOf, h3, hq'.1]
      intro hlt
      omega
theorem sliceV_sound (ok : CfgOK cfg) {t : TypeId} {x : V} {a : Value} {lo hi : Option Int} (h : sliceV cfg HR t x lo hi k) (hx : Rel ρ x a)
    (hS : RowShape ρ HR) (S : World → Prop)
    {lo' hi' : Option Value} (hlo : ∀ n, lo = some n → ∃ kd, lo' = some (.int kd n)) (hlo' : lo = none → lo' = none) (hhi : ∀ n, hi = some n → ∃ kd, hi' = some (.int kd n)) (hhi' : hi = none → hi' = none) :
    Told k ρ S cfg.P (Instr.sliceAt t a lo' hi' none) := by
  unfold sliceV at h
  split at h
  · exact h.elim
  · rename_i tg ht
    obtain ⟨u1, inf, z, u2, u3, u4, u5, u6⟩ := ok.tags t tg ht
    have key : ∀ (ad : Option Addr) (n cap : Nat) (P : Program) (w : World) (l m : Nat), (Instr.sliceBounds true n cap lo' hi' none).run cfg.P w = .ok (l, m, cap) w →
        (Instr.sliceAt t (.slice ad n cap) lo' hi' none).run cfg.P w = .ok (.slice (if cap = l then ad else ad.map (·.add (l * elM tg))) (m - l) (cap - l)) w := by
      intro ad n cap P w l m hb
      simp only [Instr.sliceAt, Sem.run_bind, run_underlying u1, Result.andThen_ok, Instr.slice, hb, run_sizeOf' u2, u5, Sem.run_pure]
    split at h
    · rename_i i
      split at h
      · rename_i len hl
        obtain ⟨ad, cap, rfl⟩ := lenOf_spec hS hx hl
        have ha := den_row hx
        have hcap : len ≤ cap := by
          unfold lenOf at hl
          simp only at hl
          split at hl
          · rename_i t' l' ro hH
            injection hl with hl
            obtain ⟨ad', cap', hx1, hcap, _⟩ := hS i _ _ _ hH
            rw [ha] at hx1; injection hx1 with hx1
            injection hx1 with e1 e2 e3
            rw [e2, e3]; exact hcap
          · cases hl
        obtain ⟨l, n, hk, hln, hb⟩ := sliceOp_spec h (Nat.le_refl _) hcap hlo hlo' hhi hhi'
        refine ⟨_, _, hk, mk_sub ha, fun w _ => ?_⟩
        rw [key ad len cap cfg.P w l (l + n) (hb cfg.P w)]
        rw [Nat.add_sub_cancel_left]
      · exact h.elim
    · exact h.elim
theorem noJunk_den {ρ : List Value} {env : Env} {a : Act} (hE : ∀ t, Rel ρ (env t) (a.tmps.getD t undef)) :
    ∀ (xs : List Operand), noJunk (xs.map (ev env)) = true → denL ρ (xs.map (ev env)) = some (xs.map a.eval)
  | [], _ => rfl
  | x :: r, h => by
    have hx := REnv.ev hE x
    simp only [List.map_cons] at h ⊢
    have hj : ev env x ≠ .junk ∧ noJunk (r.map (ev env)) = true := by
      generalize ev env x = v at h
      cases v <;> simp_all [noJunk]
    simp only [denL, hx.den hj.1, noJunk_den hE r hj.2]
theorem optInt_spec {ρ : List Value} {env : Env} {a : Act} (hE : ∀ t, Rel ρ (env t) (a.tmps.getD t undef)) {x : Option Operand} {n : Option Int} (h : optInt env x = some n) :
    (∀ m, n = some m → ∃ kd, x.map a.eval = some (.int kd m)) ∧ (n = none → x.map a.eval = none) := by
  cases x with
  | none => simp only [optInt, Option.some.injEq] at h; subst h; exact ⟨(fun m h => by cases h), fun _ => rfl⟩
  | some x =>
    have hx := REnv.ev hE x
    simp only [optInt] at h
    split at h
    · rename_i q hq
      simp only [Option.some.injEq] at h
      subst h
      refine ⟨fun m hm => ?_, (fun h => by cases h)⟩
      injection hm with hm
      subst hm
      unfold natOf at hq
      split at hq
      · rename_i kd p hp
        injection hq with hq
        subst hq
        rw [hp] at hx
        exact ⟨kd, by simp [den_ext hx]⟩
      · cases hq
    · cases h
theorem br_elim {b : Bool} {A B : Prop} (h : br b A B) : (b = true ∧ A) ∨ (b = false ∧ B) := by
  cases b with
  | true => exact .inl ⟨rfl, h⟩
  | false => exact .inr ⟨rfl, h⟩
theorem list2 {α : Type} {a : Array α} {x y : α} (h : a.toList = [x, y]) : a = #[x, y] := by rw [← Array.toArray_toList (xs := a), h]
theorem list1 {α : Type} {a : Array α} {x : α} (h : a.toList = [x]) : a = #[x] := by rw [← Array.toArray_toList (xs := a), h]
theorem list0 {α : Type} {a : Array α} (h : a.toList.isEmpty = true) : a = #[] := by
  have : a.toList = [] := by simpa using h
  rw [← Array.toArray_toList (xs := a), this]
theorem told_run {P : Program} {S : World → Prop} {m : Sem Value} {s : Sem Next} (h : Told k ρ S P m) (e : s = (do pure (.value (← m)))) :
    ∃ v x, k v ∧ Rel ρ v x ∧ ∀ w, S w → s.run P w = .ok (.value x) w := by
  obtain ⟨v, x, h1, h2, h3⟩ := h
  exact ⟨v, x, h1, h2, fun w hw => by rw [e, Sem.run_bind, h3 w hw]; rfl⟩
theorem leaf_den {v : V} {x : Value} (h : leaf v = true) (e : v.den ρ = some x) : x.oneCell' = true ∧ x.cells = #[x] := by
  cases v with
  | ext y =>
    simp only [V.den, Option.some.injEq] at e
    subst e
    cases y <;> first | (simp [leaf] at h; done) | exact ⟨rfl, rfl⟩
  | junk => simp [leaf] at h
  | agg cs => simp [leaf] at h
  | tup cs => simp [leaf] at h
  | ptr i o => simp only [V.den] at e; split at e <;> first | (injection e with e; subst e; exact ⟨rfl, rfl⟩) | cases e
  | eptr i n lo m j =>
    simp only [V.den] at e; split at e
    · cases hk : decide (0 ≤ n) <;> rw [hk] at e
      · cases e
      · injection e with e; subst e; exact ⟨rfl, rfl⟩
    · cases e
  | row i => simp only [V.den] at e; split at e <;> first | (injection e with e; subst e; exact ⟨rfl, rfl⟩) | cases e
  | sub i lo n m => simp only [V.den] at e; split at e <;> first | (injection e with e; subst e; exact ⟨rfl, rfl⟩) | cases e
  | fn f cs => simp only [V.den] at e; split at e <;> first | (injection e with e; subst e; exact ⟨rfl, rfl⟩) | cases e
  | asl i o n c => simp only [V.den] at e; split at e <;> first | (injection e with e; subst e; exact ⟨rfl, rfl⟩) | cases e
  | mp i => simp only [V.den] at e; split at e <;> first | (injection e with e; subst e; exact ⟨rfl, rfl⟩) | cases e
  | mth f x => simp only [V.den] at e; split at e <;> first | (injection e with e; subst e; exact ⟨rfl, rfl⟩) | cases e
theorem allLeaf_den : ∀ {vs : List V} {xs : List Value}, allLeaf vs = true → denL ρ vs = some xs → ∀ x ∈ xs, x.oneCell' = true
  | [], xs, _, e => by simp [denL] at e; subst e; simp
  | v :: r, xs, h, e => by
    simp only [allLeaf, Bool.and_eq_true] at h
    simp only [denL] at e
    cases hv : v.den ρ with
    | none => simp [hv] at e
    | some x =>
      cases hr : denL ρ r with
      | none => simp [hv, hr] at e
      | some ys =>
        simp only [hv, hr] at e; injection e with e; subst e
        intro y hy
        rcases List.mem_cons.1 hy with rfl | hy
        · exact (leaf_den h.1 hv).1
        · exact allLeaf_den h.2 hr y hy
theorem vcells_den {v : V} {x : Value} (h : Rel ρ v x) (hl : allLeaf (vcells v) = true) : denL ρ (vcells v) = some x.cells.toList := by
  have single : ∀ v : V, leaf v = true → Rel ρ v x → denL ρ [v] = some x.cells.toList := fun v hv hr => by
    have hd := hr.den (by rintro rfl; simp [leaf] at hv)
    obtain ⟨_, h2⟩ := leaf_den hv hd
    rw [h2]
    simp [denL, hd]
  unfold vcells at hl ⊢
  split at hl
  · rename_i cs
    have hd := h.den (by simp)
    simp only [V.den] at hd
    split at hd
    · rename_i vs hvs; injection hd with hd; subst hd; simpa [Value.cells] using hvs
    · cases hd
  · rename_i cs
    have hd := den_ext h
    subst hd
    simpa [Value.cells] using denL_ext (ρ := ρ) cs.toList
  · simp only [allLeaf, Bool.and_true] at hl
    exact single _ hl h
theorem setCells_den : ∀ (vs : List V) (xs : List Value) (cs : List V) (ys : List Value) (o : Nat), denL ρ vs = some xs → denL ρ cs = some ys → o + vs.length ≤ cs.length →
    denL ρ (setCells cs o vs) = some (ys.take o ++ xs ++ ys.drop (o + xs.length))
  | [], xs, cs, ys, o, h, g, _ => by simp [denL] at h; subst h; simpa [setCells] using g
  | v :: r, xs, cs, ys, o, h, g, hl => by
    simp only [denL] at h
    cases hv : v.den ρ with
    | none => simp [hv] at h
    | some x =>
      cases hr : denL ρ r with
      | none => simp [hv, hr] at h
      | some zs =>
        simp only [hv, hr] at h; injection h with h; subst h
        have hlen := denL_len g
        have hlen' := denL_len hr
        have := setCells_den r zs (cs.set o v) (ys.set o x) (o + 1) hr (denL_set o v x g hv) (by simp at hl ⊢; omega)
        simp only [setCells]
        rw [this, list_seg_step ys o x zs (by simp at hl; omega)]
        rfl
theorem fold_set (off : Nat) : ∀ (vs : List Value) (s : Nat) (C : Array Value), off + s + vs.length ≤ C.size →
    ((vs.zipIdx s).foldl (fun (cs : Array Value) (p : Value × Nat) => cs.setIfInBounds (off + p.2) p.1) C).toList = C.toList.take (off + s) ++ vs ++ C.toList.drop (off + s + vs.length)
  | [], s, C, _ => by simp
  | v :: r, s, C, h => by
    rw [List.zipIdx_cons, List.foldl_cons, fold_set off r (s + 1) _ (by simp at h ⊢; omega)]
    have hsz : off + s + (r.length + 1) ≤ C.toList.length := by simpa using h
    rw [Array.toList_setIfInBounds]
    have e := list_seg_step C.toList (off + s) v r hsz
    have e1 : off + (s + 1) = off + s + 1 := by omega
    rw [e1, e]
    simp
theorem fold_cells (off : Nat) (v : Value) (C : Array Value) (h : off + v.cells.size ≤ C.size) :
    (v.cells.zipIdx.foldl (fun (cs : Array Value) (p : Value × Nat) => cs.setIfInBounds (off + p.2) p.1) C).toList = C.toList.take off ++ v.cells.toList ++ C.toList.drop (off + v.cells.toList.length) := by
  have e := fold_set off v.cells.toList 0 C (by simpa using h)
  rw [← Array.foldl_toList, Array.toList_zipIdx]
  simpa using e
theorem fieldTy_run {P : Program} (w : World) (size : TypeId → Nat) : ∀ (fs : List Field), (∀ f ∈ fs, (sizeOf f.type).run P w = .ok (size f.type) w) →
    (fs.mapM fun f => (do pure (f.offset, ← sizeOf f.type) : Sem (Nat × Nat))).run P w = .ok (fs.map fun f => (f.offset, size f.type)) w
  | [], _ => by simp
  | f :: r, h => by
    have h1 := h f (by simp)
    have h2 := fieldTy_run w size r (fun g hg => h g (by simp [hg]))
    rw [List.mapM_cons, Sem.run_bind, Sem.run_bind, h1]
    simp only [Result.andThen_ok, Sem.run_pure, Sem.run_bind, h2, List.map_cons]
theorem buildGo_sound {t : TypeId} {env : Env} {a : Act} (hE : ∀ t, Rel ρ (env t) (a.tmps.getD t undef)) {place : Nat → Option (Nat × Nat)}
    (hpl : ∀ i off T inf, fieldOff cfg t i = some (off, T) → cfg.ty T = some inf → place i = some (off, inf.size)) :
    ∀ (ps : List (Nat × Operand)) (cs cs' : List V) (zs : List Value), buildGo cfg t env ps cs = some cs' → denL ρ cs = some zs →
      ∃ zs', denL ρ cs' = some zs' ∧ Instr.fill place zs.toArray (ps.map fun p => (p.1, a.eval p.2)) = some zs'.toArray
  | [], cs, cs', zs, h, hz => by
    simp only [buildGo, Option.some.injEq] at h
    subst h
    exact ⟨zs, hz, rfl⟩
  | (i, x) :: r, cs, cs', zs, h, hz => by
    simp only [buildGo] at h
    split at h
    · cases h
    · rename_i off T hf
      split at h
      · cases h
      · rename_i inf hi
        cases hc : (Nat.beq (vcells (ev env x)).length inf.size && (Nat.ble (off + (vcells (ev env x)).length) cs.length && allLeaf (vcells (ev env x)))) with
        | false => rw [hc] at h; cases h
        | true =>
          rw [hc] at h
          simp only [Bool.and_eq_true] at hc
          obtain ⟨hsz, hfit, hleaf⟩ := hc
          have hsz := Nat.eq_of_beq_eq_true hsz
          have hfit := Nat.le_of_ble_eq_true hfit
          have hd := vcells_den (REnv.ev hE x) hleaf
          have hdl := denL_len hd
          have hzl := denL_len hz
          have hset := setCells_den _ _ _ _ off hd hz hfit
          obtain ⟨zs', h1, h2⟩ := buildGo_sound hE hpl r _ cs' _ h hset
          refine ⟨zs', h1, ?_⟩
          have hxs : (a.eval x).cells.size = inf.size := by rw [← hsz, hdl, Array.length_toList]
          simp only [List.map_cons, Instr.fill, hpl i off T inf hf hi]
          rw [if_neg (by rw [hxs]; simp; omega)]
          have hfold := fold_cells off (a.eval x) zs.toArray (by rw [hxs]; simp; omega)
          rw [← h2]
          congr 1
          apply Array.ext'
          rw [hfold]
theorem buildV_sound {t : TypeId} {parts : Array (Nat × Operand)} {env : Env} {a : Act} (h : buildV cfg t parts.toList env k) (hE : ∀ t, Rel ρ (env t) (a.tmps.getD t undef)) (S : World → Prop) :
    Told k ρ S cfg.P (Instr.build t (parts.map fun (i, x) => (i, a.eval x))) := by
  unfold buildV at h
  split at h
  · rename_i fs _ zero _ hty
    have hc := cond_elim h
    have hall := hc.1
    have hh := hc.2
    obtain ⟨inf, z, h1, h2, h3, h4, h5⟩ := Cfg.ty_spec hty
    simp only at h2 h5
    split at hh
    · rename_i cs hcs
      have hfs : ∀ f ∈ fs.toList, ∃ i, cfg.ty f.type = some i := fun f hf => by
        have := List.all_eq_true.1 hall f hf
        exact Option.isSome_iff_exists.1 this
      have hrun : ∀ w, (fs.mapM fun f => (do pure (f.offset, ← sizeOf f.type) : Sem (Nat × Nat))).run cfg.P w = .ok (fs.toList.map fun f => (f.offset, ((cfg.ty f.type).map TyI.size).getD 0)).toArray w := by
        intro w
        have e : fs = fs.toList.toArray := by simp
        rw [e, List.mapM_toArray, map_eq_pure_bind, Sem.run_bind, fieldTy_run w (fun T => ((cfg.ty T).map TyI.size).getD 0) fs.toList (fun f hf => ?_)]
        · simp
        · obtain ⟨i, hi⟩ := hfs f hf
          obtain ⟨inf', z', g1, g2, g3, g4, g5⟩ := Cfg.ty_spec hi
          rw [run_sizeOf' g1, hi, Option.map_some, Option.getD_some, g4]
      have hplace : ∀ (i off : Nat) (T : TypeId) (inf' : TyI), fieldOff cfg t i = some (off, T) → cfg.ty T = some inf' →
          ((fs.toList.map fun f => (f.offset, ((cfg.ty f.type).map TyI.size).getD 0)).toArray)[i]? = some (off, inf'.size) := by
        intro i off T inf' hf hi
        unfold fieldOff at hf
        rw [hty] at hf
        simp only at hf
        split at hf
        · rename_i fd hfd
          injection hf with hf
          injection hf with e1 e2
          subst e1; subst e2
          rw [List.getElem?_toArray, List.getElem?_map, hfd]
          simp only [Option.map_some, hi, Option.getD_some]
        · cases hf
      obtain ⟨zs', g1, g2⟩ := buildGo_sound hE (place := fun i => ((fs.toList.map fun f => (f.offset, ((cfg.ty f.type).map TyI.size).getD 0)).toArray)[i]?) hplace parts.toList _ cs zero hcs (denL_ext zero)
      refine ⟨_, .agg zs'.toArray, hh, .inr (by simp only [V.den, g1]), fun w _ => ?_⟩
      unfold Instr.build
      have hz : (zeroValue t).run cfg.P w = .ok z w := by simp [zeroValue, typeInfo, h1, h3]
      simp only [Sem.run_bind, hz, Result.andThen_ok, run_underlying h2, hrun w]
      rw [h5, Array.toArray_toList] at g2
      have hpl : (parts.map fun (i, x) => (i, a.eval x)).toList = parts.toList.map fun p => (p.1, a.eval p.2) := by simp
      rw [hpl, g2]
      rfl
    · exact hh.elim
  · exact h.elim
theorem buildGoP_sound {env : Env} {a : Act} (hE : ∀ t, Rel ρ (env t) (a.tmps.getD t undef)) {place : Nat → Option (Nat × Nat)} :
    ∀ (ps : List (Nat × Operand)) (cs cs' : List V) (zs : List Value), buildGoP place env ps cs = some cs' → denL ρ cs = some zs →
      ∃ zs', denL ρ cs' = some zs' ∧ Instr.fill place zs.toArray (ps.map fun p => (p.1, a.eval p.2)) = some zs'.toArray
  | [], cs, cs', zs, h, hz => by
    simp only [buildGoP, Option.some.injEq] at h
    subst h
    exact ⟨zs, hz, rfl⟩
  | (i, x) :: r, cs, cs', zs, h, hz => by
    simp only [buildGoP] at h
    split at h
    · cases h
    · rename_i off sz hf
      cases hc : (Nat.beq (vcells (ev env x)).length sz && (Nat.ble (off + (vcells (ev env x)).length) cs.length && allLeaf (vcells (ev env x)))) with
      | false => rw [hc] at h; cases h
      | true =>
        rw [hc] at h
        simp only [Bool.and_eq_true] at hc
        obtain ⟨hsz, hfit, hleaf⟩ := hc
        have hsz := Nat.eq_of_beq_eq_true hsz
        have hfit := Nat.le_of_ble_eq_true hfit
        have hd := vcells_den (REnv.ev hE x) hleaf
        have hdl := denL_len hd
        have hzl := denL_len hz
        have hset := setCells_den _ _ _ _ off hd hz hfit
        obtain ⟨zs', h1, h2⟩ := buildGoP_sound hE r _ cs' _ h hset
        refine ⟨zs', h1, ?_⟩
        have hxs : (a.eval x).cells.size = sz := by rw [← hsz, hdl, Array.length_toList]
        simp only [List.map_cons, Instr.fill, hf]
        rw [if_neg (by rw [hxs]; simp; omega)]
        have hfold := fold_cells off (a.eval x) zs.toArray (by rw [hxs]; simp; omega)
        rw [← h2]
        congr 1
        apply Array.ext'
        rw [hfold]
theorem buildAV_sound {t : TypeId} {parts : Array (Nat × Operand)} {env : Env} {a : Act} (h : buildAV cfg t parts.toList env k) (hE : ∀ t, Rel ρ (env t) (a.tmps.getD t undef)) (S : World → Prop) :
    Told k ρ S cfg.P (Instr.build t (parts.map fun (i, x) => (i, a.eval x))) := by
  unfold buildAV at h
  split at h
  · rename_i len E _ zero _ hty
    obtain ⟨inf, z, h1, h2, h3, h4, h5⟩ := Cfg.ty_spec hty
    simp only at h2 h5
    split at h
    · rename_i i hi
      obtain ⟨inf', z', g1, g2, g3, g4, g5⟩ := Cfg.ty_spec hi
      split at h
      · rename_i cs hcs
        obtain ⟨zs', q1, q2⟩ := buildGoP_sound hE parts.toList _ cs zero hcs (denL_ext zero)
        refine ⟨_, .agg zs'.toArray, h, .inr (by simp only [V.den, q1]), fun w _ => ?_⟩
        unfold Instr.build
        have hz : (zeroValue t).run cfg.P w = .ok z w := by simp [zeroValue, typeInfo, h1, h3]
        have hsz : (sizeOf E).run cfg.P w = .ok i.size w := by rw [run_sizeOf' g1, g4]
        simp only [Sem.run_bind, hz, Result.andThen_ok, run_underlying h2, hsz]
        rw [h5, Array.toArray_toList] at q2
        have hpl : (parts.map fun (i, x) => (i, a.eval x)).toList = parts.toList.map fun p => (p.1, a.eval p.2) := by simp
        rw [hpl, q2]
        rfl
      · exact h.elim
    · exact h.elim
  · exact h.elim
theorem indexV_sound {t : TypeId} {x ix : V} {a b : Value} (h : indexV cfg t x ix k) (hx : Rel ρ x a) (hi : Rel ρ ix b) (S : World → Prop) : Told k ρ S cfg.P (Instr.index t a b) := by
  unfold indexV at h
  split at h
  · rename_i kd n
    obtain rfl := den_ext hi
    split at h
    · rename_i cs
      have ha := hx.den (by simp)
      simp only [V.den] at ha
      split at ha
      · rename_i vs hvs
        injection ha with ha; subst ha
        split at h
        · rename_i len E _ _ _ hty
          obtain ⟨inf, z, h1, h2, h3, h4, h5⟩ := Cfg.ty_spec hty
          simp only at h2
          split at h
          · rename_i i hE
            obtain ⟨inf', z', g1, g2, g3, g4, g5⟩ := Cfg.ty_spec hE
            have hr := Req_elim h
            obtain ⟨q0, q1⟩ := inR_spec hr.1
            have h := splitI_elim hr.2 (by omega) (by omega)
            have hsz : ∀ w, (sizeOf E).run cfg.P w = .ok i.size w := fun w => by rw [run_sizeOf' g1, g4]
            cases hd : isAggD i.desc with
            | true =>
              rw [hd] at h
              have hc := cond_elim h
              have hl := Nat.le_of_ble_eq_true hc.1
              refine ⟨_, .agg ((vs.drop (n.toNat * i.size)).take i.size).toArray, hc.2, .inr (by simp only [V.den, denL_take _ (denL_drop _ hvs)]), fun w _ => ?_⟩
              have hp := (run_part' g2 g1 vs (n.toNat * i.size) w).1 hd
              simp only [Instr.index, Sem.run_bind, asIntOf, Sem.run_pure, Result.andThen_ok, run_underlying h2, q0, q1, and_self, if_true, hsz]
              rw [hp, g4]
            | false =>
              rw [hd] at h
              simp only [cond_false] at h
              split at h
              · rename_i v hv
                obtain ⟨y, hy1, hy2⟩ := denL_get hvs _ v hv
                refine ⟨_, y, h, .inr hy2, fun w _ => ?_⟩
                simp only [Instr.index, Sem.run_bind, asIntOf, Sem.run_pure, Result.andThen_ok, run_underlying h2, q0, q1, and_self, if_true, hsz]
                exact (run_part' g2 g1 vs (n.toNat * i.size) w).2 hd y hy1
              · exact h.elim
          · exact h.elim
        · exact h.elim
      · cases ha
    · exact h.elim
  · exact h.elim
theorem mapInt_spec {t : TypeId} (h : mapInt cfg t = true) : ∃ K E i z, cfg.P.underlying t = some (.map K E) ∧ cfg.P.underlying K = some (.int .i64) ∧ cfg.P.info? E = some i ∧ i.zero = some z ∧ z = i64 0 := by
  unfold mapInt at h
  split at h
  · rename_i K E _ _ _ hty
    obtain ⟨inf, z, h1, h2, h3, h4, h5⟩ := Cfg.ty_spec hty
    split at h
    · rename_i i hK hE
      obtain ⟨inf', z', g1, g2, g3, g4, g5⟩ := Cfg.ty_spec hK
      split at h
      · rename_i hz
        exact ⟨K, E, i, _, h2, g2, hE, hz, rfl⟩
      · cases h
    · cases h
  · cases h
theorem findNow_int (a : Int) : ∀ (es : List MapEntry) (i : Nat), (∀ e ∈ es, ∃ k v, e.key = i64 k ∧ e.val = i64 v) →
    (Instr.findNow (.int .i64) (i64 a) es i = some none ∧ ∀ e ∈ es, e.key ≠ i64 a) ∨
    ∃ j e, Instr.findNow (.int .i64) (i64 a) es i = some (some (i + j, e.val)) ∧ es[j]? = some e ∧ e.key = i64 a
  | [], i, _ => .inl ⟨rfl, by simp⟩
  | e :: es, i, h => by
    obtain ⟨k, v, hk, hv⟩ := h e (by simp)
    unfold Instr.findNow
    rw [hk]
    simp only [Instr.sameNow, if_true]
    by_cases he : a = k
    · subst he
      simp only [beq_self_eq_true]
      exact .inr ⟨0, e, rfl, rfl, hk⟩
    · have : (a == k) = false := by simpa using he
      rw [this]
      simp only
      rcases findNow_int a es (i + 1) (fun e he => h e (by simp [he])) with ⟨h1, h2⟩ | ⟨j, e', h1, h2, h3⟩
      · refine .inl ⟨h1, fun x hx => ?_⟩
        rcases List.mem_cons.1 hx with rfl | hx
        · rw [hk]; intro e; injection e with _ e; exact he e.symm
        · exact h2 x hx
      · exact .inr ⟨j + 1, e', by rw [h1]; congr 3; omega, by simpa using h2, h3⟩
theorem run_findKey_int {P : Program} {K : TypeId} (hK : P.underlying K = some (.int .i64)) (a : Int) (es : List MapEntry) (h : ∀ e ∈ es, ∃ k v, e.key = i64 k ∧ e.val = i64 v) (w : World) :
    ((Instr.findKey K (i64 a) es).run P w = .ok none w ∧ ∀ e ∈ es, e.key ≠ i64 a) ∨
    ∃ j e, (Instr.findKey K (i64 a) es).run P w = .ok (some (j, e.val)) w ∧ es[j]? = some e ∧ e.key = i64 a := by
  have run : ∀ r, Instr.findNow (.int .i64) (i64 a) es 0 = some r → (Instr.findKey K (i64 a) es).run P w = .ok r w := fun r hr => by
    unfold Instr.findKey
    simp only [Sem.run_bind, run_underlying hK, Result.andThen_ok, hr, Sem.run_pure]
  rcases findNow_int a es 0 h with ⟨h1, h2⟩ | ⟨j, e, h1, h2, h3⟩
  · exact .inl ⟨run _ h1, h2⟩
  · exact .inr ⟨j, e, by rw [run _ h1, Nat.zero_add], h2, h3⟩
theorem run_checkKey_int {P : Program} {K : TypeId} (hK : P.underlying K = some (.int .i64)) (em : Bool) (a : Int) (w : World) : (Instr.checkKey em 10000 K (i64 a)).run P w = .ok () w := by
  unfold Instr.checkKey
  simp only [Sem.run_bind, run_underlying hK, Result.andThen_ok, Sem.run_pure]
theorem map_look {m : Int → Option Int} {es : List MapEntry} {clock : Nat} (h : entriesOK m es clock) (a : Int) :
    ((∀ e ∈ es, e.key ≠ i64 a) → m a = none) ∧ ∀ e ∈ es, e.key = i64 a → ∃ v, e.val = i64 v ∧ m a = some v := by
  obtain ⟨h1, h2, _⟩ := h
  refine ⟨fun hn => ?_, fun e he hk => ?_⟩
  · cases hm : m a with
    | none => rfl
    | some v =>
      obtain ⟨e, he, hk⟩ := h2 a v hm
      exact absurd hk (hn e he)
  · obtain ⟨k, v, e1, e2, e3⟩ := h1 e he
    rw [hk] at e1
    injection e1 with _ e1
    subst e1
    exact ⟨v, e2, e3⟩
theorem run_getObj' {P : Program} {w : World} {r : Nat} {es : Array MapEntry} {clock : Nat} (h : w.heap[r]? = some (.map es clock)) : (getObj r).run P w = .ok (.map es clock) w := by simp [getObj, Sem.run, h]
theorem lookupV_sound {t : TypeId} {x key : V} {a b : Value} {c : Bool} (h : lookupV cfg lk HR t x key c k) (hx : Rel ρ x a) (hk : Rel ρ key b) :
    Told k ρ (SatR cfg lk ρ F HR) cfg.P (Instr.lookup t a b c) := by
  unfold lookupV at h
  split at h
  · rename_i i
    split at h
    · rename_i q
      obtain rfl := den_ext hk
      split at h
      · rename_i m n hH
        have hc := cond_elim h
        have hc1 := hc.1
        simp only [Bool.and_eq_true] at hc1
        obtain ⟨K, E, inf, z, u1, u2, u3, u4, u5⟩ := mapInt_spec hc1.1
        obtain ⟨bm, hb, rfl⟩ := den_mp hx
        refine ⟨_, (match c with | true => .tuple #[i64 ((m q).getD 0), .bool (m q).isSome] | false => i64 ((m q).getD 0)), hc.2, .inr (by cases c <;> rfl), fun w hw => ?_⟩
        obtain ⟨y, hy, b', es, clock, e1, e2, e3, e4, e5⟩ := hw i _ hH hc1.2
        rw [hb] at hy; injection hy with hy; subst hy
        injection e1 with e1
        injection e1 with e1
        subst e1
        have hes : ∀ e ∈ es.toList, ∃ k v, e.key = i64 k ∧ e.val = i64 v := fun e he => by
          obtain ⟨k, v, p1, p2, _⟩ := e4.1 e he; exact ⟨k, v, p1, p2⟩
        have hzr : (zeroValue E).run cfg.P w = .ok (i64 0) w := by simp [zeroValue, typeInfo, u3, u4, u5]
        obtain ⟨l1, l2⟩ := map_look e4 q
        rcases run_findKey_int u2 q es.toList hes w with ⟨r1, r2⟩ | ⟨j, e, r1, r2, r3⟩
        · cases c <;> simp only [Instr.lookup, Sem.run_bind, run_underlying u1, Result.andThen_ok, run_getObj' e3, Sem.run_pure, run_checkKey_int u2, r1, hzr, l1 r2, Bool.false_eq_true, if_false, if_true, Option.getD_none, Option.isSome_none]
        · obtain ⟨v, p1, p2⟩ := l2 e (List.mem_of_getElem? r2) r3
          cases c <;> simp only [Instr.lookup, Sem.run_bind, run_underlying u1, Result.andThen_ok, run_getObj' e3, Sem.run_pure, run_checkKey_int u2, r1, p1, p2, Bool.false_eq_true, if_false, if_true, Option.getD_some, Option.isSome_some]
      · exact h.elim
    · exact h.elim
  · exact h.elim
theorem pairwise_nodup {es : List MapEntry} (h : es.Pairwise (fun x y => x.born ≠ y.born)) : (es.map MapEntry.born).Nodup := List.pairwise_map.2 h
theorem entryV_sound {x : V} {a : Value} (h : entryV lk HR x k) (hx : Rel ρ x a) : Told k ρ (SatR cfg lk ρ F HR) cfg.P (Instr.entry a) := by
  unfold entryV at h
  split at h
  · rename_i i
    split at h
    · rename_i m left n q y hH
      have hc := cond_elim h
      obtain ⟨r, hb, rfl⟩ := den_ptr hx
      refine ⟨_, .tuple #[i64 q, i64 y], hc.2, .inr rfl, fun w hw => ?_⟩
      obtain ⟨x0, hx0, r', b, es, clock, seen, e1, e2, e3, e4, e5, e6, e7, e8⟩ := hw i _ hH hc.1
      rw [hb] at hx0; injection hx0 with hx0; subst hx0
      injection e1 with e1
      injection e1 with e1
      injection e1 with e1
      subst e1
      obtain ⟨seen', e, rfl, g2, g3, g4⟩ := e8 q y rfl
      have := Go.run_entry_at (P := cfg.P) w r b clock seen' es clock e e5 e4 g2 (pairwise_nodup e6.2.2.2.1)
      rw [g3, g4] at this
      exact this
    · exact h.elim
  · exact h.elim
theorem nilEq_sound {t : TypeId} {x y : Operand} {env : Env} {a : Act} {op : BinOp} {v : V} (h : nilCmp op (nilEq cfg t v y) k) (hx : Rel ρ v (a.eval x)) (S : World → Prop) :
    Told k ρ S cfg.P (do eqGuard op t x y (a.eval x) (a.eval y); binOp op t (a.eval x) (a.eval y)) := by
  have key : ∀ (r : Bool), nilEq cfg t v y = some r → ∀ w, (eqGuard op t x y (a.eval x) (a.eval y)).run cfg.P w = .ok () w ∧
      (binOp .eql t (a.eval x) (a.eval y)).run cfg.P w = .ok (.bool r) w ∧ (binOp .neq t (a.eval x) (a.eval y)).run cfg.P w = .ok (.bool (!r)) w := by
    intro r hr w
    have fin : ∀ (u1 u2 : Value), a.eval x = u1 → a.eval y = u2 → (eqGuard op t x y u1 u2).run cfg.P w = .ok () w → (binOp .eql t u1 u2 = (do pure (.bool (← Op.equal t u1 u2)))) →
        (binOp .neq t u1 u2 = (do pure (.bool (!(← Op.equal t u1 u2))))) → (Op.equal t u1 u2).run cfg.P w = .ok r w →
        (eqGuard op t x y (a.eval x) (a.eval y)).run cfg.P w = .ok () w ∧
      (binOp .eql t (a.eval x) (a.eval y)).run cfg.P w = .ok (.bool r) w ∧ (binOp .neq t (a.eval x) (a.eval y)).run cfg.P w = .ok (.bool (!r)) w := by
      intro u1 u2 h1 h2 h3 h4 h5 h6
      rw [h1, h2]
      exact ⟨h3, by rw [h4, Sem.run_bind, h6]; rfl, by rw [h5, Sem.run_bind, h6]; rfl⟩
    have eqr : ∀ (d : TypeDesc) (u1 u2 : Value) (m : Sem Bool), cfg.P.underlying t = some d → ((Op.equalIn 10000 t u1 u2).run cfg.P w = .ok r w) → (Op.equal t u1 u2).run cfg.P w = .ok r w := fun d u1 u2 m _ h => h
    unfold nilEq at hr
    split at hr
    · split at hr
      · rename_i ps rs vr _ _ _ hty
        obtain ⟨inf, z, h1, h2, h3, h4, h5⟩ := Cfg.ty_spec hty
        simp only at h2
        split at hr
        · injection hr with hr; subst hr
          have ha := hx.den (by simp)
          simp only [V.den] at ha
          split at ha
          · injection ha with ha
            exact fin _ .nilFunc ha.symm rfl (by unfold eqGuard; split <;> simp) rfl rfl (by show (Op.equalIn (9999 + 1) t _ _).run cfg.P w = _; unfold Op.equalIn; simp only [Sem.run_bind, run_underlying h2, Result.andThen_ok, Sem.run_pure])
          · cases ha
        · injection hr with hr; subst hr
          have ha := hx.den (by simp)
          simp only [V.den] at ha
          split at ha
          · injection ha with ha
            exact fin _ .nilFunc ha.symm rfl (by unfold eqGuard; split <;> simp) rfl rfl (by show (Op.equalIn (9999 + 1) t _ _).run cfg.P w = _; unfold Op.equalIn; simp only [Sem.run_bind, run_underlying h2, Result.andThen_ok, Sem.run_pure])
          · cases ha
        · injection hr with hr; subst hr
          have ha := den_ext hx
          exact fin _ .nilFunc ha rfl (by unfold eqGuard; split <;> simp) rfl rfl (by show (Op.equalIn (9999 + 1) t _ _).run cfg.P w = _; unfold Op.equalIn; simp only [Sem.run_bind, run_underlying h2, Result.andThen_ok, Sem.run_pure])
        · cases hr
      · cases hr
    · split at hr
      · rename_i e _ _ _ hty
        obtain ⟨inf, z, h1, h2, h3, h4, h5⟩ := Cfg.ty_spec hty
        simp only at h2
        split at hr
        · injection hr with hr; subst hr
          obtain ⟨b, hb, ha⟩ := den_ptr hx
          exact fin _ (.pointer none) ha rfl (by unfold eqGuard; split <;> simp) rfl rfl (by show (Op.equalIn (9999 + 1) t _ _).run cfg.P w = _; unfold Op.equalIn; simp only [Sem.run_bind, run_underlying h2, Result.andThen_ok, Sem.run_pure])
        · injection hr with hr; subst hr
          obtain ⟨ad, len, cap, hb, hn, ha⟩ := den_eptr hx
          exact fin _ (.pointer none) ha rfl (by unfold eqGuard; split <;> simp) rfl rfl (by show (Op.equalIn (9999 + 1) t _ _).run cfg.P w = _; unfold Op.equalIn; simp only [Sem.run_bind, run_underlying h2, Result.andThen_ok, Sem.run_pure])
        · injection hr with hr; subst hr
          have ha := den_ext hx
          exact fin _ (.pointer none) ha rfl (by unfold eqGuard; split <;> simp) rfl rfl (by show (Op.equalIn (9999 + 1) t _ _).run cfg.P w = _; unfold Op.equalIn; simp only [Sem.run_bind, run_underlying h2, Result.andThen_ok, Sem.run_pure, Option.isNone])
        · cases hr
      · cases hr
    · split at hr
      · rename_i ms _ _ _ hty
        obtain ⟨inf, z, h1, h2, h3, h4, h5⟩ := Cfg.ty_spec hty
        simp only at h2
        split at hr
        · injection hr with hr; subst hr
          have ha := den_ext hx
          exact fin _ .nilIface ha rfl (by unfold eqGuard; split <;> simp) rfl rfl (by show (Op.equalIn (9999 + 1) t _ _).run cfg.P w = _; unfold Op.equalIn; simp only [Sem.run_bind, run_underlying h2, Result.andThen_ok, Sem.run_pure])
        · injection hr with hr; subst hr
          have ha := den_ext hx
          exact fin _ .nilIface ha rfl (by unfold eqGuard; split <;> simp) rfl rfl (by show (Op.equalIn (9999 + 1) t _ _).run cfg.P w = _; unfold Op.equalIn; simp only [Sem.run_bind, run_underlying h2, Result.andThen_ok, Sem.run_pure])
        · cases hr
      · cases hr
    · cases hr
  unfold nilCmp at h
  split at h
  · rename_i r hr
    split at h
    · exact ⟨_, _, h, .inr rfl, fun w _ => by obtain ⟨k1, k2, k3⟩ := key r hr w; rw [Sem.run_bind, k1]; exact k2⟩
    · exact ⟨_, _, h, .inr rfl, fun w _ => by obtain ⟨k1, k2, k3⟩ := key r hr w; rw [Sem.run_bind, k1]; exact k3⟩
    · exact h.elim
  · exact h.elim
theorem sliceA_sound {t : TypeId} {x : V} {a : Value} {lo hi : Option Int} {m : Int} (h : sliceA cfg t x lo hi (some m) k) (hx : Rel ρ x a) (S : World → Prop)
    {lo' hi' : Option Value} {kd : IntKind} (hlo' : lo = none → lo' = none) (hhi : ∀ n, hi = some n → ∃ kd, hi' = some (.int kd n)) :
    Told k ρ S cfg.P (Instr.sliceAt t a lo' hi' (some (.int kd m))) := by
  unfold sliceA at h
  split at h
  · rename_i i o
    split at h
    · rename_i n E _ _ _ htA
      obtain ⟨inf', z', g1, g2, g3, g4, g5⟩ := Cfg.ty_spec htA
      simp only at g2
      split at h
      · rename_i iE q m' hE hm
        obtain ⟨inf'', z'', e1, e2, e3, e4, e5⟩ := Cfg.ty_spec hE
        injection hm with hm; subst hm
        obtain rfl := hlo' rfl
        obtain ⟨kh, rfl⟩ := hhi q rfl
        have r1 := Req_elim h
        have r2 := Req_elim r1.2
        have r3 := Req_elim r2.2
        have c1 : 0 ≤ m ∧ m ≤ (n : Int) := by simpa using r1.1
        have c2 : 0 ≤ q ∧ q ≤ m := by simpa using r2.1
        have c3 : 0 < m := by simpa using r3.1
        obtain ⟨b, hb, rfl⟩ := den_ptr hx
        refine ⟨_, _, r3.2, mk_asl hb, fun w _ => ?_⟩
        have hmn : ¬ m.toNat = 0 := by omega
        have c2' : q ≤ (m.toNat : Int) := by omega
        have hsz : (sizeOf E).run cfg.P w = .ok iE.size w := by rw [run_sizeOf' e1, e4]
        simp only [Instr.sliceAt, Sem.run_bind, run_underlying g2, Result.andThen_ok, Instr.sliceBounds, Instr.sliceBound, asIntOf, Sem.run_pure, Instr.sureAddr, c1, c2.1, c2', and_self, if_true, hsz, hmn, if_false, Nat.sub_zero, Nat.zero_mul, add_lit0, Nat.add_zero]
      · exact h.elim
    · exact h.elim
  · exact h.elim
theorem pureOp_sound (ok : CfgOK cfg) {o : Oper} {env : Env} {a : Act} (h : pureOp cfg lk HR o env k) (hE : ∀ t, Rel ρ (env t) (a.tmps.getD t undef))
    {w0 : World} (hS : SatR cfg lk ρ F HR w0) (hR : RowShape ρ HR) :
    ∃ v x, k v ∧ Rel ρ v x ∧ ∀ w, SatR cfg lk ρ F HR w → (execOp a.eval o).run cfg.P w = .ok (.value x) w := by
  obtain ⟨dst, op, type, pos, after, guard⟩ := o
  have he := fun x => REnv.ev hE x
  unfold pureOp at h
  split at h <;> first | exact h.elim | (rename_i hop; simp only at hop; subst hop)
  · exact ⟨_, _, h, he _, fun w _ => rfl⟩
  · exact ⟨_, _, h, he _, fun w _ => rfl⟩
  · rename_i c x y
    unfold pickV at h
    split at h
    · rename_i t ht
      have hc := he c
      rw [ht] at hc
      have hc := den_ext hc
      rcases br_elim h with ⟨rfl, h⟩ | ⟨rfl, h⟩
      · exact ⟨_, _, h, he _, fun w _ => by simp [execOp, hc, asBool]⟩
      · exact ⟨_, _, h, he _, fun w _ => by simp [execOp, hc, asBool]⟩
    · exact h.elim
  · rename_i op t x y yt
    cases hn : isNilC y with
    | true => rw [hn] at h; exact told_run (nilEq_sound (env := env) h (he x) _) rfl
    | false => rw [hn] at h; exact told_run (binV_sound _ _ h (he _) (he _) _) rfl
  · exact told_run (unV_sound h (he _) _) rfl
  · exact told_run (convV_sound h (he _) _) rfl
  · exact told_run (fieldAddrV_sound h (he _) _) rfl
  · exact told_run (indexAddrV_sound ok h (he _) (he _) hR _) rfl
  · exact told_run (loadV_sound h (he _) hS) rfl
  · exact told_run (fieldV_sound h (he _) _) rfl
  · exact told_run (extractV_sound h (he _) _) rfl
  · rename_i t parts
    cases hn : isArr cfg t with
    | true => rw [hn] at h; exact told_run (buildAV_sound h hE _) rfl
    | false => rw [hn] at h; exact told_run (buildV_sound h hE _) rfl
  · exact told_run (indexV_sound h (he _) (he _) _) rfl
  · exact told_run (lookupV_sound h (he _) (he _)) rfl
  · exact told_run (entryV_sound h (he _)) rfl
  · rename_i fn first caps
    split at h
    · rename_i f
      split at h
      · rename_i hf
        have hc := cond_elim h
        have h0 := list0 (a := first) (by rw [hf]; rfl)
        have hd := noJunk_den hE caps.toList hc.1
        refine ⟨_, .func (.func f) #[] (caps.map a.eval), hc.2, .inr ?_, fun w _ => ?_⟩
        · simp only [V.den, hd]
          rw [← Array.toList_map, Array.toArray_toList]
        · simp [execOp, Instr.makeFunc, h0]
      · rename_i x hf
        have hc := cond_elim h
        have hc1 := hc.1
        simp only [Bool.and_eq_true] at hc1
        have h0 := list0 hc1.1
        obtain rfl := list1 hf
        have hj : ev env x ≠ .junk := by
          intro e
          rw [e] at hc1
          simp [noJunk] at hc1
        have hd := (he x).den hj
        refine ⟨_, .func (.func f) #[a.eval x] #[], hc.2, .inr ?_, fun w _ => ?_⟩
        · simp only [V.den, hd]
        · simp [execOp, Instr.makeFunc, h0]
      · exact h.elim
    · exact h.elim
  · rename_i x
    unfold nilV at h
    have hx := he x
    split at h
    · rename_i i o hv
      rw [hv] at hx
      obtain ⟨b, hb, e⟩ := den_ptr hx
      exact ⟨_, _, h, hx, fun w _ => by simp [execOp, e]⟩
    · rename_i i n lo m j hv
      rw [hv] at hx
      obtain ⟨ad, len, cap, hb, hn, e⟩ := den_eptr hx
      exact ⟨_, _, h, hx, fun w _ => by simp [execOp, e]⟩
    · rename_i f caps hv
      rw [hv] at hx
      have e := hx.den (by simp)
      simp only [V.den] at e
      split at e
      · injection e with e
        exact ⟨_, _, h, hx, fun w _ => by simp [execOp, ← e]⟩
      · cases e
    · rename_i f y hv
      rw [hv] at hx
      have e := hx.den (by simp)
      simp only [V.den] at e
      split at e
      · injection e with e
        exact ⟨_, _, h, hx, fun w _ => by simp [execOp, ← e]⟩
      · cases e
    · exact h.elim
  · rename_i t x lo hi mx
    split at h
    · rename_i lo' hi' h1 h2
      obtain ⟨p1, p2⟩ := optInt_spec hE h1
      obtain ⟨q1, q2⟩ := optInt_spec hE h2
      exact told_run (sliceV_sound ok h (he _) hR _ p1 p2 q1 q2) rfl
    · rename_i mo lo' hi' h1 h2
      obtain ⟨p1, p2⟩ := optInt_spec hE h1
      obtain ⟨q1, q2⟩ := optInt_spec hE h2
      split at h
      · rename_i m hm
        have hmx := he mo
        unfold natOf at hm
        split at hm
        · rename_i kd p hp
          injection hm with hm
          subst hm
          rw [hp] at hmx
          have hmv := den_ext hmx
          refine told_run (sliceA_sound (kd := kd) h (he _) _ p2 q1) ?_
          simp [execOp, hmv]
        · cases hm
      · exact h.elim
    · exact h.elim
  · rename_i c
    split at h
    · rename_i b hb
      obtain ⟨callee, args, argTypes⟩ := c
      simp only at hb h
      subst hb
      unfold pureCall at h
      split at h
      · rename_i x t hargs hts
        obtain rfl := list1 hargs
        obtain rfl := list1 hts
        exact told_run (lenV_sound ok (ty := type) h (he _) hR _) (by simp [execOp, resolve, invoke, builtin])
      · rename_i x y hargs
        obtain rfl := list2 hargs
        exact told_run (maxV_sound (ts := argTypes) (ty := type) h (he _) (he _) _) (by simp [execOp, resolve, invoke, builtin])
      · rename_i x y hargs
        obtain rfl := list2 hargs
        exact told_run (minV_sound (ts := argTypes) (ty := type) h (he _) (he _) _) (by simp [execOp, resolve, invoke, builtin])
      · rename_i x y z r hargs
        split at h
        · rename_i n hn
          have hx := he x
          rw [hn] at hx
          have hx := den_ext hx
          obtain ⟨m, h1, h2⟩ := minL_sound (P := cfg.P) hE (y :: z :: r) n h
          refine told_run (m := Builtin.min_ argTypes type (args.map a.eval)) ⟨_, _, h1, .inr rfl, fun w _ => ?_⟩ (by simp [execOp, resolve, invoke, builtin])
          have hl : (args.map a.eval).toList = a.eval x :: (y :: z :: r).map a.eval := by rw [Array.toList_map, hargs]; rfl
          unfold Builtin.min_
          rw [hl, hx]
          exact h2 w
        · exact h.elim
      · exact h.elim
    · exact h.elim
end Go.Rx
end

section
namespace Go.Rx
variable {cfg : Cfg} {lk : Option (Blk → Bool)} {H : Heap} {ρ : List Value} {F : Nat → List Nat} {w : World}
structure Fr (H : Heap) (F : Nat → List Nat) (w : World) (H' : Heap) (F' : Nat → List Nat) (w' : World) : Prop where
  os : w'.os = w.os
  tape : w'.tape = w.tape
  output : w'.output = w.output
  size : w.heap.size ≤ w'.heap.size
  block : ∀ n, n < w.heap.size → (∀ (i : Nat) (b : Blk), H[i]? = some b → b.writable = true → n ∉ F i) → w'.heap[n]? = w.heap[n]?
  foot : ∀ (i : Nat) (b : Blk), H'[i]? = some b → b.writable = true → ∀ n ∈ F' i, w.heap.size ≤ n ∨ ∃ (j : Nat) (c : Blk), H[j]? = some c ∧ c.writable = true ∧ n ∈ F j
  foot2 : ∀ (i : Nat) (b : Blk), H'[i]? = some b → ∀ n ∈ F' i, w.heap.size ≤ n ∨ ∃ (j : Nat) (c : Blk), H[j]? = some c ∧ n ∈ F j
theorem Fr.refl : Fr H F w H F w := ⟨rfl, rfl, rfl, Nat.le_refl _, fun _ _ _ => rfl, fun i b hb hw _ hn => .inr ⟨i, b, hb, hw, hn⟩, fun i b hb _ hn => .inr ⟨i, b, hb, hn⟩⟩
theorem Fr.trans {H1 H2 H3 : Heap} {F1 F2 F3 : Nat → List Nat} {w1 w2 w3 : World} (h : Fr H1 F1 w1 H2 F2 w2) (k : Fr H2 F2 w2 H3 F3 w3) : Fr H1 F1 w1 H3 F3 w3 := by
  refine ⟨k.os.trans h.os, k.tape.trans h.tape, k.output.trans h.output, Nat.le_trans h.size k.size, fun n hn hno => ?_, fun i b hb hw n hn => ?_, fun i b hb n hn => ?_⟩
  · rw [k.block n (Nat.lt_of_lt_of_le hn h.size) (fun i b hb hw hmem => ?_), h.block n hn hno]
    rcases h.foot i b hb hw n hmem with h' | ⟨j, c, hc, hcw, hm⟩
    · omega
    · exact hno j c hc hcw hm
  · rcases k.foot i b hb hw n hn with h' | ⟨j, c, hc, hcw, hm⟩
    · exact .inl (Nat.le_trans h.size h')
    · exact h.foot j c hc hcw n hm
  · rcases k.foot2 i b hb n hn with h' | ⟨j, c, hc, hm⟩
    · exact .inl (Nat.le_trans h.size h')
    · exact h.foot2 j c hc n hm
theorem Fr.drew : Fr H F w H F w.drew := ⟨rfl, rfl, rfl, Nat.le_refl _, fun _ _ _ => rfl, fun i b hb hw _ hn => .inr ⟨i, b, hb, hw, hn⟩, fun i b hb _ hn => .inr ⟨i, b, hb, hn⟩⟩
def Kept (lk : Option (Blk → Bool)) (H : Heap) (F : Nat → List Nat) (w : World) (H' : Heap) (F' : Nat → List Nat) (w' : World) : Prop :=
  ∀ f, lk = some f → ∀ (i : Nat) (b : Blk), H[i]? = some b → f b = true → H'[i]? = some b ∧ F' i = F i ∧ ∀ n ∈ F i, w'.heap[n]? = w.heap[n]?
structure Step (cfg : Cfg) (lk : Option (Blk → Bool)) (ρ : List Value) (F : Nat → List Nat) (H : Heap) (w : World) (ρ' : List Value) (F' : Nat → List Nat) (H' : Heap) (w' : World) : Prop where
  le : Le ρ ρ'
  sat : Sat cfg.elT ρ' F' H' w'
  fr : Fr H F w H' F' w'
  kept : Kept lk H F w H' F' w'
def fset (F : Nat → List Nat) (i : Nat) (G : List Nat) : Nat → List Nat := fun j => if j = i then G else F j
theorem push_get {α : Type} {l : List α} {b c : α} {i : Nat} (h : (l ++ [b])[i]? = some c) : (i < l.length ∧ l[i]? = some c) ∨ (i = l.length ∧ c = b) := by
  by_cases hi : i < l.length
  · rw [List.getElem?_append_left hi] at h; exact .inl ⟨hi, h⟩
  · rw [List.getElem?_append_right (by omega)] at h
    have : i - l.length = 0 := by
      rcases Nat.eq_zero_or_pos (i - l.length) with h0 | h0
      · exact h0
      · rw [List.getElem?_eq_none (by simp; omega)] at h; cases h
    rw [this] at h
    simp at h
    exact .inr ⟨by omega, h.symm⟩
theorem Step.push (hs : Sat cfg.elT ρ F H w) {w' : World} {b : Blk} {x : Value} {G : List Nat} (hos : w'.os = w.os) (htape : w'.tape = w.tape) (hout : w'.output = w.output)
    (hsize : w.heap.size ≤ w'.heap.size) (hold : ∀ n, n < w.heap.size → w'.heap[n]? = w.heap[n]?) (hG : ∀ n ∈ G, w.heap.size ≤ n ∧ n < w'.heap.size) (hb : b.holds cfg.elT (ρ ++ [x]) w' x G) :
    Step cfg lk ρ F H w (ρ ++ [x]) (fset F H.length G) (H ++ [b]) w' := by
  have hne : ∀ (i : Nat) (c : Blk), H[i]? = some c → i ≠ H.length := fun i c hc => by have := (List.getElem?_eq_some_iff.1 hc).1; omega
  refine ⟨Le.append ρ [x], ⟨by simp [hs.len], fun i c y hc hy => ?_, fun i c hc n hn => ?_, fun i j c d hc hd hij hw n hn => ?_⟩,
    ⟨hos, htape, hout, hsize, fun n hn _ => hold n hn, fun i c hc hw n hn => ?_, fun i c hc n hn => ?_⟩, fun f hf i c hc hfc => ⟨?_, ?_, fun n hn => hold n (hs.lt i c hc n hn)⟩⟩
  · rcases push_get hc with ⟨hi, hc⟩ | ⟨rfl, rfl⟩
    · have hi' : i < ρ.length := by rw [hs.len]; exact hi
      rw [List.getElem?_append_left hi'] at hy
      simp only [fset, Nat.ne_of_lt hi, if_false]
      exact Blk.holds_le (Le.append ρ [x]) (fun n hn => hold n (hs.lt i c hc n hn)) c (hs.each i c y hc hy)
    · rw [← hs.len] at hy
      simp at hy
      subst hy
      simp only [fset, if_true]
      exact hb
  · rcases push_get hc with ⟨hi, hc⟩ | ⟨rfl, rfl⟩
    · simp only [fset, Nat.ne_of_lt hi, if_false] at hn
      exact Nat.lt_of_lt_of_le (hs.lt i c hc n hn) hsize
    · simp only [fset, if_true] at hn
      exact (hG n hn).2
  · rcases push_get hc with ⟨hi, hc'⟩ | ⟨rfl, rfl⟩
    · simp only [fset, Nat.ne_of_lt hi, if_false] at hn
      rcases push_get hd with ⟨hj, hd'⟩ | ⟨rfl, rfl⟩
      · simp only [fset, Nat.ne_of_lt hj, if_false]
        exact hs.disj i j c d hc' hd' hij hw n hn
      · simp only [fset, if_true]
        intro hm
        have := hs.lt i c hc' n hn
        have := (hG n hm).1
        omega
    · simp only [fset, if_true] at hn
      rcases push_get hd with ⟨hj, hd'⟩ | ⟨rfl, rfl⟩
      · simp only [fset, Nat.ne_of_lt hj, if_false]
        intro hm
        have := hs.lt j d hd' n hm
        have := (hG n hn).1
        omega
      · exact absurd rfl hij
  · rcases push_get hc with ⟨hi, hc'⟩ | ⟨rfl, rfl⟩
    · simp only [fset, Nat.ne_of_lt hi, if_false] at hn
      exact .inr ⟨i, c, hc', hw, hn⟩
    · simp only [fset, if_true] at hn
      exact .inl (hG n hn).1
  · rcases push_get hc with ⟨hi, hc'⟩ | ⟨rfl, rfl⟩
    · simp only [fset, Nat.ne_of_lt hi, if_false] at hn
      exact .inr ⟨i, c, hc', hn⟩
    · simp only [fset, if_true] at hn
      exact .inl (hG n hn).1
  · rw [List.getElem?_append_left (List.getElem?_eq_some_iff.1 hc).1]; exact hc
  · simp only [fset, hne i c hc, if_false]
theorem get_new (hs : Sat cfg.elT ρ F H w) (x : Value) : (ρ ++ [x])[H.length]? = some x := by rw [← hs.len]; simp
theorem Step.set (hs : Sat cfg.elT ρ F H w) {w' : World} {i : Nat} {b b' : Blk} {x : Value} {G : List Nat} (hb : H[i]? = some b) (hw : b.writable = true) (hx : ρ[i]? = some x)
    (hlk : ∀ f, lk = some f → f b = false)
    (hos : w'.os = w.os) (htape : w'.tape = w.tape) (hout : w'.output = w.output) (hsize : w.heap.size ≤ w'.heap.size) (hold : ∀ n, n < w.heap.size → n ∉ F i → w'.heap[n]? = w.heap[n]?)
    (hG : ∀ n ∈ G, n ∈ F i) (hb' : b'.holds cfg.elT ρ w' x G) : Step cfg lk ρ F H w ρ (fset F i G) (H.set i b') w' := by
  have hi := (List.getElem?_eq_some_iff.1 hb).1
  have hget : ∀ (j : Nat) (c : Blk), (H.set i b')[j]? = some c → (j = i ∧ c = b') ∨ (j ≠ i ∧ H[j]? = some c) := fun j c hc => by
    rw [List.getElem?_set] at hc
    split at hc
    · rename_i e; subst e; simp [hi] at hc; exact .inl ⟨rfl, hc.symm⟩
    · rename_i e; exact .inr ⟨fun h => e h.symm, hc⟩
  refine ⟨Le.refl ρ, ⟨by simp [hs.len], fun j c y hc hy => ?_, fun j c hc n hn => ?_, fun j k c d hc hd hjk hcw n hn => ?_⟩,
    ⟨hos, htape, hout, hsize, fun n hn hno => hold n hn (hno i b hb hw), fun j c hc hcw n hn => ?_, fun j c hc n hn => ?_⟩, fun f hf j c hc hfc => ?_⟩
  · rcases hget j c hc with ⟨rfl, rfl⟩ | ⟨hne, hc⟩
    · rw [hx] at hy; injection hy with hy; subst hy
      simp only [fset, if_true]; exact hb'
    · simp only [fset, hne, if_false]
      exact Blk.holds_le (Le.refl ρ) (fun n hn => hold n (hs.lt j c hc n hn) (fun hm => hs.disj i j b c hb hc (Ne.symm hne) hw n hm hn)) c (hs.each j c y hc hy)
  · rcases hget j c hc with ⟨rfl, rfl⟩ | ⟨hne, hc⟩
    · simp only [fset, if_true] at hn
      exact Nat.lt_of_lt_of_le (hs.lt j b hb n (hG n hn)) hsize
    · simp only [fset, hne, if_false] at hn
      exact Nat.lt_of_lt_of_le (hs.lt j c hc n hn) hsize
  · rcases hget j c hc with ⟨rfl, rfl⟩ | ⟨hne, hc'⟩
    · simp only [fset, if_true] at hn
      rcases hget k d hd with ⟨rfl, rfl⟩ | ⟨hne', hd'⟩
      · exact absurd rfl hjk
      · simp only [fset, hne', if_false]
        exact hs.disj j k b d hb hd' hjk hw n (hG n hn)
    · simp only [fset, hne, if_false] at hn
      rcases hget k d hd with ⟨rfl, rfl⟩ | ⟨hne', hd'⟩
      · simp only [fset, if_true]
        intro hm
        exact hs.disj j k c b hc' hb hjk hcw n hn (hG n hm)
      · simp only [fset, hne', if_false]
        exact hs.disj j k c d hc' hd' hjk hcw n hn
  · rcases hget j c hc with ⟨rfl, rfl⟩ | ⟨hne, hc'⟩
    · simp only [fset, if_true] at hn
      exact .inr ⟨j, b, hb, hw, hG n hn⟩
    · simp only [fset, hne, if_false] at hn
      exact .inr ⟨j, c, hc', hcw, hn⟩
  · rcases hget j c hc with ⟨rfl, rfl⟩ | ⟨hne, hc'⟩
    · simp only [fset, if_true] at hn
      exact .inr ⟨j, b, hb, hG n hn⟩
    · simp only [fset, hne, if_false] at hn
      exact .inr ⟨j, c, hc', hn⟩
  · have hne : j ≠ i := fun e => by subst e; rw [hb] at hc; injection hc with hc; subst hc; rw [hlk f hf] at hfc; cases hfc
    refine ⟨by rw [List.getElem?_set_ne (Ne.symm hne)]; exact hc, by simp only [fset, hne, if_false], fun n hn => hold n (hs.lt j c hc n hn) (fun hm => hs.disj i j b c hb hc (Ne.symm hne) hw n hm hn)⟩
theorem Kept.trans {H1 H2 H3 : Heap} {F1 F2 F3 : Nat → List Nat} {w1 w2 w3 : World} (h : Kept lk H1 F1 w1 H2 F2 w2) (k : Kept lk H2 F2 w2 H3 F3 w3) : Kept lk H1 F1 w1 H3 F3 w3 := by
  intro f hf i b hb hfb
  obtain ⟨a1, a2, a3⟩ := h f hf i b hb hfb
  obtain ⟨b1, b2, b3⟩ := k f hf i b a1 hfb
  exact ⟨b1, by rw [b2, a2], fun n hn => by rw [b3 n (by rw [a2]; exact hn), a3 n hn]⟩
theorem Step.trans {ρ1 ρ2 ρ3 : List Value} {H1 H2 H3 : Heap} {F1 F2 F3 : Nat → List Nat} {w1 w2 w3 : World} (h : Step cfg lk ρ1 F1 H1 w1 ρ2 F2 H2 w2) (k : Step cfg lk ρ2 F2 H2 w2 ρ3 F3 H3 w3) : Step cfg lk ρ1 F1 H1 w1 ρ3 F3 H3 w3 :=
  ⟨h.le.trans k.le, k.sat, h.fr.trans k.fr, h.kept.trans k.kept⟩
theorem Step.refl (hs : Sat cfg.elT ρ F H w) : Step cfg lk ρ F H w ρ F H w :=
  ⟨Le.refl _, hs, Fr.refl, fun _ _ _ _ hb _ => ⟨hb, rfl, fun _ _ => rfl⟩⟩
theorem alloc_old (w : World) (o : Obj) (n : Nat) (h : n < w.heap.size) : (w.alloc o).heap[n]? = w.heap[n]? := Go.RowKit.Below.heap_alloc w o n h
theorem alloc_new (w : World) (o : Obj) : (w.alloc o).heap[w.heap.size]? = some o := heap_alloc_new w o
theorem Step.cells (hs : Sat cfg.elT ρ F H w) {T U : TypeId} {cs : List V} {xs : List Value} (hd : denL ρ cs = some xs) :
    Step cfg lk ρ F H w (ρ ++ [.pointer (some ⟨w.heap.size, 0, none⟩)]) (fset F H.length [w.heap.size]) (H ++ [.cells U cs]) (w.alloc (.cells xs.toArray T)) :=
  .push hs rfl rfl rfl (by simp) (fun n hn => alloc_old w _ n hn) (fun n hn => by simp at hn; subst hn; simp) ⟨_, xs, rfl, rfl, denL_le (Le.append _ _) _ _ hd, T, alloc_new w _⟩
theorem Step.row (hs : Sat cfg.elT ρ F H w) {t : Nat} {l : List (El t)} {w' : World} {x : Value} (hown : w'.ownsRow w.heap.size (cfg.elT t) (elM t) x l.length (flat t l)) (hg : w.grownBy w' none) :
    Step cfg lk ρ F H w (ρ ++ [x]) (fset F H.length x.ownBlock.toList) (H ++ [.row t l false]) w' :=
  .push hs hg.os hg.tape hg.output hg.size (fun n hn => hg.block n hn (by simp))
    (fun n hn => by
      have hb : x.ownBlock = some n := by simpa using hn
      exact hown.lt n hb)
    ⟨⟨hown.1, hown.2.imp id fun ⟨g, cap, cur, h1, _, h2⟩ => ⟨g, cap, cur, h1, Nat.zero_le _, h2⟩⟩, rfl⟩
variable {k : V → Heap → Prop}
theorem storeRow_sound {P : Program} {t : TypeId} {inf : TypeInfo} (hi : P.info? t = some inf) (g o : Nat) (T : TypeId) (vs : List Value) (cur : List Value) {x : Value} (hx : x.cells.toList = vs)
    (hg : w.heap[g]? = some (.cells cur.toArray T (0, 0))) (hl : vs.length = inf.size) (hfit : o + vs.length ≤ cur.length) (h1 : ∀ v ∈ vs, v.oneCell' = true) :
    (Instr.storeAt t (.pointer (some ⟨g, o, none⟩)) x).run P w = .ok () (w.setRow g (cur.take o ++ vs ++ cur.drop (o + vs.length)).toArray) := by
  have hsz : x.cells.size = inf.size := by rw [← hl, ← hx, Array.length_toList]
  have hst := run_storeCells_at P g o T vs 0 cur.toArray w hg (by simpa using hfit) h1
  simp only [Nat.add_zero] at hst
  simp only [Instr.storeAt, Instr.sureAddr, Sem.run_bind, Sem.run_pure, Result.andThen_ok, storeVar, run_sizeOf' hi]
  simp [hsz, hx, hst]
theorem mayWrite_lk {b : Blk} (h : mayWrite lk b = true) : ∀ f, lk = some f → f b = false := by
  intro f hf; subst hf; simpa [mayWrite] using h
theorem flat_set_cells (t : Nat) (e : El t) (ys : List Value) (j : Nat) (hj : j + ys.length ≤ elM t) : ∀ (l : List (El t)) (q : Nat), q < l.length →
    elEnc t e = (elEnc t (l.getD q (elD t))).take j ++ ys ++ (elEnc t (l.getD q (elD t))).drop (j + ys.length) →
    flat t (l.set q e) = (flat t l).take (q * elM t + j) ++ ys ++ (flat t l).drop (q * elM t + j + ys.length)
  | [], q, hq, _ => by simp at hq
  | x :: r, 0, _, he => by
    simp only [List.getD_cons_zero] at he
    show elEnc t e ++ flat t r = (elEnc t x ++ flat t r).take _ ++ ys ++ (elEnc t x ++ flat t r).drop _
    rw [List.take_append_of_le_length (by rw [elEnc_len]; omega), List.drop_append_of_le_length (by rw [elEnc_len]; omega), he]
    simp
  | x :: r, q + 1, hq, he => by
    simp only [List.getD_cons_succ] at he
    have ih := flat_set_cells t e ys j hj r q (by simpa using hq) he
    show elEnc t x ++ flat t (r.set q e) = (elEnc t x ++ flat t r).take _ ++ ys ++ (elEnc t x ++ flat t r).drop _
    have e1 : (q + 1) * elM t + j = (elEnc t x).length + (q * elM t + j) := by rw [elEnc_len, Nat.add_mul]; omega
    have e2 : (q + 1) * elM t + j + ys.length = (elEnc t x).length + (q * elM t + j + ys.length) := by rw [e1]; omega
    rw [e2, e1, List.take_length_add_append, List.drop_length_add_append, ih]
    simp
theorem take_of_parts {α : Type} (A R ys : List α) (a b : Nat) (hb : b ≤ A.length) (hab : a + ys.length = b) :
    ((A ++ R).take a ++ ys ++ (A ++ R).drop b).take A.length = A.take a ++ ys ++ A.drop b := by
  have h1 : (A ++ R).take a = A.take a := List.take_append_of_le_length (by omega)
  have h2 : (A ++ R).drop b = A.drop b ++ R := List.drop_append_of_le_length hb
  rw [h1, h2, ← List.append_assoc]
  refine List.take_left' ?_
  simp; omega
theorem storeV_sound {T : TypeId} {a x : V} {ad y : Value} {k : Heap → Prop} (h : storeV cfg lk T a x H k) (ha : Rel ρ a ad) (hx : Rel ρ x y) (hs : Sat cfg.elT ρ F H w) :
    ∃ F' H' w', k H' ∧ Step cfg lk ρ F H w ρ F' H' w' ∧ (Instr.storeAt T ad y).run cfg.P w = .ok () w' := by
  unfold storeV at h
  split at h
  · exact h.elim
  · rename_i i hi
    obtain ⟨inf, z, i1, i2, i3, i4, i5⟩ := Cfg.ty_spec hi
    have hc := cond_elim h
    have hc1 := hc.1
    simp only [Bool.and_eq_true] at hc1
    have hh := hc.2
    clear h hc
    obtain ⟨hleaf, hlen⟩ := hc1
    have hlen := Nat.eq_of_beq_eq_true hlen
    have hd := vcells_den hx hleaf
    have hone := allLeaf_den hleaf hd
    have hl := denL_len hd
    split at hh
    · rename_i b off
      split at hh
      · rename_i T' cs hH
        have hc := cond_elim hh
        have hc1 := hc.1
        simp only [Bool.and_eq_true] at hc1
        obtain ⟨hm, hfit⟩ := hc1
        have hfit := Nat.le_of_ble_eq_true hfit
        obtain ⟨g, hb, rfl⟩ := den_ptr ha
        obtain ⟨g', vs, e, hF, hvs, U, hg⟩ := hs.each b _ _ hH hb
        injection e with e; injection e with e; injection e with e; subst e
        have hl2 := denL_len hvs
        have hrun := storeRow_sound (w := w) i1 g off U y.cells.toList vs rfl hg (by omega) (by omega) hone
        refine ⟨fset F b [g], _, _, hc.2, ?_, hrun⟩
        refine .set (w' := w.setRow g _) hs (G := [g]) hH rfl hb (mayWrite_lk hm) rfl rfl rfl (by simp [World.setRow]) (fun n hn hno => setRow_other w g n _ (fun e => hno (by simp [hF, e]))) (fun n hn => by simp only [hF]; exact hn) ?_
        exact ⟨g, _, rfl, rfl, setCells_den _ _ _ _ _ hd hvs (by omega), U, setRow_heap w g _ _ _ _ hg⟩
      · exact hh.elim
    · rename_i b n lo m j
      split at hh
      · rename_i tg l ro hH
        have hc := cond_elim hh
        have hc1 := hc.1
        simp only [Bool.and_eq_true] at hc1
        obtain ⟨hm, hro, hfit, hmm⟩ := hc1
        have hfit := Nat.le_of_ble_eq_true hfit
        obtain rfl := Nat.eq_of_beq_eq_true hmm
        have hro : ro = false := by simpa using hro
        subst hro
        have hr := Req_elim hc.2
        obtain ⟨h0, h1⟩ := inR_spec hr.1
        have hq := hr.2
        clear hh hc
        split at hq
        · rename_i vs hvs
          split at hq
          · rename_i e he
            obtain ⟨ad', len, cap, hb, hn, rfl⟩ := den_eptr ha
            obtain ⟨hown, hF⟩ := hs.each b _ _ hH hb
            have hk : (offs n lo).toNat < l.length := by omega
            have hee := elDec_enc tg vs e he
            have hvs' := extsV_den (ρ := ρ) hvs
            have hd' := setCells_den (ρ := ρ) _ _ _ _ j hd (denL_ext (ρ := ρ) (elEnc tg (l.getD (offs n lo).toNat (elD tg)))) (by simp [elEnc_len]; omega)
            rw [hvs'] at hd'
            injection hd' with hd'
            rcases hown.2 with ⟨h', _⟩ | ⟨g, cap', cur, h', _, hg, hcap, hcm, hcs, htake⟩
            · cases h'
            · injection h' with e1 e2 e3
              injection e1 with e1
              subst e1
              generalize (offs n lo).toNat = q at *
              have hflat := flat_len tg l
              have hqm : q * elM tg + elM tg ≤ l.length * elM tg := by
                have : (q + 1) * elM tg ≤ l.length * elM tg := Nat.mul_le_mul_right _ hk
                rw [Nat.add_mul] at this; omega
              have hcl : l.length * elM tg ≤ cur.size := by rw [hcs]; exact Nat.mul_le_mul_right _ hcap
              have hg' : w.heap[g]? = some (.cells cur.toList.toArray (cfg.elT tg) (0, 0)) := by simpa using hg
              have hy : j + y.cells.toList.length ≤ elM tg := by rw [← hl]; exact hfit
              have hroom : q * elM tg + j + y.cells.toList.length ≤ cur.toList.length := by have hcl2 : cur.toList.length = cur.size := Array.length_toList; omega
              have hrun := storeRow_sound (w := w) i1 g (q * elM tg + j) (cfg.elT tg) y.cells.toList cur.toList rfl hg' (by omega) hroom hone
              rw [add_lit0, Nat.zero_add]
              refine ⟨fset F b [g], _, _, hq, ?_, hrun⟩
              refine .set (w' := w.setRow g _) hs (G := [g]) hH rfl hb (mayWrite_lk hm) rfl rfl rfl (by simp [World.setRow]) (fun n hn hno => setRow_other w g n _ (fun e => hno (by simp [hF, Value.ownBlock, e]))) (fun n hn => by simpa [hF, Value.ownBlock] using hn) ?_
              refine ⟨⟨by rw [flat_len], .inr ⟨g, cap, _, by simp [e2], Nat.zero_le _, setRow_heap w g _ _ _ _ hg, by rw [e3]; simpa using hcap, by rw [e3]; exact hcm, ?_, ?_⟩⟩, by simp [Value.ownBlock]⟩
              · rw [e3, ← hcs, List.size_toArray, List.length_append, List.length_append, List.length_take, List.length_drop]
                have hcl2 : cur.toList.length = cur.size := Array.length_toList
                omega
              · have hcur : cur.toList = flat tg l ++ cur.toList.drop (l.length * elM tg) := by rw [← htake]; simp
                have hset := flat_set_cells tg e y.cells.toList j hy l q hk (by rw [hee]; exact hd')
                rw [List.length_set, hset, ← hflat]
                show (((cur.toList.take (q * elM tg + j) ++ y.cells.toList ++ cur.toList.drop (q * elM tg + j + y.cells.toList.length)).toArray).toList).take _ = _
                generalize cur.toList.drop (l.length * elM tg) = R at hcur
                rw [hcur]
                exact take_of_parts _ _ _ _ _ (by rw [hflat]; omega) rfl
          · exact hq.elim
        · exact hq.elim
      · exact hh.elim
    · exact hh.elim
end Go.Rx
end

section
namespace Go.Rx
variable {cfg : Cfg} {lk : Option (Blk → Bool)} {H : Heap} {ρ : List Value} {F : Nat → List Nat} {w : World} {k : V → Heap → Prop}
theorem madeCells_take (z : Array Value) (t : Nat) (hz : z = (elEnc t (elD t)).toArray) (n c : Nat) (h : n ≤ c) : (madeCells z (c * elM t)).toList.take (n * elM t) = flat t (List.replicate n (elD t)) := by
  have hzs : z.size = elM t := by rw [hz]; simp [elEnc_len]
  have hpos := elM_pos t
  apply List.ext_getElem?
  intro p
  rw [List.getElem?_take]
  have hle : n * elM t ≤ c * elM t := Nat.mul_le_mul_right _ h
  by_cases hp : p < n * elM t
  · rw [if_pos hp]
    have hq : p / elM t < n := Nat.div_lt_of_lt_mul (by rw [Nat.mul_comm]; exact hp)
    have hr : p % elM t < elM t := Nat.mod_lt _ hpos
    have e : p = p / elM t * elM t + p % elM t := by rw [Nat.mul_comm]; exact (Nat.div_add_mod p (elM t)).symm
    have hf := flat_get t (List.replicate n (elD t)) (p / elM t) (by simpa using hq) (p % elM t) hr
    rw [← e] at hf
    rw [hf]
    have hd : (List.replicate n (elD t)).getD (p / elM t) (elD t) = elD t := by simp [List.getD, List.getElem?_replicate, hq]
    rw [hd]
    have hpc : p < c * elM t := by omega
    simp only [madeCells, Array.toList_map, Array.toList_range, List.getElem?_map, List.getElem?_range hpc, Option.map_some, hzs]
    subst hz
    have : p % elM t < (elEnc t (elD t)).length := by rw [elEnc_len]; exact hr
    simp [this]
  · rw [if_neg hp, List.getElem?_eq_none]
    rw [flat_len]; simpa using hp
theorem makeSliceV_sound (ok : CfgOK cfg) {t : TypeId} {x y : V} {a b : Value} (h : makeSliceV cfg t x y H k) (hx : Rel ρ x a) (hy : Rel ρ y b) (hs : Sat cfg.elT ρ F H w) :
    ∃ v z ρ' F' H' w', k v H' ∧ Rel ρ' v z ∧ Step cfg lk ρ F H w ρ' F' H' w' ∧ (Instr.makeSlice t a b).run cfg.P w = .ok z w' := by
  unfold makeSliceV at h
  split at h
  · rename_i tg n c ht
    have ha := den_ext hx; have hb := den_ext hy
    subst ha; subst hb
    have hr := Req_elim h
    have hq : 0 ≤ n ∧ n ≤ c ∧ c ≤ 1048576 := by simpa using hr.1
    obtain ⟨u1, inf, z, u2, u3, u4, u5, u6⟩ := ok.tags t tg ht
    have hb : (inf.bytes : Int) * c ≤ 281474976710656 := by
      have h1 : (inf.bytes : Int) * c ≤ 65536 * c := Int.mul_le_mul_of_nonneg_right (by omega) (by omega)
      omega
    have hrun := run_make (P := cfg.P) w t (cfg.elT tg) inf z u1 u2 u3 .i64 .i64 n c hq.1 hq.2.1 hb (by omega)
    refine ⟨_, .slice (some ⟨w.heap.size, 0, none⟩) n.toNat c.toNat, _, _, _, _, hr.2, .inr ?_, Step.row hs (x := .slice (some ⟨w.heap.size, 0, none⟩) n.toNat c.toNat) ?_ (World.grownBy_alloc w _ none), hrun⟩
    · simp only [V.den, get_new hs]
    · rw [List.length_replicate]
      refine ⟨by rw [flat_len, List.length_replicate], .inr ⟨_, c.toNat, _, rfl, Nat.le_refl _, heap_alloc_new w _, by omega, by simp only [maxLen]; omega, by rw [size_madeCells, u5], ?_⟩⟩
      rw [u5]
      exact madeCells_take _ tg u4 _ _ (by omega)
  · exact h.elim
theorem rowify_sound {tg : Option Nat} {v v' : V} {H' : Heap} {x : Value} (h : rowify H tg v = (v', H')) (hx : Rel ρ v x) (hs : Sat cfg.elT ρ F H w) :
    ∃ ρ' F', Rel ρ' v' x ∧ Step cfg lk ρ F H w ρ' F' H' w := by
  unfold rowify at h
  split at h
  · rename_i t
    injection h with h1 h2
    subst h1; subst h2
    have hx := den_ext hx
    subst hx
    refine ⟨ρ ++ [.slice none 0 0], _, .inr ?_, .push hs (b := .row t [] false) (x := .slice none 0 0) (G := []) rfl rfl rfl (Nat.le_refl _) (fun _ _ => rfl) (by simp) ⟨World.ownsRow_nil _ _ _ _, rfl⟩⟩
    simp only [V.den, get_new hs]
  · injection h with h1 h2
    subst h1; subst h2
    exact ⟨ρ, F, hx, .refl hs⟩
theorem rowOf_sound {K : (t : Nat) → List (El t) → Prop} {v : V} {x : Value} (h : rowOf H v K) (hx : Rel ρ v x) (hs : Sat cfg.elT ρ F H w) :
    ∃ t l ad cap, K t l ∧ x = .slice ad l.length cap ∧ (ad = none → cap = 0) ∧ l.length ≤ maxLen ∧ ∀ j y, (flat t l)[j]? = some y → ∃ a, ad = some a ∧ w.cell? (a.add j) = some y := by
  unfold rowOf at h
  split at h
  · rename_i i
    split at h
    · rename_i t l ro hH
      have ha := den_row hx
      obtain ⟨ad, cap, rfl, h1, h2, h3, h4⟩ := row_val (hs.each i _ _ hH ha)
      exact ⟨t, l, ad, cap, h, rfl, h3, by omega, fun j y hj => let ⟨a, e, _, hc⟩ := h4 j y hj; ⟨a, e, hc⟩⟩
    · exact h.elim
  · rename_i i lo n m
    split at h
    · rename_i t l ro hH
      have hc := cond_elim h
      obtain rfl := Nat.eq_of_beq_eq_true hc.1
      have hr := Req_elim hc.2
      have hq : lo + n ≤ l.length := by simpa using hr.1
      obtain ⟨ad, len, cap, hb, rfl⟩ := den_sub hx
      obtain ⟨ad', cap', e, h1, h2, h3, h4⟩ := row_val (hs.each i _ _ hH hb)
      injection e with e1 e2 e3
      subst e1; subst e2; subst e3
      have hlen : ((l.drop lo).take n).length = n := by simp; omega
      refine ⟨t, _, _, _, hr.2, by rw [hlen], fun hno => ?_, by rw [hlen]; omega, fun j y hj => ?_⟩
      · cases ad with
        | none => have := h3 rfl; omega
        | some a => split at hno <;> simp at hno
      · rw [flat_take, flat_drop, List.getElem?_take] at hj
        split at hj
        · rename_i hjl
          rw [List.getElem?_drop] at hj
          obtain ⟨a, e, _, hc⟩ := h4 _ y hj
          subst e
          have hn : 0 < n := by
            rcases Nat.eq_zero_or_pos n with h0 | h0
            · subst h0; simp at hjl
            · exact h0
          have hne : ¬ cap = lo := by omega
          exact ⟨_, by rw [if_neg hne]; rfl, by rw [add_add]; exact hc⟩
        · cases hj
    · exact h.elim
  · exact h.elim
theorem Step.move (hs : Sat cfg.elT ρ F H w) {w' : World} {i : Nat} {b b' : Blk} {x : Value} {G : List Nat} (hb : H[i]? = some b) (hw : b.writable = true)
    (hlk : ∀ f, lk = some f → f b = false)
    (hos : w'.os = w.os) (htape : w'.tape = w.tape) (hout : w'.output = w.output) (hsize : w.heap.size ≤ w'.heap.size) (hold : ∀ n, n < w.heap.size → n ∉ F i → w'.heap[n]? = w.heap[n]?)
    (hG : ∀ n ∈ G, n < w'.heap.size ∧ (n ∈ F i ∨ w.heap.size ≤ n)) (hb' : b'.holds cfg.elT (ρ ++ [x]) w' x G) :
    Step cfg lk ρ F H w (ρ ++ [x]) (fset (fset F i []) H.length G) (H.set i .dead ++ [b']) w' := by
  have hi := (List.getElem?_eq_some_iff.1 hb).1
  have hget : ∀ (j : Nat) (c : Blk), (H.set i .dead ++ [b'])[j]? = some c → (j = i ∧ c = .dead) ∨ (j ≠ i ∧ j < H.length ∧ H[j]? = some c) ∨ (j = H.length ∧ c = b') := fun j c hc => by
    rcases push_get hc with ⟨hj, hq⟩ | ⟨h1, h2⟩
    · rw [List.length_set] at hj
      by_cases e : i = j
      · subst e; rw [List.getElem?_set_self hi] at hq; injection hq with hq; exact .inl ⟨rfl, hq.symm⟩
      · rw [List.getElem?_set_ne e] at hq; exact .inr (.inl ⟨fun h => e h.symm, hj, hq⟩)
    · rw [List.length_set] at h1; exact .inr (.inr ⟨h1, h2⟩)
  have fold : ∀ j, j ≠ i → j < H.length → fset (fset F i []) H.length G j = F j := fun j h1 h2 => by simp only [fset, Nat.ne_of_lt h2, if_false, h1]
  have fnew : fset (fset F i []) H.length G H.length = G := by simp only [fset, if_true]
  have fdead : fset (fset F i []) H.length G i = [] := by simp only [fset, Nat.ne_of_lt hi, if_false, if_true]
  have hkeep : ∀ (j : Nat) (c : Blk), j ≠ i → H[j]? = some c → ∀ n ∈ F j, w'.heap[n]? = w.heap[n]? := fun j c hne hc n hn =>
    hold n (hs.lt j c hc n hn) (fun hm => hs.disj i j b c hb hc (Ne.symm hne) hw n hm hn)
  refine ⟨Le.append ρ [x], ⟨by simp [hs.len], fun j c y hc hy => ?_, fun j c hc n hn => ?_, fun j k c d hc hd hjk hcw n hn => ?_⟩,
    ⟨hos, htape, hout, hsize, fun n hn hno => hold n hn (hno i b hb hw), fun j c hc hcw n hn => ?_, fun j c hc n hn => ?_⟩, fun f hf j c hc hfc => ?_⟩
  · rcases hget j c hc with ⟨rfl, rfl⟩ | ⟨hne, hj, hc'⟩ | ⟨rfl, rfl⟩
    · exact fdead
    · rw [fold j hne hj]
      rw [List.getElem?_append_left (by rw [hs.len]; exact hj)] at hy
      exact Blk.holds_le (Le.append ρ [x]) (hkeep j c hne hc') c (hs.each j c y hc' hy)
    · rw [fnew]
      rw [← hs.len] at hy
      simp at hy
      subst hy
      exact hb'
  · rcases hget j c hc with ⟨rfl, rfl⟩ | ⟨hne, hj, hc'⟩ | ⟨rfl, rfl⟩
    · rw [fdead] at hn; cases hn
    · rw [fold j hne hj] at hn; exact Nat.lt_of_lt_of_le (hs.lt j c hc' n hn) hsize
    · rw [fnew] at hn; exact (hG n hn).1
  · rcases hget j c hc with ⟨rfl, rfl⟩ | ⟨hne, hj, hc'⟩ | ⟨rfl, rfl⟩
    · cases hcw
    · rw [fold j hne hj] at hn
      rcases hget k d hd with ⟨rfl, rfl⟩ | ⟨hne', hk, hd'⟩ | ⟨rfl, rfl⟩
      · rw [fdead]; simp
      · rw [fold k hne' hk]; exact hs.disj j k c d hc' hd' hjk hcw n hn
      · rw [fnew]
        intro hm
        rcases (hG n hm).2 with h | h
        · exact hs.disj j i c b hc' hb hne hcw n hn h
        · have := hs.lt j c hc' n hn; omega
    · rw [fnew] at hn
      rcases hget k d hd with ⟨rfl, rfl⟩ | ⟨hne', hk, hd'⟩ | ⟨rfl, rfl⟩
      · rw [fdead]; simp
      · rw [fold k hne' hk]
        intro hm
        rcases (hG n hn).2 with h | h
        · exact hs.disj i k b d hb hd' (Ne.symm hne') hw n h hm
        · have := hs.lt k d hd' n hm; omega
      · exact absurd rfl hjk
  · rcases hget j c hc with ⟨rfl, rfl⟩ | ⟨hne, hj, hc'⟩ | ⟨rfl, rfl⟩
    · cases hcw
    · rw [fold j hne hj] at hn; exact .inr ⟨j, c, hc', hcw, hn⟩
    · rw [fnew] at hn
      rcases (hG n hn).2 with h | h
      · exact .inr ⟨i, b, hb, hw, h⟩
      · exact .inl h
  · rcases hget j c hc with ⟨rfl, rfl⟩ | ⟨hne, hj, hc'⟩ | ⟨rfl, rfl⟩
    · rw [fdead] at hn; cases hn
    · rw [fold j hne hj] at hn; exact .inr ⟨j, c, hc', hn⟩
    · rw [fnew] at hn
      rcases (hG n hn).2 with h | h
      · exact .inr ⟨i, b, hb, h⟩
      · exact .inl h
  · have hne : j ≠ i := fun e => by subst e; rw [hb] at hc; injection hc with hc; subst hc; rw [hlk f hf] at hfc; cases hfc
    have hj := (List.getElem?_eq_some_iff.1 hc).1
    refine ⟨?_, fold j hne hj, hkeep j c hne hc⟩
    rw [List.getElem?_append_left (by rw [List.length_set]; exact hj), List.getElem?_set_ne (Ne.symm hne)]
    exact hc
theorem flat_nil_of {t : Nat} {l : List (El t)} {ad : Option Addr} {Q : Addr → Value → Nat → Prop} (had : ad = none) (h : ∀ j y, (flat t l)[j]? = some y → ∃ a, ad = some a ∧ Q a y j) : l = [] := by
  cases l with
  | nil => rfl
  | cons x r =>
    exfalso
    have hpos := elM_pos t
    have hlt : 0 < (flat t (x :: r)).length := by rw [flat_len, List.length_cons, Nat.add_mul]; omega
    obtain ⟨a, e, _⟩ := h 0 _ (List.getElem?_eq_getElem hlt)
    rw [had] at e; cases e
theorem append_any (w : World) {P : Program} (t ty e : TypeId) (i : TypeInfo) (z : Value) (m : Nat) (ht : P.underlying t = some (.slice e)) (hi : P.info? e = some i) (hz : i.zero = some z)
    (hsize : i.size = m) (hzs : z.cells.size = m) (v : Value) (n : Nat) (xs : List Value) (hown : w.ownsRow 0 e m v n xs)
    (a : Addr) (q c : Nat) (news : List Value) (hl : news.length = q * m) (hnews : ∀ j u, news[j]? = some u → w.cell? (a.add j) = some u) (h1 : ∀ u ∈ news, u.oneCell' = true)
    (h63 : n + q ≤ 1048576) (hbytes : (n + q) * i.bytes ≤ 140737488355328) :
    ∃ v' w', (Builtin.append_ #[t, t] ty #[v, .slice (some a) q c]).run P w = .ok v' w' ∧ w'.ownsRow 0 e m v' (n + q) (xs ++ news) ∧ w.grownBy w' v.ownBlock ∧
      ∀ b, v'.ownBlock = some b → b < w'.heap.size ∧ (v.ownBlock = some b ∨ w.heap.size ≤ b) := by
  subst hsize
  have hlen : (xs ++ news).length = (n + q) * i.size := by rw [List.length_append, hown.1, hl, Nat.add_mul]
  have hml : n + q ≤ maxLen := by simp only [maxLen]; omega
  have grown : ∀ (old : Nat), old < n + q → ∀ (row : Option Nat),
      (w.drew.alloc (.cells (xs.toArray ++ news.toArray ++ Builtin.zeroCells z.cells (grownCap w (n + q) old e - (n + q))) e)).ownsRow 0 e i.size
        (.slice (some ⟨w.heap.size, 0, none⟩) (n + q) (grownCap w (n + q) old e)) (n + q) (xs ++ news) ∧
      w.grownBy (w.drew.alloc (.cells (xs.toArray ++ news.toArray ++ Builtin.zeroCells z.cells (grownCap w (n + q) old e - (n + q))) e)) row := by
    intro old ho row
    have hge := grownCap_ge w (n + q) old e
    have hcm : grownCap w (n + q) old e ≤ maxLen := grownCap_le_maxLen w (n + q) old e hml
    refine ⟨⟨hlen, .inr ⟨w.heap.size, _, _, rfl, Nat.zero_le _, alloc_new w.drew _, hge, hcm, ?_, ?_⟩⟩, ⟨rfl, rfl, rfl, by simp, fun k hk _ => alloc_old w.drew _ k hk⟩⟩
    · simp only [Array.size_append, List.size_toArray, size_zeroCells, hzs, hown.1, hl, ← Nat.add_mul]
      congr 1
      omega
    · simp only [Array.toList_append, List.append_assoc]
      rw [← List.append_assoc, ← hlen]
      exact List.take_left
  have fresh : ∀ (C : Array Value) (c : Nat) (b : Nat), (Value.slice (some ⟨w.heap.size, 0, none⟩) (n + q) c).ownBlock = some b → b < (w.drew.alloc (.cells C e)).heap.size ∧ (v.ownBlock = some b ∨ w.heap.size ≤ b) := by
    intro C c b hb
    simp [Value.ownBlock] at hb
    subst hb
    exact ⟨by simp, .inr (Nat.le_refl _)⟩
  rcases hown.2 with ⟨rfl, rfl⟩ | ⟨g, cap, cur, rfl, hbg, hg, hnc, hcm, hcs, htake⟩
  · have hx : xs = [] := List.eq_nil_of_length_eq_zero (by simpa using hown.1)
    subst hx
    by_cases hm : q = 0
    · subst hm
      have hn : news = [] := List.eq_nil_of_length_eq_zero (by simpa using hl)
      subst hn
      refine ⟨.slice none 0 0, w, ?_, World.ownsRow_nil w 0 e i.size, ⟨rfl, rfl, rfl, Nat.le_refl _, fun _ _ _ => rfl⟩, fun b hb => by simp [Value.ownBlock] at hb⟩
      simp [Builtin.append_, run_underlying ht, sizeOf, typeInfo, hi, Builtin.lenOf, Builtin.firstCells, loadCells, loadCellsFrom]
    · have hr := run_append_nil (P := P) w t ty e i z ht hi hz a q c news hl hnews (by omega) (by omega) (by have hb := hbytes; simp only [Nat.zero_add] at hb; omega)
      have hgr := grown 0 (by omega) (Value.ownBlock (.slice none 0 0))
      have hfr := fresh
      simp only [Nat.zero_add, List.nil_append, Array.empty_append] at hgr hfr ⊢
      exact ⟨_, _, hr, hgr.1, hgr.2, hfr _ _⟩
  · have hlt : g < w.heap.size := (Array.getElem?_eq_some_iff.1 hg).1
    by_cases hroom : n + q ≤ cap
    · obtain ⟨w', h1', h2', h3'⟩ := run_append_fits (P := P) w 0 t ty e i i.size ht hi rfl g n cap xs hown a q c news hl hnews h1 hroom
      exact ⟨_, w', h1', h2', by simpa [Value.ownBlock] using h3', fun b hb => by simp [Value.ownBlock] at hb; subst hb; exact ⟨Nat.lt_of_lt_of_le hlt h3'.size, .inl (by simp [Value.ownBlock])⟩⟩
    · have holds : ∀ j u, xs[j]? = some u → w.cell? ((⟨g, 0, none⟩ : Addr).add j) = some u := hown.cells (g := g) rfl
      have hr := run_append_grow (P := P) w t ty e i z ht hi hz ⟨g, 0, none⟩ n cap xs hown.1 holds a q c news hl hnews (by omega) (by omega) (growslice_fits (by omega) hbytes)
      have hgr := grown cap (by omega) (Value.ownBlock (.slice (some ⟨g, 0, none⟩) n cap))
      exact ⟨_, _, hr, hgr.1, hgr.2, fresh _ _⟩
theorem appendTo_sound (ok : CfgOK cfg) {t ty tg i : Nat} {ly : List (El ty)} {x y : Value} {tyR : TypeId} (ht : cfg.tagOf t = some tg) (h : appendTo lk tg i H k ty ly) (hx : ρ[i]? = some x)
    (hs : Sat cfg.elT ρ F H w) {ad : Option Addr} {cap : Nat} (hy : y = .slice ad ly.length cap) (hcap : ad = none → cap = 0)
    (hc : ∀ j y, (flat ty ly)[j]? = some y → ∃ a, ad = some a ∧ w.cell? (a.add j) = some y) :
    ∃ v z ρ' F' H' w', k v H' ∧ Rel ρ' v z ∧ Step cfg lk ρ F H w ρ' F' H' w' ∧ (Builtin.append_ #[t, t] tyR #[x, y]).run cfg.P w = .ok z w' := by
  unfold appendTo at h
  split at h
  · rename_i tx lx ro hH
    have hcd := cond_elim h
    have hc1 := hcd.1
    simp only [Bool.and_eq_true] at hc1
    obtain ⟨⟨hro, hm⟩, htx⟩ := hc1
    obtain rfl := Nat.eq_of_beq_eq_true htx
    have hro : ro = false := by simpa using hro
    subst hro
    have hh := hcd.2
    split at hh
    · rename_i e
      subst e
      have hr := Req_elim hh
      have hq : lx.length + ly.length ≤ 1048576 := by simpa using hr.1
      obtain ⟨hown, hF⟩ := hs.each i _ _ hH hx
      obtain ⟨u1, inf, z, u2, u3, u4, u5, u6⟩ := ok.tags t _ ht
      have hbytes : (lx.length + ly.length) * inf.bytes ≤ 140737488355328 := by
        have : (lx.length + ly.length) * inf.bytes ≤ 1048576 * 65536 := Nat.mul_le_mul hq u6
        omega
      have hz : z.cells.size = elM ty := by rw [u4]; simp [elEnc_len]
      have main : ∃ z w', (Builtin.append_ #[t, t] tyR #[x, y]).run cfg.P w = .ok z w' ∧ w'.ownsRow 0 (cfg.elT ty) (elM ty) z (lx.length + ly.length) (flat ty lx ++ flat ty ly) ∧ w.grownBy w' x.ownBlock ∧
          ∀ b, z.ownBlock = some b → b < w'.heap.size ∧ (x.ownBlock = some b ∨ w.heap.size ≤ b) := by
        cases ad with
        | none =>
          have hl0 : ly = [] := flat_nil_of (Q := fun a y j => w.cell? (a.add j) = some y) rfl hc
          subst hl0
          have hc0 := hcap rfl
          subst hc0
          subst hy
          refine ⟨x, w, run_append_owned_none w 0 t tyR _ inf (elM ty) u1 u2 x _ _ hown, by simpa [flat] using hown, ⟨rfl, rfl, rfl, Nat.le_refl _, fun _ _ _ => rfl⟩, fun b hb => ⟨?_, .inl hb⟩⟩
          exact (hown.lt b hb).2
        | some a =>
          subst hy
          exact append_any w t tyR _ inf z (elM ty) u1 u2 u3 u5 hz x _ _ hown a _ cap (flat ty ly) (flat_len ty ly) (fun j u hu => by obtain ⟨a', e, h⟩ := hc j u hu; injection e with e; subst e; exact h) (flat_one ty ly) hq hbytes
      obtain ⟨z', w', hrun, hown', hg, hfresh⟩ := main
      refine ⟨_, z', ρ ++ [z'], fset (fset F i []) H.length z'.ownBlock.toList, _, w', hr.2, .inr ?_, ?_, hrun⟩
      · simp only [V.den, get_new hs]
        rcases hown'.2 with ⟨e, _⟩ | ⟨g, cap', cur, e, _⟩ <;> rw [e]
      · refine .move hs hH rfl (mayWrite_lk hm) hg.os hg.tape hg.output hg.size (fun n hn hno => hg.block n hn (fun e => hno (by rw [hF]; simp [← e]))) (fun n hn => ?_) ⟨?_, rfl⟩
        · have hb : z'.ownBlock = some n := by simpa using hn
          obtain ⟨h1, h2⟩ := hfresh n hb
          exact ⟨h1, h2.imp (fun h => by rw [hF]; simp [h]) id⟩
        · show w'.ownsRow 0 (cfg.elT ty) (elM ty) z' (lx ++ ly).length (flat ty (lx ++ ly))
          rw [List.length_append, flat_append]
          exact hown'
    · exact hh.elim
  · exact h.elim
theorem narrow_sound {i n tx : Nat} {lx : List (El tx)} {a : Value} (hH : H[i]? = some (.row tx lx false)) (hm : mayWrite lk (.row tx lx false) = true) (hn : n ≤ lx.length) (hx : Rel ρ (.sub i 0 n (elM tx)) a)
    (hs : Sat cfg.elT ρ F H w) : ∃ ρ' F', ρ'[H.length]? = some a ∧ Step cfg lk ρ F H w ρ' F' (kill H i ++ [.row tx (lx.take n) false]) w := by
  obtain ⟨ad, len, cap, hb, rfl⟩ := den_sub hx
  obtain ⟨hown, hF⟩ := hs.each i _ _ hH hb
  have hadd : (if cap = 0 then ad else ad.map (·.add (0 * elM tx))) = ad := by
    split
    · rfl
    · rcases hown.2 with ⟨e, _⟩ | ⟨g, c, cur, e, _⟩
      · injection e with e1 _ _; subst e1; rfl
      · injection e with e1 _ _; subst e1; simp [Addr.add]
  have hlen : (lx.take n).length = n := by rw [List.length_take]; omega
  have hown' : w.ownsRow 0 (cfg.elT tx) (elM tx) (.slice ad n cap) (lx.take n).length (flat tx (lx.take n)) := by
    rw [hlen]
    refine ⟨by rw [flat_len, hlen], ?_⟩
    rcases hown.2 with ⟨e, h0⟩ | ⟨g, c, cur, e, h1, h2, h3, h4, h5, h6⟩
    · injection e with e1 e2 e3
      subst e1; subst e3
      have hn0 : n = 0 := by omega
      subst hn0
      exact .inl ⟨rfl, rfl⟩
    · injection e with e1 e2 e3
      subst e1; subst e3
      refine .inr ⟨g, _, cur, rfl, h1, h2, by omega, h4, h5, ?_⟩
      rw [flat_take, ← h6, List.take_take]
      congr 1
      have := Nat.mul_le_mul_right (elM tx) hn
      omega
  rw [hadd, Nat.sub_zero]
  have hob : (Value.slice ad n cap).ownBlock = (Value.slice ad len cap).ownBlock := by cases ad <;> rfl
  refine ⟨ρ ++ [.slice ad n cap], _, get_new hs _, .move hs hH rfl (mayWrite_lk hm) (G := (Value.slice ad n cap).ownBlock.toList) rfl rfl rfl (Nat.le_refl _) (fun _ _ _ => rfl) (fun j hj => ?_) ⟨hown', rfl⟩⟩
  have hj' : j ∈ F i := by rw [hF, ← hob]; exact hj
  exact ⟨hs.lt i _ hH j hj', .inl hj'⟩
theorem appendV_sound (ok : CfgOK cfg) {t : TypeId} {x y : V} {a b : Value} {tyR : TypeId} (h : appendV cfg lk t x y H k) (hx : Rel ρ x a) (hy : Rel ρ y b) (hs : Sat cfg.elT ρ F H w) :
    ∃ v z ρ' F' H' w', k v H' ∧ Rel ρ' v z ∧ Step cfg lk ρ F H w ρ' F' H' w' ∧ (Builtin.append_ #[t, t] tyR #[a, b]).run cfg.P w = .ok z w' := by
  unfold appendV at h
  split at h
  · exact h.elim
  · rename_i tg ht
    split at h
    · rename_i i n m
      split at h
      · rename_i tx lx ro hH
        have hcd := cond_elim h
        have hc1 := hcd.1
        simp only [Bool.and_eq_true] at hc1
        obtain ⟨⟨hro, hm⟩, hmm⟩ := hc1
        obtain rfl := Nat.eq_of_beq_eq_true hmm
        have hro : ro = false := by simpa using hro
        subst hro
        have hr := Req_elim hcd.2
        have hq : n ≤ lx.length := by simpa using hr.1
        obtain ⟨ρ1, F1, h1, st1⟩ := narrow_sound hH hm hq hx hs
        obtain ⟨ty, ly, ad, cap, hk, rfl, c1, _, c2⟩ := rowOf_sound hr.2 hy hs
        obtain ⟨v, z, ρ', F', H', w', g1, g2, g3, g4⟩ := appendTo_sound ok (tyR := tyR) ht hk h1 st1.sat rfl c1 c2
        exact ⟨v, z, ρ', F', H', w', g1, g2, st1.trans g3, g4⟩
      · exact h.elim
    · split at h
      · rename_i i H1 hr
        obtain ⟨ρ1, F1, hx1, st1⟩ := rowify_sound (lk := lk) hr hx hs
        obtain ⟨ty, ly, ad, cap, hk, rfl, h1, _, h2⟩ := rowOf_sound h (hy.le st1.le) st1.sat
        obtain ⟨v, z, ρ', F', H', w', g1, g2, g3, g4⟩ := appendTo_sound ok (tyR := tyR) ht hk (den_row hx1) st1.sat rfl h1 h2
        exact ⟨v, z, ρ', F', H', w', g1, g2, st1.trans g3, g4⟩
      · exact h.elim
end Go.Rx
end

section
namespace Go.Rx
variable {cfg : Cfg} {lk : Option (Blk → Bool)} {H : Heap} {ρ : List Value} {F : Nat → List Nat} {w : World} {k : V → Heap → Prop}
theorem run_newObj' (P : Program) (w : World) (o : Obj) : (newObj o).run P w = .ok w.heap.size (w.alloc o) := rfl
theorem vcells_ext {v : V} {x : Value} {e : List Value} (h : extsV (vcells v) = some e) (hx : Rel ρ v x) : x.cells.toList = e := by
  have hd := extsV_den (ρ := ρ) h
  unfold vcells at hd h
  split at hd
  · have ha := hx.den (by simp)
    simp only [V.den] at ha
    rw [hd] at ha
    injection ha with ha; subst ha
    rfl
  · rename_i cs
    have ha := den_ext hx
    subst ha
    rw [denL_ext] at hd
    injection hd with hd
  · rename_i h1 h2
    cases v with
    | ext y =>
      have ha := den_ext hx
      subst ha
      simp only [denL, V.den] at hd
      injection hd with hd
      subst hd
      cases x <;> first | rfl | exact absurd rfl (h2 _)
    | agg cs => exact absurd rfl (h1 cs)
    | _ => simp [extsV, extV] at h
theorem fill_parts {env : Env} {a : Act} (hE : ∀ t, Rel ρ (env t) (a.tmps.getD t undef)) (m : Nat) : ∀ (ps : List (Nat × Operand)) (n : Nat) (es : List (List Value)) (pre rest : List Value), partsOf env ps n = some es →
    (∀ e ∈ es, e.length = m) → pre.length = n * m → rest.length = es.length * m →
    Instr.fill (fun i => some (i * m, m)) (pre ++ rest).toArray (ps.map fun p => (p.1, a.eval p.2)) = some (pre ++ es.flatten).toArray
  | [], n, es, pre, rest, h, _, _, hr => by
    simp only [partsOf, Option.some.injEq] at h
    subst h
    have : rest = [] := List.eq_nil_of_length_eq_zero (by simpa using hr)
    subst this
    simp [Instr.fill]
  | (i, x) :: r, n, es, pre, rest, h, hm, hp, hr => by
    simp only [partsOf] at h
    cases hi : Nat.beq i n with
    | false => rw [hi] at h; cases h
    | true =>
      rw [hi] at h
      simp only [cond_true] at h
      obtain rfl := Nat.eq_of_beq_eq_true hi
      split at h
      · rename_i e es' he hes
        injection h with h
        subst h
        have hx := vcells_ext he (REnv.ev hE x)
        have hel : e.length = m := hm e (by simp)
        have hsz : (a.eval x).cells.size = m := by rw [← Array.length_toList, hx, hel]
        have hrl : rest.length = m + es'.length * m := by rw [hr, List.length_cons, Nat.add_mul]; omega
        simp only [List.map_cons, Instr.fill, hsz]
        have hfit : ¬ (i * m + m > (pre ++ rest).toArray.size) := by simp; omega
        rw [if_neg (by simp; omega)]
        have hf := fold_cells (i * m) (a.eval x) (pre ++ rest).toArray (by rw [hsz]; simp; omega)
        have e2 : ((a.eval x).cells.zipIdx.foldl (fun (cs : Array Value) (p : Value × Nat) => cs.setIfInBounds (i * m + p.2) p.1) (pre ++ rest).toArray) = ((pre ++ e) ++ rest.drop m).toArray := by
          apply Array.ext'
          rw [hf, hx]
          rw [← hp, ← hel]
          simp only [List.take_left', List.drop_length_add_append]
        have ih := fill_parts hE m r (i + 1) es' (pre ++ e) (rest.drop m) hes (fun e' h' => hm e' (by simp [h'])) (by rw [List.length_append, hp, hel, Nat.add_mul]; omega) (by simp; omega)
        rw [← e2] at ih
        rw [ih]
        simp
      · cases h
theorem decAll_spec {t : Nat} : ∀ {es : List (List Value)} {l : List (El t)}, decAll t es = some l → es = l.map (elEnc t)
  | [], l, h => by simp only [decAll, Option.some.injEq] at h; subst h; rfl
  | e :: r, l, h => by
    simp only [decAll] at h
    split at h
    · rename_i x xs hx hxs
      injection h with h
      subst h
      rw [List.map_cons, elDec_enc t e x hx, ← decAll_spec hxs]
    · cases h
theorem partsOf_len {env : Env} : ∀ {ps : List (Nat × Operand)} {n : Nat} {es : List (List Value)}, partsOf env ps n = some es → es.length = ps.length
  | [], n, es, h => by simp only [partsOf, Option.some.injEq] at h; subst h; rfl
  | (i, x) :: r, n, es, h => by
    simp only [partsOf] at h
    cases hi : Nat.beq i n with
    | false => rw [hi] at h; cases h
    | true =>
      rw [hi] at h
      simp only [cond_true] at h
      split at h
      · rename_i e es' he hes
        injection h with h
        subst h
        simp [partsOf_len hes]
      · cases h
theorem buildSliceV_sound (ok : CfgOK cfg) {t : TypeId} {n : Nat} {parts : Array (Nat × Operand)} {env : Env} {a : Act} (h : buildSliceV cfg t n parts.toList env H k) (hE : ∀ t, Rel ρ (env t) (a.tmps.getD t undef)) (hs : Sat cfg.elT ρ F H w) :
    ∃ v z ρ' F' H' w', k v H' ∧ Rel ρ' v z ∧ Step cfg lk ρ F H w ρ' F' H' w' ∧ (Instr.buildSlice t n (parts.map fun (i, x) => (i, a.eval x))).run cfg.P w = .ok z w' := by
  unfold buildSliceV at h
  split at h
  · exact h.elim
  · rename_i tg ht
    have hc := cond_elim h
    have hc1 := hc.1
    simp only [Bool.and_eq_true] at hc1
    have hn := Nat.eq_of_beq_eq_true hc1.1
    have hn2 := Nat.le_of_ble_eq_true hc1.2
    have hh := hc.2
    clear h hc
    obtain ⟨u1, inf, z, u2, u3, u4, u5, u6⟩ := ok.tags t tg ht
    split at hh
    · rename_i es hes
      split at hh
      · rename_i l hl
        have hel := decAll_spec hl
        have hlen := partsOf_len hes
        have hpos := elM_pos tg
        have hm : elM tg ≤ 1048576 := by have := ok.small t tg ht; omega
        have hll : l.length = n := by rw [hn, ← hlen, hel, List.length_map]
        have hzs : z.cells.size = elM tg := by rw [u4]; simp [elEnc_len]
        have hfill := fill_parts hE (elM tg) parts.toList 0 es [] (madeCells z.cells (n * elM tg)).toList hes (fun e he => by rw [hel] at he; simp at he; obtain ⟨x, _, rfl⟩ := he; exact elEnc_len tg x) (by simp)
          (by rw [Array.length_toList, size_madeCells, hlen, hn])
        have hflat : es.flatten = flat tg l := by rw [hel]; simp [flat, List.flatMap]
        have hrun : (Instr.buildSlice t n (parts.map fun (i, x) => (i, a.eval x))).run cfg.P w = .ok (.slice (some ⟨w.heap.size, 0, none⟩) n n) (w.alloc (.cells (flat tg l).toArray (cfg.elT tg))) := by
          unfold Instr.buildSlice
          have hsmall : ¬ (n * elM tg > 2 ^ 24) := by
            have : n * elM tg ≤ 4096 * elM tg := Nat.mul_le_mul_right _ hn2
            have : elM tg ≤ 4096 := ok.small t tg ht
            have : 4096 * elM tg ≤ 4096 * 4096 := Nat.mul_le_mul_left _ this
            omega
          have hpl : (parts.map fun (i, x) => (i, a.eval x)).toList = parts.toList.map fun p => (p.1, a.eval p.2) := by simp
          rw [hpl]
          by_cases h0 : n * elM tg = 0
          · have hn0 : n = 0 := by
              rcases Nat.mul_eq_zero.1 h0 with h | h
              · exact h
              · omega
            subst hn0
            simp only [List.nil_append, hflat] at hfill
            have e0 : (madeCells z.cells (0 * elM tg)).toList.toArray = #[] := by simp [madeCells]
            rw [e0] at hfill
            have e1 : ∀ f : Nat → Value, Array.map f (Array.range (0 * elM tg)) = #[] := fun f => by simp
            have hsm0 : ¬ ((0 : Nat) > 2 ^ 24) := by omega
            rw [Nat.zero_mul] at e1
            simp only [Sem.run_bind, run_underlying u1, Result.andThen_ok, run_sizeOf' u2, u5, Nat.zero_mul, hsm0, if_false, if_true, Sem.run_pure, e1, hfill, Sem.run_bind, newRow, run_newObj', Result.andThen_ok, Sem.run_pure]
          · simp only [List.nil_append, hflat, Array.toArray_toList] at hfill
            have hz0 : (zeroValue (cfg.elT tg)).run cfg.P w = .ok z w := by simp [zeroValue, typeInfo, u2, u3]
            have e : ∀ z : Array Value, (Array.map (fun x => z[x % z.size]!) (Array.range (n * elM tg))) = madeCells z (n * elM tg) := fun _ => rfl
            simp only [Sem.run_bind, run_underlying u1, Result.andThen_ok, run_sizeOf' u2, u5, hsmall, if_false, h0, hz0, Sem.run_pure, e, hfill, newRow, run_newObj']
        refine ⟨_, .slice (some ⟨w.heap.size, 0, none⟩) n n, _, _, _, _, hh, .inr ?_, Step.row hs (x := .slice (some ⟨w.heap.size, 0, none⟩) n n) ?_ (World.grownBy_alloc w _ none), hrun⟩
        · simp only [V.den, get_new hs]
        · have := World.ownsRow_lit (base := w.heap.size) (e := cfg.elT tg) (size := elM tg) w (flat tg l).toArray l.length (Nat.le_refl _) (by simp only [maxLen]; omega) (by simp [flat_len])
          rw [hll] at this ⊢
          simpa using this
      · exact hh.elim
    · exact hh.elim
end Go.Rx
end

section
namespace Go.Rx
variable {cfg : Cfg} {lk : Option (Blk → Bool)} {H : Heap} {ρ : List Value} {F : Nat → List Nat} {w : World}
theorem idx_spec : ∀ {ids : List Nat} {i p : Nat}, idx ids i = some p → ids[p]? = some i
  | [], i, p, h => by simp [idx] at h
  | a :: r, i, p, h => by
    simp only [idx] at h
    cases e : Nat.beq a i with
    | true => rw [e] at h; injection h with h; subst h; rw [Nat.eq_of_beq_eq_true e]; rfl
    | false =>
      rw [e] at h
      simp only [cond_false] at h
      split at h
      · rename_i q hq; injection h with h; subst h; simpa using idx_spec hq
      · cases h
theorem mem_spec : ∀ {ids : List Nat} {i : Nat}, mem i ids = false → ∀ p : Nat, ids[p]? ≠ some i
  | [], i, _, p, h => by simp at h
  | a :: r, i, hm, p, h => by
    simp only [mem, Bool.or_eq_false_iff] at hm
    cases p with
    | zero => simp at h; subst h; simp at hm
    | succ p => simp at h; exact mem_spec hm.2 p h
theorem nodup_spec : ∀ {ids : List Nat}, nodup ids = true → ∀ (p q i : Nat), ids[p]? = some i → ids[q]? = some i → p = q
  | [], _, p, q, i, h, _ => by simp at h
  | a :: r, hn, p, q, i, h, k => by
    simp only [nodup, Bool.and_eq_true, Bool.not_eq_true'] at hn
    cases p with
    | zero =>
      simp at h; subst h
      cases q with
      | zero => rfl
      | succ q => simp at k; exact absurd k (mem_spec hn.1 q)
    | succ p =>
      simp at h
      cases q with
      | zero => simp at k; subst k; exact absurd h (mem_spec hn.1 p)
      | succ q => simp at k; rw [nodup_spec hn.2 p q i h k]
theorem idx_none : ∀ {ids : List Nat} {i : Nat}, idx ids i = none → ∀ p : Nat, ids[p]? ≠ some i
  | [], i, _, p, h => by simp at h
  | a :: r, i, hm, p, h => by
    simp only [idx] at hm
    cases e : Nat.beq a i with
    | true => rw [e] at hm; cases hm
    | false =>
      rw [e] at hm
      simp only [cond_false] at hm
      split at hm
      · cases hm
      · rename_i hq
        cases p with
        | zero => simp at h; subst h; simp at e
        | succ p => simp at h; exact idx_none hq p h
theorem idx_complete {ids : List Nat} (hn : nodup ids = true) {i p : Nat} (h : ids[p]? = some i) : idx ids i = some p := by
  cases e : idx ids i with
  | none => exact absurd h (idx_none e p)
  | some q => rw [nodup_spec hn p q i h (idx_spec e)]
mutual
theorem ren_den {ρ ρ' : List Value} {f : Nat → Option Nat} (hf : ∀ i j, f i = some j → ρ'[j]? = ρ[i]?) : ∀ (v v' : V), v.ren f = some v' → v'.den ρ' = v.den ρ
  | .ext v, v', e => by simp only [V.ren, Option.some.injEq] at e; subst e; rfl
  | .junk, v', e => by simp only [V.ren, Option.some.injEq] at e; subst e; rfl
  | .ptr i o, v', e => by
    simp only [V.ren] at e
    split at e
    · rename_i j hj; injection e with e; subst e; simp only [V.den, hf i j hj]
    · cases e
  | .eptr i n lo m o, v', e => by
    simp only [V.ren] at e
    split at e
    · rename_i j hj; injection e with e; subst e; simp only [V.den, hf i j hj]
    · cases e
  | .row i, v', e => by
    simp only [V.ren] at e
    split at e
    · rename_i j hj; injection e with e; subst e; simp only [V.den, hf i j hj]
    · cases e
  | .sub i a n m, v', e => by
    simp only [V.ren] at e
    split at e
    · rename_i j hj; injection e with e; subst e; simp only [V.den, hf i j hj]
    · cases e
  | .asl i o n c, v', e => by
    simp only [V.ren] at e
    split at e
    · rename_i j hj; injection e with e; subst e; simp only [V.den, hf i j hj]
    · cases e
  | .mp i, v', e => by
    simp only [V.ren] at e
    split at e
    · rename_i j hj; injection e with e; subst e; simp only [V.den, hf i j hj]
    · cases e
  | .mth g x, v', e => by
    simp only [V.ren] at e
    split at e
    · rename_i x' hx; injection e with e; subst e; simp only [V.den, ren_den hf x x' hx]
    · cases e
  | .fn g cs, v', e => by
    simp only [V.ren] at e
    split at e
    · rename_i cs' hcs; injection e with e; subst e; simp only [V.den, renL_den hf cs cs' hcs]
    · cases e
  | .agg cs, v', e => by
    simp only [V.ren] at e
    split at e
    · rename_i cs' hcs; injection e with e; subst e; simp only [V.den, renL_den hf cs cs' hcs]
    · cases e
  | .tup cs, v', e => by
    simp only [V.ren] at e
    split at e
    · rename_i cs' hcs; injection e with e; subst e; simp only [V.den, renL_den hf cs cs' hcs]
    · cases e
theorem renL_den {ρ ρ' : List Value} {f : Nat → Option Nat} (hf : ∀ i j, f i = some j → ρ'[j]? = ρ[i]?) : ∀ (vs vs' : List V), renL f vs = some vs' → denL ρ' vs' = denL ρ vs
  | [], vs', e => by simp only [renL, Option.some.injEq] at e; subst e; rfl
  | v :: r, vs', e => by
    simp only [renL] at e
    split at e
    · rename_i v1 r1 hv hr
      injection e with e
      subst e
      simp only [denL, ren_den hf v v1 hv, renL_den hf r r1 hr]
    · cases e
end
theorem ren_junk {f : Nat → Option Nat} {v v' : V} (h : v.ren f = some v') : v = .junk → v' = .junk := by
  rintro rfl
  simp only [V.ren, Option.some.injEq] at h
  exact h.symm
theorem ren_rel {ρ ρ' : List Value} {f : Nat → Option Nat} (hf : ∀ i j, f i = some j → ρ'[j]? = ρ[i]?) {v v' : V} {x : Value} (h : v.ren f = some v') (hx : Rel ρ v x) : Rel ρ' v' x := by
  rcases hx with e | e
  · exact .inl (ren_junk h e)
  · exact .inr (by rw [ren_den hf v v' h]; exact e)
theorem Blk.ren_holds {ρ ρ' : List Value} {f : Nat → Option Nat} (hf : ∀ i j, f i = some j → ρ'[j]? = ρ[i]?) {b b' : Blk} {x : Value} {G : List Nat} (h : b.ren f = some b') (hh : b.holds cfg.elT ρ w x G) : b'.holds cfg.elT ρ' w x G := by
  cases b with
  | dead => simp only [Blk.ren, Option.some.injEq] at h; subst h; exact hh
  | cells T cs =>
    simp only [Blk.ren] at h
    split at h
    · rename_i cs' hcs
      injection h with h
      subst h
      obtain ⟨g, vs, h1, h2, h3, h4⟩ := hh
      exact ⟨g, vs, h1, h2, by rw [renL_den hf cs cs' hcs]; exact h3, h4⟩
    · cases h
  | rcells cs =>
    simp only [Blk.ren] at h
    split at h
    · rename_i cs' hcs
      injection h with h
      subst h
      obtain ⟨g, vs, h1, h2, h3, h4⟩ := hh
      exact ⟨g, vs, h1, h2, by rw [renL_den hf cs cs' hcs]; exact h3, h4⟩
    · cases h
  | row t l ro =>
    simp only [Blk.ren, Option.some.injEq] at h
    subst h
    cases ro with
    | true => exact hh
    | false => exact hh
  | map m n => simp only [Blk.ren, Option.some.injEq] at h; subst h; exact hh
  | iter m left n c => simp only [Blk.ren, Option.some.injEq] at h; subst h; exact hh
  | pk tg st xs rs =>
    simp only [Blk.ren] at h
    split at h
    · rename_i rs' hrs
      injection h with h
      subst h
      obtain ⟨Hc, ρc, Fc, zs, h1, h2, h3, h4, h5, h6, h7⟩ := hh
      exact ⟨Hc, ρc, Fc, zs, h1, h2, h3, h4, h5, by rw [renL_den hf rs rs' hrs]; exact h6, h7⟩
    · cases h
theorem Blk.ren_writable {f : Nat → Option Nat} {b b' : Blk} (h : b.ren f = some b') : b'.writable = b.writable := by
  cases b with
  | dead => simp only [Blk.ren, Option.some.injEq] at h; subst h; rfl
  | cells T cs =>
    simp only [Blk.ren] at h
    split at h
    · injection h with h; subst h; rfl
    · cases h
  | rcells cs =>
    simp only [Blk.ren] at h
    split at h
    · injection h with h; subst h; rfl
    · cases h
  | row t l ro => simp only [Blk.ren, Option.some.injEq] at h; subst h; rfl
  | map m n => simp only [Blk.ren, Option.some.injEq] at h; subst h; rfl
  | iter m left n c => simp only [Blk.ren, Option.some.injEq] at h; subst h; rfl
  | pk tg st xs rs =>
    simp only [Blk.ren] at h
    split at h
    · injection h with h; subst h; rfl
    · cases h
theorem sel_spec {f : Nat → Option Nat} : ∀ {ids : List Nat} {Hc : Heap}, sel H f ids = some Hc → Hc.length = ids.length ∧
    ∀ (p : Nat) (c : Blk), Hc[p]? = some c → ∃ i b, ids[p]? = some i ∧ H[i]? = some b ∧ b.ren f = some c
  | [], Hc, h => by simp only [sel, Option.some.injEq] at h; subst h; exact ⟨rfl, fun p c hc => by simp at hc⟩
  | i :: r, Hc, h => by
    simp only [sel] at h
    split at h
    · rename_i b bs hb hbs
      split at h
      · rename_i b' hb'
        injection h with h
        subst h
        obtain ⟨h1, h2⟩ := sel_spec hbs
        refine ⟨by simp [h1], fun p c hc => ?_⟩
        cases p with
        | zero => simp at hc; subst hc; exact ⟨i, b, rfl, hb, hb'⟩
        | succ p => simp at hc; obtain ⟨j, b2, h3, h4, h5⟩ := h2 p c hc; exact ⟨j, b2, by simpa using h3, h4, h5⟩
      · cases h
    · cases h
theorem selB_spec {f : Nat → Option Nat} : ∀ {bs cs : Heap}, selB f bs = some cs → cs.length = bs.length ∧ ∀ (p : Nat) (c : Blk), cs[p]? = some c → ∃ b, bs[p]? = some b ∧ b.ren f = some c
  | [], cs, h => by simp only [selB, Option.some.injEq] at h; subst h; exact ⟨rfl, fun p c hc => by simp at hc⟩
  | b :: r, cs, h => by
    simp only [selB] at h
    split at h
    · rename_i b' r' hb hr
      injection h with h
      subst h
      obtain ⟨h1, h2⟩ := selB_spec hr
      refine ⟨by simp [h1], fun p c hc => ?_⟩
      cases p with
      | zero => simp at hc; subst hc; exact ⟨b, rfl, hb⟩
      | succ p => simp at hc; obtain ⟨b2, h3, h4⟩ := h2 p c hc; exact ⟨b2, by simpa using h3, h4⟩
    · cases h
theorem mergeB_len (ids : List Nat) (hc bs : Heap) : ∀ (n : Nat) (H : Heap), (mergeB ids hc bs n H).length = H.length
  | _, [] => rfl
  | n, b :: r => by simp [mergeB, mergeB_len ids hc bs (n + 1) r]
theorem mergeB_spec (ids : List Nat) (hc bs : Heap) : ∀ (n : Nat) (H : Heap) (j : Nat) (c : Blk), (mergeB ids hc bs n H)[j]? = some c →
    ∃ b, H[j]? = some b ∧ ((c = b ∧ ∀ p d, idx ids (n + j) = some p → hc[p]? = some d → d.writable = false) ∨ ∃ p d, idx ids (n + j) = some p ∧ hc[p]? = some d ∧ d.writable = true ∧ c = bs.getD p .dead)
  | _, [], j, c, h => by simp [mergeB] at h
  | n, b :: r, 0, c, h => by
    simp only [mergeB, List.getElem?_cons_zero, Option.some.injEq] at h
    refine ⟨b, rfl, ?_⟩
    rw [Nat.add_zero]
    split at h
    · rename_i p hp
      split at h
      · rename_i d hd
        cases hw : d.writable with
        | true => rw [hw] at h; exact .inr ⟨p, d, hp, hd, hw, h.symm⟩
        | false => rw [hw] at h; exact .inl ⟨h.symm, fun q e hq he => by rw [hp] at hq; injection hq with hq; subst hq; rw [hd] at he; injection he with he; subst he; exact hw⟩
      · rename_i hd; exact .inl ⟨h.symm, fun q e hq he => by rw [hp] at hq; injection hq with hq; subst hq; rw [hd] at he; cases he⟩
    · rename_i hp; exact .inl ⟨h.symm, fun q e hq he => by rw [hp] at hq; cases hq⟩
  | n, b :: r, j + 1, c, h => by
    simp only [mergeB, List.getElem?_cons_succ] at h
    obtain ⟨b', h1, h2⟩ := mergeB_spec ids hc bs (n + 1) r j c h
    refine ⟨b', by simpa using h1, ?_⟩
    rw [show n + (j + 1) = n + 1 + j by omega]
    exact h2
theorem ownB_spec : ∀ {hc bs : Heap}, ownB hc bs = true → ∀ (p : Nat) (b : Blk), bs[p]? = some b → (∀ c, hc[p]? = some c → c.writable = true) → notRO b = true
  | _, [], _, p, b, hb, _ => by simp at hb
  | c :: hc, b' :: bs, h, p, b, hb, hc' => by
    simp only [ownB, Bool.and_eq_true] at h
    cases p with
    | zero =>
      simp at hb; subst hb
      have hw := hc' c (by simp)
      rw [hw] at h
      exact h.1
    | succ p => simp at hb; exact ownB_spec h.2 p b hb (fun c hc => hc' c (by simpa using hc))
  | [], b' :: bs, h, p, b, hb, hc' => by
    simp only [ownB, Bool.and_eq_true] at h
    cases p with
    | zero => simp at hb; subst hb; exact h.1
    | succ p => simp at hb; exact ownB_spec h.2 p b hb (fun c hc => by simp at hc)
theorem toRO_holds {elT : ET} {b : Blk} {x : Value} {G : List Nat} (h : b.holds elT ρ w x G) : (toRO b).holds elT ρ w x G := by
  cases b with
  | dead => exact h
  | cells T cs => exact h
  | rcells cs => exact h
  | row t l ro =>
    obtain ⟨a, cap, h1, h2, h3, h4, h5⟩ := row_val (cfg := ⟨default, fun _ => none, elT, fun _ => none, fun _ => none, fun _ => none, fun _ => none, fun _ => none, fun _ => false, fun _ => none, false⟩) h
    exact ⟨a, cap, h1, h2, h3, h4, h5⟩
  | map m n => exact h
  | iter m left n c => exact h
  | pk tg st xs rs => exact h
theorem toRO_writable {b : Blk} (h : (toRO b).writable = true) : b.writable = true := by
  cases b with
  | dead => exact h
  | cells T cs => rfl
  | rcells cs => exact h
  | row t l ro => cases h
  | map m n => rfl
  | iter m left n c => rfl
  | pk tg st xs rs => rfl
theorem toRC_holds {elT : ET} {b : Blk} {x : Value} {G : List Nat} (h : b.holds elT ρ w x G) : (toRC b).holds elT ρ w x G := by
  cases b with
  | cells T cs => exact h
  | dead => exact h
  | rcells cs => exact h
  | row t l ro => exact h
  | map m n => exact h
  | iter m left n c => exact h
  | pk tg st xs rs => exact h
theorem toRC_writable {b : Blk} (h : (toRC b).writable = true) : b.writable = true := by
  cases b with
  | cells T cs => rfl
  | dead => exact h
  | rcells cs => exact h
  | row t l ro => exact h
  | map m n => rfl
  | iter m left n c => rfl
  | pk tg st xs rs => rfl
theorem roGo_get {m cm : Nat → Bool} (Hc : Heap) : ∀ {n p : Nat} {c : Blk}, (roGo m cm n Hc)[p]? = some c → ∃ d, Hc[p]? = some d ∧ (c = d ∨ c = toRO d ∨ c = toRC d) := by
  induction Hc with
  | nil => intro n p c h; simp [roGo] at h
  | cons b r ih =>
    intro n p c h
    cases p with
    | zero =>
      simp only [roGo, List.getElem?_cons_zero, Option.some.injEq] at h
      refine ⟨b, rfl, ?_⟩
      cases hcm : cm n with
      | true => rw [hcm] at h; exact .inr (.inr h.symm)
      | false =>
        rw [hcm] at h
        cases hm : m n with
        | true => rw [hm] at h; exact .inl h.symm
        | false => rw [hm] at h; exact .inr (.inl h.symm)
    | succ p =>
      simp only [roGo, List.getElem?_cons_succ] at h
      exact ih h
theorem roGo_len {m cm : Nat → Bool} : ∀ {Hc : Heap} {n : Nat}, (roGo m cm n Hc).length = Hc.length
  | [], _ => rfl
  | b :: r, n => by simp only [roGo, List.length_cons, roGo_len]
theorem roB_or {ro : RO} {Hc : Heap} {p : Nat} {c : Blk} (h : (roB ro Hc)[p]? = some c) : ∃ d, Hc[p]? = some d ∧ (c = d ∨ c = toRO d ∨ c = toRC d) := by
  unfold roB at h
  split at h
  · exact roGo_get _ h
  · exact ⟨c, h, .inl rfl⟩
theorem roB_get {ro : RO} {Hc : Heap} {p : Nat} {c : Blk} (h : (roB ro Hc)[p]? = some c) : ∃ d, Hc[p]? = some d ∧ (c.writable = true → d.writable = true) ∧ ∀ (elT : ET) (ρ : List Value) (w : World) (x : Value) (G : List Nat), d.holds elT ρ w x G → c.holds elT ρ w x G := by
  obtain ⟨d, hd, rfl | rfl | rfl⟩ := roB_or h
  · exact ⟨_, hd, id, fun _ _ _ _ _ h => h⟩
  · exact ⟨d, hd, toRO_writable, fun elT ρ w x G h => toRO_holds h⟩
  · exact ⟨d, hd, toRC_writable, fun elT ρ w x G h => toRC_holds h⟩
theorem roB_len {ro : RO} {Hc : Heap} : (roB ro Hc).length = Hc.length := by
  unfold roB
  split
  · exact roGo_len
  · rfl
theorem Step.pushRO (hs : Sat cfg.elT ρ F H w) {b : Blk} {x : Value} {G : List Nat} (hb0 : b.writable = false)
    (hG : ∀ n ∈ G, n < w.heap.size ∧ (∀ (j : Nat) (c : Blk), H[j]? = some c → c.writable = true → n ∉ F j) ∧ ∃ (j : Nat) (c : Blk), H[j]? = some c ∧ n ∈ F j) (hb : b.holds cfg.elT (ρ ++ [x]) w x G) :
    Step cfg lk ρ F H w (ρ ++ [x]) (fset F H.length G) (H ++ [b]) w := by
  have hne : ∀ (i : Nat) (c : Blk), H[i]? = some c → i ≠ H.length := fun i c hc => by have := (List.getElem?_eq_some_iff.1 hc).1; omega
  refine ⟨Le.append ρ [x], ⟨by simp [hs.len], fun i c y hc hy => ?_, fun i c hc n hn => ?_, fun i j c d hc hd hij hw n hn => ?_⟩,
    ⟨rfl, rfl, rfl, Nat.le_refl _, fun _ _ _ => rfl, fun i c hc hw n hn => ?_, fun i c hc n hn => ?_⟩, fun f hf i c hc hfc => ⟨?_, ?_, fun n hn => rfl⟩⟩
  · rcases push_get hc with ⟨hi, hc'⟩ | ⟨rfl, rfl⟩
    · have hi' : i < ρ.length := by rw [hs.len]; exact hi
      rw [List.getElem?_append_left hi'] at hy
      simp only [fset, Nat.ne_of_lt hi, if_false]
      exact Blk.holds_le (Le.append ρ [x]) (fun n hn => rfl) c (hs.each i c y hc' hy)
    · rw [← hs.len] at hy
      simp at hy
      subst hy
      simp only [fset, if_true]
      exact hb
  · rcases push_get hc with ⟨hi, hc'⟩ | ⟨rfl, rfl⟩
    · simp only [fset, Nat.ne_of_lt hi, if_false] at hn
      exact hs.lt i c hc' n hn
    · simp only [fset, if_true] at hn
      exact (hG n hn).1
  · rcases push_get hc with ⟨hi, hc'⟩ | ⟨rfl, rfl⟩
    · simp only [fset, Nat.ne_of_lt hi, if_false] at hn
      rcases push_get hd with ⟨hj, hd'⟩ | ⟨rfl, rfl⟩
      · simp only [fset, Nat.ne_of_lt hj, if_false]
        exact hs.disj i j c d hc' hd' hij hw n hn
      · simp only [fset, if_true]
        intro hm
        exact (hG n hm).2.1 i c hc' hw hn
    · rw [hb0] at hw; cases hw
  · rcases push_get hc with ⟨hi, hc'⟩ | ⟨rfl, rfl⟩
    · simp only [fset, Nat.ne_of_lt hi, if_false] at hn
      exact .inr ⟨i, c, hc', hw, hn⟩
    · rw [hb0] at hw; cases hw
  · rcases push_get hc with ⟨hi, hc'⟩ | ⟨rfl, rfl⟩
    · simp only [fset, Nat.ne_of_lt hi, if_false] at hn
      exact .inr ⟨i, c, hc', hn⟩
    · simp only [fset, if_true] at hn
      obtain ⟨j, c, h1, h2⟩ := (hG n hn).2.2
      exact .inr ⟨j, c, h1, h2⟩
  · rw [List.getElem?_append_left (List.getElem?_eq_some_iff.1 hc).1]; exact hc
  · simp only [fset, hne i c hc, if_false]
theorem Step.rowRO (hs : Sat cfg.elT ρ F H w) {i t : Nat} {l : List (El t)} {r : Bool} (hH : H[i]? = some (.row t l r)) (hl : mayWrite lk (.row t l r) = true) : Step cfg lk ρ F H w ρ F (H.set i (.row t l true)) w := by
  have hbl : i < H.length := (List.getElem?_eq_some_iff.1 hH).1
  have hget : ∀ (j : Nat) (c : Blk), (H.set i (.row t l true))[j]? = some c → ∃ c0, H[j]? = some c0 ∧ (c.writable = true → c0.writable = true) ∧ ((j = i ∧ c = .row t l true) ∨ (j ≠ i ∧ c = c0)) := by
    intro j c hc
    rw [List.getElem?_set] at hc
    by_cases hi : i = j
    · subst hi
      simp [hbl] at hc
      subst hc
      exact ⟨_, hH, (fun h => by cases h), .inl ⟨rfl, rfl⟩⟩
    · rw [if_neg hi] at hc
      exact ⟨c, hc, fun h => h, .inr ⟨fun e => hi e.symm, rfl⟩⟩
  refine ⟨Le.refl _, ⟨by rw [List.length_set]; exact hs.len, fun j c x hc hx => ?_, fun j c hc n hn => ?_, fun a b c d hc hd hij hw n hn => ?_⟩, ⟨rfl, rfl, rfl, Nat.le_refl _, fun _ _ _ => rfl, fun j c hc hw n hn => ?_, fun j c hc n hn => ?_⟩, fun f hf j c hc hfc => ⟨?_, rfl, fun n hn => rfl⟩⟩
  · obtain ⟨c0, h0, _, h1⟩ := hget j c hc
    have hh := hs.each j c0 x h0 hx
    rcases h1 with ⟨rfl, rfl⟩ | ⟨_, rfl⟩
    · rw [hH] at h0
      injection h0 with h0
      subst h0
      exact toRO_holds hh
    · exact hh
  · obtain ⟨c0, h0, _, _⟩ := hget j c hc
    exact hs.lt j c0 h0 n hn
  · obtain ⟨c0, h0, hw0, _⟩ := hget a c hc
    obtain ⟨d0, k0, _, _⟩ := hget b d hd
    exact hs.disj a b c0 d0 h0 k0 hij (hw0 hw) n hn
  · obtain ⟨c0, h0, hw0, _⟩ := hget j c hc
    exact .inr ⟨j, c0, h0, hw0 hw, hn⟩
  · obtain ⟨c0, h0, _, _⟩ := hget j c hc
    exact .inr ⟨j, c0, h0, hn⟩
  · rw [List.getElem?_set]
    by_cases hi : i = j
    · subst hi
      rw [hH] at hc
      injection hc with hc
      subst hc
      subst hf
      simp [mayWrite, hfc] at hl
    · rw [if_neg hi]; exact hc
theorem roify_ro {i t lo n : Nat} {l : List (El t)} {x : Value} {K : V → Heap → Prop} (hH : H[i]? = some (.row t l true)) (h : Req (decide (lo + n ≤ l.length)) (K (.row H.length) (H ++ [.row t ((l.drop lo).take n) true]))) (hx : (V.sub i lo n (elM t)).den ρ = some x) (hs : Sat cfg.elT ρ F H w) :
    ∃ v' ρ' F' H', K v' H' ∧ v'.den ρ' = some x ∧ Step cfg lk ρ F H w ρ' F' H' w := by
  have hr := Req_elim h
  have hq : lo + n ≤ l.length := by simpa using hr.1
  obtain ⟨ad, len, cap, hb, rfl⟩ := den_sub (.inr hx)
  have hh := hs.each i _ _ hH hb
  obtain ⟨ad', cap', e, h1, h2, h3, h4⟩ := row_val hh
  injection e with e1 e2 e3
  subst e1; subst e2; subst e3
  have hlen : ((l.drop lo).take n).length = n := by simp; omega
  refine ⟨_, _, _, _, hr.2, ?_, Step.pushRO hs (x := .slice (if cap = lo then ad else ad.map (·.add (lo * elM t))) n (cap - lo)) (G := F i) rfl (fun q hq' => ⟨hs.lt i _ hH q hq', fun j c hc hcw hm => ?_, i, _, hH, hq'⟩) ?_⟩
  · simp only [V.den, get_new hs]
  · have hne : j ≠ i := fun e => by subst e; rw [hH] at hc; injection hc with hc; subst hc; cases hcw
    exact hs.disj j i c _ hc hH hne hcw q hm hq'
  · refine ⟨_, _, by rw [hlen], by rw [hlen]; omega, by omega, fun hno => ?_, fun j y hj => ?_⟩
    · cases ad with
      | none => have := h3 rfl; omega
      | some a => split at hno <;> simp at hno
    · rw [flat_take, flat_drop, List.getElem?_take] at hj
      split at hj
      · rename_i hjl
        rw [List.getElem?_drop] at hj
        obtain ⟨a, e, hF, hc⟩ := h4 _ y hj
        subst e
        have hn : 0 < n := by
          rcases Nat.eq_zero_or_pos n with h0 | h0
          · subst h0; simp at hjl
          · exact h0
        have hne : ¬ cap = lo := by omega
        refine ⟨a.add (lo * elM t), by rw [if_neg hne]; rfl, ?_, by rw [add_add]; exact hc⟩
        have : (a.add (lo * elM t)).block = a.block := by unfold Addr.add; split <;> rfl
        rw [this]; exact hF
      · cases hj
theorem roify_sound {ro : RO} {k : Nat} {v : V} {x : Value} {K : V → Heap → Prop} (h : roify ro lk k H v K) (hx : v.den ρ = some x) (hs : Sat cfg.elT ρ F H w) :
    ∃ v' ρ' F' H', K v' H' ∧ v'.den ρ' = some x ∧ Step cfg lk ρ F H w ρ' F' H' w := by
  unfold roify at h
  split at h
  · rename_i i lo n m
    split at h
    · rename_i t l r hH
      cases hc : (r && Nat.beq m (elM t)) with
      | false =>
        rw [hc, cond_false] at h
        cases hd : (ro.c 999999 && (Nat.beq m (elM t) && mayWrite lk (.row t l r))) with
        | false => rw [hd] at h; exact ⟨_, ρ, F, H, h, hx, .refl hs⟩
        | true =>
          rw [hd, cond_true] at h
          simp only [Bool.and_eq_true] at hd
          obtain ⟨_, hm, hl⟩ := hd
          obtain rfl := Nat.eq_of_beq_eq_true hm
          have st := Step.rowRO (lk := lk) hs hH hl
          have hlt : i < H.length := (List.getElem?_eq_some_iff.1 hH).1
          have h1 : (H.set i (.row t l true))[i]? = some (.row t l true) := by rw [List.getElem?_set]; simp [hlt]
          obtain ⟨v', ρ', F', H', g1, g2, g3⟩ := roify_ro (lk := lk) (K := K) h1 (by rw [List.length_set]; exact h) hx st.sat
          exact ⟨v', ρ', F', H', g1, g2, st.trans g3⟩
      | true =>
        rw [hc, cond_true] at h
        simp only [Bool.and_eq_true] at hc
        obtain ⟨hro, hm⟩ := hc
        obtain rfl := Nat.eq_of_beq_eq_true hm
        subst hro
        exact roify_ro hH h hx hs
    · exact h.elim
  · split at h
    · rename_i tg _
      simp only [V.den, Option.some.injEq] at hx
      subst hx
      refine ⟨_, _, _, _, h, ?_, Step.pushRO hs (x := .slice none 0 0) (G := []) rfl (fun q hq => by cases hq) ?_⟩
      · simp only [V.den, get_new hs]
      · exact ⟨none, 0, rfl, by simp, by simp, fun _ => rfl, fun j y hj => by simp [flat] at hj⟩
    · exact ⟨_, ρ, F, H, h, hx, .refl hs⟩
  · exact ⟨_, ρ, F, H, h, hx, .refl hs⟩
theorem roifyL_sound {ro : RO} : ∀ {k : Nat} {vs : List V} {H : Heap} {ρ : List Value} {F : Nat → List Nat} {xs : List Value} {K : List V → Heap → Prop}, roifyL ro lk k vs H K → denL ρ vs = some xs → Sat cfg.elT ρ F H w →
    ∃ vs' ρ' F' H', K vs' H' ∧ denL ρ' vs' = some xs ∧ Step cfg lk ρ F H w ρ' F' H' w
  | k, [], H, ρ, F, xs, K, h, hx, hs => ⟨[], ρ, F, H, h, hx, .refl hs⟩
  | k, v :: r, H, ρ, F, xs, K, h, hx, hs => by
    simp only [denL] at hx
    cases hv : v.den ρ with
    | none => simp [hv] at hx
    | some x =>
      cases hr : denL ρ r with
      | none => simp [hv, hr] at hx
      | some ys =>
        simp only [hv, hr] at hx; injection hx with hx; subst hx
        obtain ⟨v', ρ1, F1, H1, h1, h2, st1⟩ := roify_sound (lk := lk) h hv hs
        obtain ⟨vs', ρ2, F2, H2, g1, g2, st2⟩ := roifyL_sound h1 (denL_le st1.le r ys hr) st1.sat
        exact ⟨v' :: vs', ρ2, F2, H2, g1, by simp only [denL, den_le st2.le v' x h2, g2], st1.trans st2⟩
def SpecOK (P : Program) (elT : ET) (g : FuncId) (s : Spec) : Prop :=
  (∃ fn, P.funcs[g]? = some fn ∧ (fn.name == "runtime.NumGoroutine") = false ∧ fn.body.isNone = false) ∧
  ∀ (args : List V) (H : Heap) (K : V → Heap → Prop), s.tr args H K → ∀ (ρ : List Value) (F : Nat → List Nat) (w : World) (vals : List Value), denL ρ args = some vals → Sat elT ρ F H w →
    Calls P g vals.toArray w fun e w' => ∃ v x ρ' F' H', e = .returned x ∧ K v H' ∧ Rel ρ' v x ∧ Le ρ ρ' ∧ Sat elT ρ' F' H' w' ∧ Fr H F w H' F' w'
theorem allFree_spec : ∀ {Hc : Heap}, allFree lk Hc = true → ∀ (p : Nat) (c : Blk), Hc[p]? = some c → c.writable = true → mayWrite lk c = true
  | [], _, p, c, hc, _ => by simp at hc
  | b :: r, h, p, c, hc, hw => by
    simp only [allFree, Bool.and_eq_true, Bool.or_eq_true, Bool.not_eq_true'] at h
    cases p with
    | zero => simp at hc; subst hc; rcases h.1 with h | h <;> simp_all
    | succ p => simp at hc; exact allFree_spec h.2 p c hc hw
def LkOK (lk : Option (Blk → Bool)) : Prop := ∀ f, lk = some f → ∀ (g : Nat → Option Nat) (b c : Blk), b.ren g = some c → f c = f b
theorem callC_gen (hlk : LkOK lk) {s : Spec} {vals : List Value} (C : (Ending → World → Prop) → Prop) (hmono : ∀ R R' : Ending → World → Prop, C R → (∀ e w, R e w → R' e w) → C R')
    (hspec : ∀ (args : List V) (H : Heap) (K : V → Heap → Prop), s.tr args H K → ∀ (ρ : List Value) (F : Nat → List Nat), denL ρ args = some vals → Sat cfg.elT ρ F H w →
      C fun e w' => ∃ v x ρ' F' H', e = .returned x ∧ K v H' ∧ Rel ρ' v x ∧ Le ρ ρ' ∧ Sat cfg.elT ρ' F' H' w' ∧ Fr H F w H' F' w')
    {args : List V} {K : V → Heap → Prop} (h : callC s args H lk K) (hx : denL ρ args = some vals) (hs : Sat cfg.elT ρ F H w) :
    C fun e w' => ∃ v x ρ' F' H', e = .returned x ∧ K v H' ∧ Rel ρ' v x ∧ Step cfg lk ρ F H w ρ' F' H' w' := by
  unfold callC at h
  obtain ⟨ags, ρ0, F0, H0, h, hx0, st0⟩ := roifyL_sound (lk := lk) h hx hs
  have hs0 := st0.sat
  generalize hids : reach H0 3 (addNew [] (idsL ags)) = ids at h
  simp only at h
  split at h
  · rename_i ags' H1 hren hsel
    have hc := cond_elim h
    have hc1 := hc.1
    simp only [Bool.and_eq_true] at hc1
    obtain ⟨hnd, hfree⟩ := hc1
    have hh := hc.2
    clear h hc
    obtain ⟨hlen1, hget1⟩ := sel_spec hsel
    generalize hHc : roB s.ro H1 = Hc at hh hfree
    have hlen : Hc.length = ids.length := by rw [← hHc, roB_len, hlen1]
    have hρc : ∀ i j, idx ids i = some j → (ids.map fun i => ρ0.getD i undef)[j]? = ρ0[i]? := by
      intro i j hij
      have hj := idx_spec hij
      have hjl : j < ids.length := (List.getElem?_eq_some_iff.1 hj).1
      have hjc : j < H1.length := by rw [hlen1]; exact hjl
      obtain ⟨i', b, e1, e2, _⟩ := hget1 j _ (List.getElem?_eq_getElem hjc)
      rw [hj] at e1; injection e1 with e1; subst e1
      have hil : i < ρ0.length := by rw [hs0.len]; exact (List.getElem?_eq_some_iff.1 e2).1
      rw [List.getElem?_map, hj]
      simp [List.getD, List.getElem?_eq_getElem hil]
    have hget : ∀ (p : Nat) (c : Blk), Hc[p]? = some c → ∃ (i : Nat) (b : Blk), ids[p]? = some i ∧ H0[i]? = some b ∧ (c.writable = true → b.writable = true) ∧
        ∀ (x : Value) (G : List Nat), b.holds cfg.elT ρ0 w x G → c.holds cfg.elT (ids.map fun i => ρ0.getD i undef) w x G := by
      intro p c hcp
      rw [← hHc] at hcp
      obtain ⟨d, hd, hdw, hdh⟩ := roB_get hcp
      obtain ⟨i, b, e1, e2, e3⟩ := hget1 p d hd
      exact ⟨i, b, e1, e2, fun hw => by rw [← Blk.ren_writable e3]; exact hdw hw, fun x G hb => hdh _ _ _ _ _ (Blk.ren_holds hρc e3 hb)⟩
    have hsat : Sat cfg.elT (ids.map fun i => ρ0.getD i undef) (fun p => F0 (ids.getD p 0)) Hc w := by
      refine ⟨by simp [hlen], fun p c y hcp hy => ?_, fun p c hcp n hn => ?_, fun p q c d hcp hdq hpq hw n hn => ?_⟩
      · obtain ⟨i, b, e1, e2, _, e3⟩ := hget p c hcp
        have hp := hρc i p (idx_complete hnd e1)
        rw [hy] at hp
        have hgd : ids.getD p 0 = i := by simp [List.getD, e1]
        show c.holds cfg.elT _ w y (F0 (ids.getD p 0))
        rw [hgd]
        exact e3 y _ (hs0.each i b y e2 hp.symm)
      · obtain ⟨i, b, e1, e2, _⟩ := hget p c hcp
        have hgd : ids.getD p 0 = i := by simp [List.getD, e1]
        simp only [hgd] at hn
        exact hs0.lt i b e2 n hn
      · obtain ⟨i, b, e1, e2, e3, _⟩ := hget p c hcp
        obtain ⟨j, b2, f1, f2, _⟩ := hget q d hdq
        have hgd : ids.getD p 0 = i := by simp [List.getD, e1]
        have hgd2 : ids.getD q 0 = j := by simp [List.getD, f1]
        simp only [hgd] at hn
        simp only [hgd2]
        exact hs0.disj i j b b2 e2 f2 (fun e => by subst e; exact hpq (nodup_spec hnd p q i e1 f1)) (e3 hw) n hn
    have hden : denL (ids.map fun i => ρ0.getD i undef) ags' = some vals := by rw [renL_den hρc ags ags' hren]; exact hx0
    refine hmono _ _ (hspec ags' Hc _ hh _ _ hden hsat) ?_
    rintro e w' ⟨v, x, ρ', F', H', rfl, hK, hrel, hle, hs', hfr⟩
    split at hK
    · rename_i v' Hb hv' hHb
      have hk := cond_elim hK
      have hk1 := hk.1
      simp only [Bool.and_eq_true] at hk1
      have hll := Nat.le_of_ble_eq_true hk1.1
      have hown := hk1.2
      obtain ⟨hlenB, hgetB⟩ := selB_spec hHb
      have hl' : ids.length ≤ H'.length := by rw [← hlenB]; exact hll
      have hback : ∀ i j, backOf H0.length ids i = some j → (ρ0 ++ ρ'.drop ids.length)[j]? = ρ'[i]? := by
        intro i j hij
        unfold backOf at hij
        split at hij
        · rename_i j' hj'
          injection hij with hij; subst hij
          have hi := idx_complete hnd hj'
          have hp := hρc j' i hi
          have hil : i < ids.length := (List.getElem?_eq_some_iff.1 hj').1
          obtain ⟨i', b, e1, e2, _⟩ := hget i _ (List.getElem?_eq_getElem (by rw [hlen]; exact hil))
          rw [hj'] at e1; injection e1 with e1; subst e1
          have hjl : j' < ρ0.length := by rw [hs0.len]; exact (List.getElem?_eq_some_iff.1 e2).1
          rw [List.getElem?_append_left hjl]
          rw [List.getElem?_eq_getElem hjl] at hp ⊢
          exact (hle i _ hp).symm
        · rename_i hnone
          injection hij with hij; subst hij
          have hil : ids.length ≤ i := by
            rcases Nat.lt_or_ge i ids.length with h | h
            · rw [List.getElem?_eq_getElem h] at hnone; cases hnone
            · exact h
          rw [List.getElem?_append_right (by rw [hs0.len]; omega), List.getElem?_drop, hs0.len]
          congr 1
          omega
      let mine : Nat → Prop := fun p => ∀ c, Hc[p]? = some c → c.writable = true
      let F2 : Nat → List Nat := fun j => if j < H0.length then (match idx ids j with
        | some p => (match Hc[p]? with | some b => if b.writable = true then F' p else F0 j | none => F0 j)
        | none => F0 j) else F' (j - H0.length + ids.length)
      have hcases : ∀ (j : Nat) (c : Blk), (mergeB ids Hc Hb 0 H0 ++ Hb.drop ids.length)[j]? = some c →
          (j < H0.length ∧ H0[j]? = some c ∧ F2 j = F0 j ∧ (∀ (p : Nat) (d : Blk), ids[p]? = some j → Hc[p]? = some d → d.writable = false)) ∨
          (∃ p b, H'[p]? = some b ∧ b.ren (backOf H0.length ids) = some c ∧ F2 j = F' p ∧ (ρ0 ++ ρ'.drop ids.length)[j]? = ρ'[p]? ∧ backOf H0.length ids p = some j ∧ notRO c = true) := by
        intro j c hc
        by_cases hj : j < H0.length
        · rw [List.getElem?_append_left (by rw [mergeB_len]; exact hj)] at hc
          obtain ⟨b, hb, hor⟩ := mergeB_spec ids Hc Hb 0 H0 j c hc
          rw [Nat.zero_add] at hor
          rcases hor with ⟨rfl, hor⟩ | ⟨p, d, hp, hd, hw, rfl⟩
          · refine .inl ⟨hj, hb, ?_, fun p d hp hd => hor p d (idx_complete hnd hp) hd⟩
            simp only [F2, hj, if_true]
            cases hi : idx ids j with
            | none => rfl
            | some p =>
              cases hd : Hc[p]? with
              | none => simp [hd]
              | some d => simp [hd, hor p d hi hd]
          · have hpi := idx_spec hp
            have hpl : p < ids.length := (List.getElem?_eq_some_iff.1 hpi).1
            have hpb : p < Hb.length := by omega
            have hbp : Hb.getD p .dead = Hb[p] := by simp [List.getD, List.getElem?_eq_getElem hpb]
            obtain ⟨b2, h1, h2⟩ := hgetB p _ (List.getElem?_eq_getElem hpb)
            have hbk : backOf H0.length ids p = some j := by unfold backOf; rw [hpi]
            refine .inr ⟨p, b2, h1, by rw [hbp]; exact h2, ?_, hback p j hbk, hbk, ?_⟩
            · simp only [F2, hj, if_true, hp, hd, hw]
            · rw [hbp]
              exact ownB_spec hown p _ (List.getElem?_eq_getElem hpb) (fun c hc => by rw [hd] at hc; injection hc with hc; subst hc; exact hw)
        · have hj' : H0.length ≤ j := by omega
          rw [List.getElem?_append_right (by rw [mergeB_len]; exact hj'), mergeB_len, List.getElem?_drop] at hc
          obtain ⟨b2, h1, h2⟩ := hgetB _ c hc
          have hbk : backOf H0.length ids (ids.length + (j - H0.length)) = some j := by
            unfold backOf
            rw [List.getElem?_eq_none (by omega)]
            show some (H0.length + (ids.length + (j - H0.length) - ids.length)) = some j
            rw [Nat.add_sub_cancel_left, Nat.add_sub_cancel' hj']
          refine .inr ⟨_, b2, h1, h2, ?_, hback _ j hbk, hbk, ownB_spec hown _ c hc (fun d hd => ?_)⟩
          · simp only [F2, hj, if_false]
            congr 1
            omega
          · have := (List.getElem?_eq_some_iff.1 hd).1
            omega
      have hold : ∀ (j : Nat) (c : Blk), H0[j]? = some c → (∀ (p : Nat) (d : Blk), ids[p]? = some j → Hc[p]? = some d → d.writable = false) → ∀ n ∈ F0 j, w'.heap[n]? = w.heap[n]? := by
        intro j c hc hno n hn
        refine hfr.block n (hs0.lt j c hc n hn) (fun p d hd hdw hm => ?_)
        obtain ⟨i, b, e1, e2, e3, _⟩ := hget p d hd
        have hgd : ids.getD p 0 = i := by simp [List.getD, e1]
        simp only [hgd] at hm
        have hij : i ≠ j := fun e => by subst e; rw [hno p d e1 hd] at hdw; cases hdw
        exact hs0.disj i j b c e2 hc hij (e3 hdw) n hm hn
      have hfoot : ∀ (p : Nat) (b : Blk), H'[p]? = some b → b.writable = true → ∀ n ∈ F' p, w.heap.size ≤ n ∨ ∃ (q i : Nat) (c d : Blk), ids[q]? = some i ∧ H0[i]? = some c ∧ n ∈ F0 i ∧ c.writable = true ∧ Hc[q]? = some d ∧ d.writable = true := by
        intro p b hb hbw n hn
        rcases hfr.foot p b hb hbw n hn with h | ⟨q, d, hd, hdw, hm⟩
        · exact .inl h
        · obtain ⟨i, c, e1, e2, e3, _⟩ := hget q d hd
          have hgd : ids.getD q 0 = i := by simp [List.getD, e1]
          simp only [hgd] at hm
          exact .inr ⟨q, i, c, d, e1, e2, hm, e3 hdw, hd, hdw⟩
      have hdead : ∀ (p : Nat) (b c : Blk), H'[p]? = some b → b.ren (backOf H0.length ids) = some c → notRO c = true → b.writable = true ∨ F' p = [] := by
        intro p b c hb hbr hno
        cases b with
        | dead =>
          right
          have hp : p < ρ'.length := by rw [hs'.len]; exact (List.getElem?_eq_some_iff.1 hb).1
          exact hs'.each p _ _ hb (List.getElem?_eq_getElem hp)
        | cells T cs => exact .inl rfl
        | rcells cs =>
          simp only [Blk.ren] at hbr
          split at hbr
          · injection hbr with hbr; subst hbr; cases hno
          · cases hbr
        | map m n => exact .inl rfl
        | iter m left n c => exact .inl rfl
        | pk tg st xs rs => exact .inl rfl
        | row t l ro =>
          simp only [Blk.ren, Option.some.injEq] at hbr
          subst hbr
          exact .inl hno
      have hsat2 : Sat cfg.elT (ρ0 ++ ρ'.drop ids.length) F2 (mergeB ids Hc Hb 0 H0 ++ Hb.drop ids.length) w' := by
        refine ⟨?_, fun j c y hc hy => ?_, fun j c hc n hn => ?_, fun j k c d hc hd hjk hcw n hn => ?_⟩
        · rw [List.length_append, List.length_append, mergeB_len, List.length_drop, List.length_drop, hs0.len, hs'.len, hlenB]
        · rcases hcases j c hc with ⟨hj, hc0, hF, hno⟩ | ⟨p, b, hb, hbr, hF, hρ, _⟩
          · rw [hF]
            rw [List.getElem?_append_left (by rw [hs0.len]; exact hj)] at hy
            exact Blk.holds_le (Le.append ρ0 _) (hold j c hc0 hno) c (hs0.each j c y hc0 hy)
          · rw [hF]
            rw [hρ] at hy
            exact Blk.ren_holds hback hbr (hs'.each p b y hb hy)
        · rcases hcases j c hc with ⟨hj, hc0, hF, hno⟩ | ⟨p, b, hb, hbr, hF, hρ, _⟩
          · rw [hF] at hn
            exact Nat.lt_of_lt_of_le (hs0.lt j c hc0 n hn) hfr.size
          · rw [hF] at hn
            exact hs'.lt p b hb n hn
        · rcases hcases j c hc with ⟨hj, hc0, hF, hno⟩ | ⟨p, b, hb, hbr, hF, hρ, hbk, hnr⟩
          · rw [hF] at hn
            rcases hcases k d hd with ⟨hk', hd0, hF', hno'⟩ | ⟨q, b', hb', hbr', hF', hρ', hbk', hnr'⟩
            · rw [hF']; exact hs0.disj j k c d hc0 hd0 hjk hcw n hn
            · rw [hF']
              intro hm
              rcases hdead q b' d hb' hbr' hnr' with hbw | h0
              · rcases hfoot q b' hb' hbw n hm with h | ⟨q', i, c', d', e1, e2, e3, e4, e5, e6⟩
                · have := hs0.lt j c hc0 n hn; omega
                · have hij : j ≠ i := fun e => by subst e; rw [hno q' d' e1 e5] at e6; cases e6
                  exact hs0.disj j i c c' hc0 e2 hij hcw n hn e3
              · rw [h0] at hm; cases hm
          · rw [hF] at hn
            have hbw : b.writable = true := by rw [← Blk.ren_writable hbr]; exact hcw
            rcases hcases k d hd with ⟨hk', hd0, hF', hno'⟩ | ⟨q, b', hb', hbr', hF', hρ', hbk', hnr'⟩
            · rw [hF']
              intro hm
              rcases hfoot p b hb hbw n hn with h | ⟨q', i, c', d', e1, e2, e3, e4, e5, e6⟩
              · have := hs0.lt k d hd0 n hm; omega
              · have hij : i ≠ k := fun e => by subst e; rw [hno' q' d' e1 e5] at e6; cases e6
                exact hs0.disj i k c' d e2 hd0 hij e4 n e3 hm
            · rw [hF']
              have hpq : p ≠ q := fun e => by subst e; rw [hbk] at hbk'; injection hbk' with hbk'; exact hjk hbk'
              exact hs'.disj p q b b' hb hb' hpq hbw n hn
      refine ⟨v', x, _, F2, _, rfl, hk.2, ren_rel hback hv' hrel, st0.trans ⟨Le.append ρ0 _, hsat2, ⟨hfr.os, hfr.tape, hfr.output, hfr.size, fun n hn hno => ?_, fun j c hc hcw n hn => ?_, fun j c hc n hn => ?_⟩, fun f hf j c hc hfc => ?_⟩⟩
      · refine hfr.block n hn (fun p d hd hdw hm => ?_)
        obtain ⟨i, b, e1, e2, e3, _⟩ := hget p d hd
        have hgd : ids.getD p 0 = i := by simp [List.getD, e1]
        simp only [hgd] at hm
        exact hno i b e2 (e3 hdw) hm
      · rcases hcases j c hc with ⟨hj, hc0, hF, hno⟩ | ⟨p, b, hb, hbr, hF, hρ, hbk, hnr⟩
        · rw [hF] at hn; exact .inr ⟨j, c, hc0, hcw, hn⟩
        · rw [hF] at hn
          rcases hfoot p b hb (by rw [← Blk.ren_writable hbr]; exact hcw) n hn with h | ⟨q', i, c', d', e1, e2, e3, e4, _⟩
          · exact .inl h
          · exact .inr ⟨i, c', e2, e4, e3⟩
      · rcases hcases j c hc with ⟨hj, hc0, hF, hno⟩ | ⟨p, b, hb, hbr, hF, hρ, hbk, hnr⟩
        · rw [hF] at hn; exact .inr ⟨j, c, hc0, hn⟩
        · rw [hF] at hn
          rcases hdead p b c hb hbr hnr with hbw | h0
          · rcases hfoot p b hb hbw n hn with h | ⟨q', i, c', d', e1, e2, e3, e4, _⟩
            · exact .inl h
            · exact .inr ⟨i, c', e2, e3⟩
          · rw [h0] at hn; cases hn
      · have hj : j < H0.length := (List.getElem?_eq_some_iff.1 hc).1
        have hno : ∀ (p : Nat) (d : Blk), ids[p]? = some j → Hc[p]? = some d → d.writable = false := by
          intro p d hp hd
          cases hw : d.writable with
          | false => rfl
          | true =>
            exfalso
            have h1 := allFree_spec hfree p d hd hw
            have h2 := mayWrite_lk h1 f hf
            have hdr : ∃ b g, H0[j]? = some b ∧ b.ren g = some d := by
              rw [← hHc] at hd
              obtain ⟨d1, hd1, e | e | e⟩ := roB_or hd
              · subst e
                obtain ⟨i, b, e1, e2, e3⟩ := hget1 p _ hd1
                rw [hp] at e1; injection e1 with e1; subst e1
                exact ⟨b, idx ids, e2, e3⟩
              · subst e
                obtain ⟨i, b, e1, e2, e3⟩ := hget1 p d1 hd1
                rw [hp] at e1; injection e1 with e1; subst e1
                refine ⟨b, idx ids, e2, ?_⟩
                cases d1 with
                | dead => exact e3
                | cells T cs => exact e3
                | rcells cs => exact e3
                | map m n => exact e3
                | iter m left n c => exact e3
                | pk tg st xs rs => exact e3
                | row t l ro => cases hw
              · subst e
                obtain ⟨i, b, e1, e2, e3⟩ := hget1 p d1 hd1
                rw [hp] at e1; injection e1 with e1; subst e1
                refine ⟨b, idx ids, e2, ?_⟩
                cases d1 with
                | dead => exact e3
                | cells T cs => cases hw
                | rcells cs => exact e3
                | map m n => exact e3
                | iter m left n c => exact e3
                | pk tg st xs rs => exact e3
                | row t l ro => exact e3
            obtain ⟨b, g, e2, e3⟩ := hdr
            rw [hc] at e2; injection e2 with e2; subst e2
            rw [hlk f hf _ _ _ e3, hfc] at h2
            cases h2
        have hget2 : (mergeB ids Hc Hb 0 H0 ++ Hb.drop ids.length)[j]? = some c ∧ F2 j = F0 j := by
          have hjm : j < (mergeB ids Hc Hb 0 H0).length := by rw [mergeB_len]; exact hj
          rw [List.getElem?_append_left hjm]
          obtain ⟨b, hb, hor⟩ := mergeB_spec ids Hc Hb 0 H0 j _ (List.getElem?_eq_getElem hjm)
          rw [hc] at hb; injection hb with hb; subst hb
          rw [Nat.zero_add] at hor
          rcases hor with ⟨e, hor⟩ | ⟨p, d, hp, hd, hw, _⟩
          · refine ⟨by rw [List.getElem?_eq_getElem hjm, e], ?_⟩
            simp only [F2, hj, if_true]
            cases hi : idx ids j with
            | none => rfl
            | some p =>
              cases hd : Hc[p]? with
              | none => simp [hd]
              | some d => simp [hd, hor p d hi hd]
          · rw [hno p d (idx_spec hp) hd] at hw; cases hw
        exact ⟨hget2.1, hget2.2, hold j c hc hno⟩
    · exact hK.elim
  · exact h.elim
theorem callC_sound (hlk : LkOK lk) {g : FuncId} {s : Spec} (hspec : SpecOK cfg.P cfg.elT g s) {args : List V} {vals : List Value} {K : V → Heap → Prop} (h : callC s args H lk K) (hx : denL ρ args = some vals) (hs : Sat cfg.elT ρ F H w) :
    Calls cfg.P g vals.toArray w fun e w' => ∃ v x ρ' F' H', e = .returned x ∧ K v H' ∧ Rel ρ' v x ∧ Step cfg lk ρ F H w ρ' F' H' w' :=
  callC_gen hlk (fun R => Calls cfg.P g vals.toArray w R) (fun _ _ h h' => h.mono h') (fun args H K htr ρ F hd hs => hspec.2 args H K htr ρ F w vals hd hs) h hx hs
end Go.Rx
end
