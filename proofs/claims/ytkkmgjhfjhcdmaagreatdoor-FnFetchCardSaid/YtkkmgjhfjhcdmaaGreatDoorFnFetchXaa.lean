/- A machine over values for Go functions, proved sound, and functions run on it: texts M1, N0, R1, O1. -/
import Derived.Orders
import Derived.RowKit
import Derived.Lib.ItoaNum
import Derived.Laws.AppendOwn
set_option linter.all false
namespace Go.Proofs.YtkkmgjhfjhcdmaaGreatDoor.Mx
open Go Go.RowKit

inductive AV where
  | no
  | sc (v : Value)
  | er
  | sl (o : Bool) (z : Nat) (rows : List (List AV))
  | ow (m lo n : Nat)
  | pt (m i j : Nat)
  | pb (o : Bool) (cells : List AV)
  | mv (m : Nat)
  | mc (es : List (Value × Value))
  | ag (cells : List AV)
  | tu (vs : List AV)
abbrev Row := List AV

inductive Blk where
  | bx (cells : List AV)
  | ar (z ver : Nat) (rows : List Row)
  | fz (z : Nat) (rows : List Row)
  | sb (p i j ver : Nat)
  | mp (ver : Nat) (es : List (Value × Value))
  | it (m ver : Nat) (seen : List Value)
  | im (rem : List (Value × Value)) (last : Option (Value × Value))

inductive TK where
  | one
  | bool
  | str
  | int (k : IntKind)
  | slice (e : TypeId)
  | struct (fields : List (Nat × TypeId))
  | map (k e : TypeId)
  | iface
structure TI where
  kind : TK
  size : Nat
  bytes : Nat
  zero : List Value
  cz : List (Option Nat)
  cmp : Bool := false     -- may two be held against each other? (structs)
abbrev Ty := TypeId → Option TI

def plain : Value → Bool
  | .bool _ | .int _ _ | .string _ | .nilIface | .pointer none => true
  | _ => false
abbrev Tv := Nat → AV
abbrev Sv := Nat → Option Blk
abbrev Sto := List (Nat × Blk)
def sget : Sto → Nat → Option Blk
  | [], _ => none
  | (m, b) :: r, n => bif m == n then some b else sget r n
def srem : Sto → Nat → Sto
  | [], _ => []
  | (m, b) :: r, n => bif m == n then srem r n else (m, b) :: srem r n
def supd (s : Sto) (n : Nat) : Option Blk → Sto
  | none => srem s n
  | some b => (n, b) :: srem s n
def tget : List (Nat × AV) → Nat → AV
  | [], _ => .no
  | (m, x) :: r, n => bif m == n then x else tget r n
structure St where
  tm : List (Nat × AV)
  sto : Sto
  ctr : Nat
def St.tv (s : St) : Tv := tget s.tm
def St.sv (s : St) : Sv := sget s.sto
def scp (v : Value) : AV := bif plain v then .sc v else .no
def opv (tv : Tv) : Operand → AV
  | .tmp t => tv t
  | .const v => scp v
  | _ => .no
def isNil : Operand → Bool
  | .const (.slice none 0 0) => true
  | _ => false
def seg {α : Type} (r : List α) (lo n : Nat) : List α := (r.drop lo).take n
def nest (rows : List Row) (i j : Nat) : Option (Nat × List Row) :=
  match rows[i]? with
  | some row => match row[j]? with
    | some (.sl true z r) => some (z, r)
    | _ => none
  | none => none
def blkRows (sv : Sv) (m : Nat) : Option (Nat × List Row) :=
  match sv m with
  | some (.ar z _ r) => some (z, r)
  | some (.fz z r) => some (z, r)
  | some (.sb p i j v) => match sv p with
    | some (.ar _ v' r) => bif v == v' then nest r i j else none
    | _ => none
  | _ => none
def rowsOf (sv : Sv) : AV → Option (Nat × List Row)
  | .sl _ z r => some (z, r)
  | .ow m lo n => match blkRows sv m with | some (z, r) => some (z, seg r lo n) | none => none
  | _ => none
def isSc : AV → Bool
  | .sc _ | .er | .no => true
  | _ => false
def flatR (rows : List Row) : Bool := rows.all fun row => row.all isSc
def isOwn : AV → Bool
  | .sc _ | .er | .no | .sl true _ _ => true
  | _ => false
def ownR (rows : List Row) : Bool := rows.all fun row => row.all isOwn

def cellsOf : AV → Option Row
  | .ag cs => some cs
  | .no | .tu _ => none
  | x => some [x]
def setR (row : Row) (j : Nat) (cs : Row) : Row := row.take j ++ cs ++ row.drop (j + cs.length)
def takeN : Nat → Row → Option Row
  | 0, _ => some []
  | n + 1, x :: r => match takeN n r with | some l => some (x :: l) | none => none
  | _ + 1, [] => none
def isStr : TK → Bool
  | .struct _ => true
  | _ => false
def part (ti : TI) (cs : Row) : Option Row :=
  bif isStr ti.kind then takeN ti.size cs else match cs with | x :: _ => some [x] | [] => none
def wrapA (ti : TI) (l : Row) : AV := bif isStr ti.kind then .ag l else l.headD .no
def loaded (ti : TI) (cs : Row) : Option AV := match part ti cs with | some l => some (wrapA ti l) | none => none
def rdC : AV → AV
  | .sl _ z r => .sl false z r
  | x => x
def ldA (b m i ver j : Nat) : Nat → Row → Row × List (Nat × Option Blk)
  | _, [] => ([], [])
  | k, .sl true z r :: q => (.ow (b + k) 0 r.length :: (ldA b m i ver j (k + 1) q).1, (b + k, some (.sb m i (j + k) ver)) :: (ldA b m i ver j (k + 1) q).2)
  | k, .pb true _ :: q => (.no :: (ldA b m i ver j (k + 1) q).1, (ldA b m i ver j (k + 1) q).2)
  | k, x :: q => (x :: (ldA b m i ver j (k + 1) q).1, (ldA b m i ver j (k + 1) q).2)

structure Dl where
  val : AV
  upd : List (Nat × Option Blk)
def one : Option AV → Option Dl
  | some v => some ⟨v, []⟩
  | none => none
def sync : List (Nat × Option Blk) → Sto → Sto
  | [], s => s
  | (m, b) :: r, s => sync r (supd s m b)
def St.put (s : St) (dst : Option Tmp) (d : Dl) : St :=
  match dst with
  | some t => ⟨(t, d.val) :: s.tm, sync d.upd s.sto, s.ctr⟩
  | none => ⟨s.tm, sync d.upd s.sto, s.ctr⟩
def kill (ms : List Nat) : List (Nat × Option Blk) := ms.map fun m => (m, none)

def wr : IntKind → Int → Int
  | .i64, n => wrap64 n
  | k, n => k.wrap n
def bt (s : ByteArray) : List UInt8 := s.data.toList
def eqs (a b : ByteArray) : Bool := decide (a = b)
def lts (a b : ByteArray) : Bool := Op.bytesLess a.data.toList b.data.toList
def bopI (op : BinOp) (d : IntKind) (a b : Int) : Option Value :=
  match op with
  | .add => some (.int d (wr d (a + b)))
  | .sub => some (.int d (wr d (a - b)))
  | .mul => some (.int d (wr d (a * b)))
  | .quo => if b ≠ 0 then some (.int d (wr d (a.tdiv b))) else none
  | .rem => if b ≠ 0 then some (.int d (a.tmod b)) else none
  | .xor => some (.int d (wr d (BitVec.ofInt d.bits a ^^^ BitVec.ofInt d.bits b).toNat))
  | .and => some (.int d (wr d (BitVec.ofInt d.bits a &&& BitVec.ofInt d.bits b).toNat))
  | .or => some (.int d (wr d (BitVec.ofInt d.bits a ||| BitVec.ofInt d.bits b).toNat))
  | .eql => some (.bool (decide (a = b)))
  | .neq => some (.bool (!decide (a = b)))
  | .lss => some (.bool (decide (a < b)))
  | .leq => some (.bool (decide (a ≤ b)))
  | .gtr => some (.bool (decide (b < a)))
  | .geq => some (.bool (decide (b ≤ a)))
  | _ => none
def bopS (op : BinOp) (a b : ByteArray) : Option Value :=
  match op with
  | .add => if a.size + b.size ≤ 4611686018427387904 then some (.string (a ++ b)) else none
  | .eql => some (.bool (eqs a b))
  | .neq => some (.bool (!eqs a b))
  | .lss => some (.bool (lts a b))
  | .gtr => some (.bool (!(lts a b || eqs a b)))
  | .leq => some (.bool (lts a b || eqs a b))
  | .geq => some (.bool (!lts a b))
  | _ => none
def bop : BinOp → Value → Value → Option Value
  | .shl, .int d a, .int _ b => if 0 ≤ b then some (.int d (wr d (a * 2 ^ (min b.toNat d.bits)))) else none
  | .shr, .int d a, .int _ b => if 0 ≤ b then some (.int d (a.fdiv (2 ^ (min b.toNat d.bits)))) else none
  | op, .int d a, .int e b => if d = e then bopI op d a b else none
  | op, .string a, .string b => bopS op a b
  | _, _, _ => none
def bopB : BinOp → Bool → Bool → Option Value
  | .eql, a, b => some (.bool (a == b))
  | .neq, a, b => some (.bool (!(a == b)))
  | _, _, _ => none
def uop : UnOp → Value → Option Value
  | .neg, .int d n => some (.int d (wr d (0 - n)))
  | .not, .bool b => some (.bool !b)
  | _, _ => none
def eq1 (tk : TK) (x y : AV) : Option Bool :=
  match tk, x, y with
  | .int _, .sc (.int d a), .sc (.int e b) => if d = e then some (decide (a = b)) else none
  | .str, .sc (.string a), .sc (.string b) => some (eqs a b)
  | .bool, .sc (.bool a), .sc (.bool b) => some (a == b)
  | _, _, _ => none
def eqF (T : Ty) : List (Nat × TypeId) → Nat → Row → Row → Option Bool
  | [], _, _, _ => some true
  | (off, t) :: fs, k, x :: r, y :: q => bif off == k then (match T t with
    | some ti => match eq1 ti.kind x y, eqF T fs (k + 1) r q with
      | some b, some c => some (b && c)
      | _, _ => none
    | none => none) else none
  | _, _, _, _ => none

def toI : AV → Option Int
  | .sc (.int _ n) => some n
  | _ => none
def optI (tv : Tv) : Option Operand → Option (Option Int)
  | none => some none
  | some x => match toI (opv tv x) with | some n => some (some n) | none => none

def pIndexAddr (z : Nat) (x : AV) (i : Int) (sv : Sv) : Option AV :=
  match x with
  | .sl _ y r => match r[i.toNat]? with
    | some row => if y = z ∧ 0 ≤ i then some (.pb false row) else none
    | none => none
  | .ow m lo n => match sv m with
    | some (.ar y _ _) => if y = z ∧ 0 ≤ i ∧ i < (n : Int) then some (.pt m (lo + i.toNat) 0) else none
    | some (.fz y r) => match (seg r lo n)[i.toNat]? with
      | some row => if y = z ∧ 0 ≤ i then some (.pb false row) else none
      | none => none
    | some (.sb _ _ _ _) => match blkRows sv m with
      | some (y, _) => if y = z ∧ 0 ≤ i ∧ i < (n : Int) then some (.pt m (lo + i.toNat) 0) else none
      | none => none
    | _ => none
  | _ => none
def cutOf (lo hi mx : Option Int) (n : Nat) : Option (Nat × Nat) :=
  if 0 ≤ lo.getD 0 ∧ lo.getD 0 ≤ hi.getD n ∧ hi.getD n ≤ mx.getD n ∧ mx.getD n ≤ (n : Int) then some ((lo.getD 0).toNat, (hi.getD n - lo.getD 0).toNat) else none
def pCut (s : ByteArray) (lo hi mx : Option Int) : Option AV :=
  match mx with
  | none => match cutOf lo hi none s.size with | some (l, n) => some (.sc (.string (s.extract l (l + n)))) | none => none
  | some _ => none
def blkZ (sv : Sv) (m : Nat) : Option Nat := match blkRows sv m with | some (z, _) => some z | none => none
def pSlice (z : Nat) (x : AV) (lo hi mx : Option Int) (sv : Sv) : Option AV :=
  match x with
  | .sl _ y r => match cutOf lo hi mx r.length with | some (l, k) => bif y == z && !r.isEmpty then some (.sl false z (seg r l k)) else none | none => none
  | .ow m l0 n0 => match blkZ sv m, cutOf lo hi mx n0 with | some y, some (l, k) => bif y == z then some (.ow m (l0 + l) k) else none | _, _ => none
  | _ => none
def byteRow (u : UInt8) : Row := [.sc (.int .u8 u.toNat)]
def byteOf : Row → Option UInt8
  | [.sc (.int .u8 n)] => some (UInt8.ofNat n.toNat)
  | _ => none
def bytesOf : List Row → Option (List UInt8)
  | [] => some []
  | r :: q => match byteOf r with | some u => (match bytesOf q with | some l => some (u :: l) | none => none) | none => none
def room : Nat := 140737488355328
def srcOf (flat : Bool) (x : AV) (sv : Sv) : Option (Nat × List Row × List Nat) :=
  match x with
  | .sc (.string t) => some (1, (bt t).map byteRow, [])
  | .ow m lo n => bif flat then (match blkRows sv m with | some (z, r) => some (z, seg r lo n, []) | none => none)
    else (match sv m with | some (.ar z _ r) => some (z, seg r lo n, [m]) | _ => none)
  | .sl _ z r => bif flat then some (z, r, []) else none
  | _ => none
def pAppend (z bytes b : Nat) (flat nil : Bool) (s x : AV) (sv : Sv) : Option Dl :=
  match srcOf flat x sv with
  | none => none
  | some (y, B, ns) =>
    bif nil then (if y = z ∧ (bif flat then flatR B else true) = true ∧ B.length * bytes ≤ room then some ⟨.ow b 0 B.length, kill ns ++ [(b, some (.ar z 0 B))]⟩ else none) else
    match s with
    | .ow m lo n => match sv m with
      | some (.ar y' _ A) => if y = z ∧ y' = z ∧ (bif flat then flatR B else !ns.contains m) = true ∧ (n + B.length) * bytes ≤ room then some ⟨.ow b 0 (n + B.length), kill ns ++ [(m, none), (b, some (.ar z 0 (seg A lo n ++ B)))]⟩ else none
      | some (.sb p i j v) => match sv p with
        | some (.ar zp vp rp) => match blkRows sv m with
          | some (y', A) => if y = z ∧ y' = z ∧ flat = true ∧ flatR B = true ∧ flatR A = true ∧ (n + B.length) * bytes ≤ room then
              some ⟨.ow b 0 (n + B.length), [(m, none), (p, some (.ar zp (vp + 1) (rp.set i ((rp.getD i []).set j .no)))), (b, some (.ar z 0 (seg A lo n ++ B)))]⟩ else none
          | none => none
        | _ => none
      | _ => none
    | _ => none
def putRows (sv : Sv) (m : Nat) (bump : Bool) (f : List Row → Option (List Row)) : Option (List (Nat × Option Blk)) :=
  match sv m with
  | some (.ar z v r) => match f r with | some r' => some [(m, some (.ar z (bif bump then v + 1 else v) r'))] | none => none
  | some (.sb p i j v) => match sv p with
    | some (.ar zp vp rp) => bif v == vp && !bump then (match nest rp i j with
      | some (z, r) => (match f r with | some r' => some [(p, some (.ar zp vp (rp.set i ((rp.getD i []).set j (.sl true z r')))))] | none => none)
      | none => none) else none
    | _ => none
  | _ => none
def pCopy (z : Nat) (d x : AV) (sv : Sv) : Option Dl :=
  match rowsOf sv x, d with
  | some (y, B), .ow m lo n => match blkRows sv m with
    | some (y', A) => if y = z ∧ y' = z ∧ flatR B = true ∧ flatR A = true then
        match putRows sv m false (fun A => some (A.take lo ++ B.take n ++ A.drop (lo + min B.length n))) with
        | some u => some ⟨.sc (.int .i64 (min B.length n : Nat)), u⟩
        | none => none else none
    | none => none
  | _, _ => none
def pLen (k : TK) (x : AV) : Option AV :=
  match k, x with
  | .str, .sc (.string s) => some (.sc (.int .i64 s.size))
  | .slice _, .sl _ _ r => some (.sc (.int .i64 r.length))
  | .slice _, .ow _ _ n => some (.sc (.int .i64 n))
  | _, _ => none
def cnv (sv : Sv) (m i ver : Nat) (old : Row) : Nat → Row → Option (Row × List Nat)
  | _, [] => some ([], [])
  | j, x :: q => match cnv sv m i ver old (j + 1) q with
    | none => none
    | some (l, ns) => match x with
      | .sc v => some (.sc v :: l, ns)
      | .er => some (.er :: l, ns)
      | .sl _ z r => some (.sl false z r :: l, ns)
      | .ow k lo n => match sv k with
        | some (.ar z _ r) => bif !(k == m) && !ns.contains k then some (.sl true z (seg r lo n) :: l, k :: ns) else none
        | some (.fz z r) => some (.sl false z (seg r lo n) :: l, ns)
        | some (.sb p i' j' v') => if p = m ∧ i' = i ∧ j' = j ∧ v' = ver ∧ lo = 0 then match old[j]? with
            | some (.sl true z r) => if r.length = n then some (.sl true z r :: l, ns) else none
            | _ => none else none
        | _ => none
      | _ => none
def flatT (ti : TI) : Bool := !ti.cz.any (·.isSome)
def pStore (ti : TI) (p x : AV) (sv : Sv) : Option Dl :=
  match p, cellsOf x with
  | .pt m i j, some cs => match sv m with
    | some (.bx c) => if i = 0 ∧ cs.length = ti.size ∧ j + cs.length ≤ c.length then some ⟨.tu [], [(m, some (.bx (setR c j cs)))]⟩ else none
    | some (.ar z v r) => match r[i]? with
      | some row => match cnv sv m i v row j cs with
        | some (l, ns) => if cs.length = ti.size ∧ j + cs.length ≤ z ∧ (bif flatT ti then l.all isSc else true) = true then some ⟨.tu [], kill ns ++ [(m, some (.ar z (bif flatT ti then v else v + 1) (r.set i (setR row j l))))]⟩ else none
        | none => none
      | none => none
    | some (.sb _ _ _ _) => match blkRows sv m with
      | some (z, r) => match r[i]? with
        | some row => if row.all isSc = true ∧ cs.all isSc = true ∧ cs.length = ti.size ∧ j + cs.length ≤ z then
            (match putRows sv m false (fun r => some (r.set i (setR row j cs))) with | some u => some ⟨.tu [], u⟩ | none => none) else none
        | none => none
      | none => none
    | _ => none
  | _, _ => none
def zbox (b : Nat) : List Value → List (Option Nat) → Row × List (Nat × Option Blk)
  | [], _ => ([], [])
  | _ :: vs, some z :: cz => (.ow b 0 0 :: (zbox (b + 1) vs cz).1, (b, some (.ar z 0 [])) :: (zbox (b + 1) vs cz).2)
  | v :: vs, none :: cz => (scp v :: (zbox (b + 1) vs cz).1, (zbox (b + 1) vs cz).2)
  | v :: vs, [] => (scp v :: (zbox (b + 1) vs []).1, (zbox (b + 1) vs []).2)
def zrow : List Value → List (Option Nat) → Row
  | [], _ => []
  | _ :: vs, some z :: cz => .sl true z [] :: zrow vs cz
  | v :: vs, none :: cz => scp v :: zrow vs cz
  | v :: vs, [] => scp v :: zrow vs []
def fillP (fs : List (Nat × TypeId)) (T : Ty) : Row → List (Nat × AV) → Option Row
  | cs, [] => some cs
  | cs, (i, x) :: r => match fs[i]?, cellsOf x with
    | some (off, t), some ys => match T t with
      | some ti => if ys.length = ti.size ∧ off + ys.length ≤ cs.length then fillP fs T (setR cs off ys) r else none
      | none => none
    | _, _ => none
def fillS (sv : Sv) (z : Nat) : List Row → List (Nat × AV) → Option (List Row × List Nat)
  | rs, [] => some (rs, [])
  | rs, (i, x) :: r => match cellsOf x with
    | some ys => match cnv sv 0 0 0 [] 0 ys with
      | some (l, ns) => if ys.length = z ∧ i < rs.length then
          (match fillS sv z (rs.set i l) r with | some (q, ms) => bif ns.all (fun n => !ms.contains n) then some (q, ns ++ ms) else none | none => none) else none
      | none => none
    | none => none
def pFieldAddr (T : Ty) (fs : List (Nat × TypeId)) (x : AV) (f : Nat) : Option AV :=
  match fs[f]? with
  | none => none
  | some (off, ft) => match T ft with
    | none => none
    | some ti => if ti.size ≠ 0 then (match x with
      | .pt m i j => some (.pt m i (j + off))
      | .pb o cs => some (.pb o (cs.drop off))
      | _ => none) else none
def pConvert (T : Ty) (src dst : TypeId) (b : Nat) (x : AV) (sv : Sv) : Option Dl :=
  match T src, T dst with
  | some a, some c => match a.kind, c.kind with
    | .int _, .int k => match x with | .sc (.int _ n) => some ⟨.sc (.int k (wr k n)), []⟩ | _ => none
    | .str, .str => match x with | .sc (.string s) => some ⟨.sc (.string s), []⟩ | _ => none
    | .slice e, .str => match T e, rowsOf sv x with
      | some te, some (z, A) => match te.kind, bytesOf A with
        | .int .u8, some l => if z = 1 ∧ l.length ≤ room then some ⟨.sc (.string ⟨l.toArray⟩), []⟩ else none
        | _, _ => none
      | _, _ => none
    | .str, .slice e => match T e, x with
      | some te, .sc (.string s) => match te.kind with
        | .int .u8 => if s.size ≤ room then some ⟨.ow b 0 (bt s).length, [(b, some (.ar 1 0 ((bt s).map byteRow)))]⟩ else none
        | _ => none
      | _, _ => none
    | _, _ => none
  | _, _ => none
def getP (tv : Tv) (ps : Array (Nat × Operand)) : List (Nat × AV) := ps.toList.map fun p => (p.1, opv tv p.2)
def elemOf (T : Ty) (t : TypeId) : Option TI :=
  match T t with
  | some ti => match ti.kind with | .slice e => T e | _ => none
  | none => none

def keq : Value → Value → Bool
  | .string a, .string c => eqs c a
  | .int .i64 a, .int .i64 c => decide (c = a)
  | _, _ => false
def kget : List (Value × Value) → Value → Option Value
  | [], _ => none
  | (k, v) :: r, q => bif keq k q then some v else kget r q
def kset : List (Value × Value) → Value → Value → List (Value × Value)
  | [], q, u => [(q, u)]
  | (k, v) :: r, q, u => bif keq k q then (k, u) :: r else (k, v) :: kset r q u
def kkey (k : TK) : Value → Bool
  | .string _ => (match k with | .str => true | _ => false)
  | .int .i64 _ => (match k with | .int .i64 => true | _ => false)
  | _ => false
def kok (k : TK) (es : List (Value × Value)) : Bool := es.all fun e => kkey k e.1
def entries (sv : Sv) : AV → Option (List (Value × Value))
  | .mc es => some es
  | .mv m => match sv m with | some (.mp _ es) => some es | _ => none
  | _ => none
def pLookup (T : Ty) (t : TypeId) (x k : AV) (ok : Bool) (sv : Sv) : Option AV :=
  match T t with
  | some ti => match ti.kind with
    | .map kt et => match T kt, T et with
      | some tk, some te => match entries sv x, k, te.zero with
        | some es, .sc q, [z] => if kok tk.kind es = true ∧ kkey tk.kind q = true ∧ plain z = true ∧ isStr te.kind = false ∧ es.all (fun e => plain e.2) = true then
            some (bif ok then .tu [.sc ((kget es q).getD z), .sc (.bool (kget es q).isSome)] else .sc ((kget es q).getD z)) else none
        | _, _, _ => none
      | _, _ => none
    | _ => none
  | none => none
def pMapSet (T : Ty) (t : TypeId) (x k v : AV) (sv : Sv) : Option Dl :=
  match T t with
  | some ti => match ti.kind with
    | .map kt _ => match T kt with
      | some tk => match x, k, v with
        | .mv m, .sc q, .sc u => match sv m with
          | some (.mp ver es) => if kok tk.kind es = true ∧ kkey tk.kind q = true then some ⟨.tu [], [(m, some (.mp (ver + 1) (kset es q u)))]⟩ else none
          | _ => none
        | _, _, _ => none
      | none => none
    | _ => none
  | none => none
def isSrc : TK → Bool
  | .str | .slice _ => true
  | _ => false

def pBuiltin (T : Ty) (bi : Builtin) (ats : List TypeId) (b : Nat) (ops : List Operand) (tv : Tv) (sv : Sv) : Option Dl :=
  match bi, ops, ats with
  | .len, [x], [t] => match T t with | some ti => one (pLen ti.kind (opv tv x)) | none => none
  | .append, [s, x], [t, u] => match elemOf T t, T u with
    | some te, some tx => bif isSrc tx.kind then pAppend te.size te.bytes b (flatT te) (isNil s) (opv tv s) (opv tv x) sv else none
    | _, _ => none
  | .copy, [d, x], [t, _] => match elemOf T t with
    | some te => bif flatT te then pCopy te.size (opv tv d) (opv tv x) sv else none
    | none => none
  | .min, [x, y], _ => match opv tv x, opv tv y with | .sc (.int k m), .sc (.int k' n) => if k = k' then some ⟨.sc (.int k (if n < m then n else m)), []⟩ else none | _, _ => none
  | .max, [x, y], _ => match opv tv x, opv tv y with | .sc (.int k m), .sc (.int k' n) => if k = k' then some ⟨.sc (.int k (if m < n then n else m)), []⟩ else none | _, _ => none
  | _, _, _ => none
def isC : Operand → Bool
  | .const _ => true
  | _ => false
def pNil (op : BinOp) (q : Bool) : Option Dl :=
  match op with
  | .eql => some ⟨.sc (.bool q), []⟩
  | .neq => some ⟨.sc (.bool !q), []⟩
  | _ => none
def aop (T : Ty) (o : Op) (ty : TypeId) (b : Nat) (tv : Tv) (sv : Sv) : Option Dl :=
  match o with
  | .move x | .assign x => bif isNil x then (match elemOf T ty with | some te => some ⟨.ow b 0 0, [(b, some (.ar te.size 0 []))]⟩ | none => none) else some ⟨opv tv x, []⟩
  | .pick c x y => match opv tv c with | .sc (.bool q) => some ⟨bif q then opv tv x else opv tv y, []⟩ | _ => none
  | .alloc e => match T e with | some ti => some ⟨.pt b 0 0, (zbox (b + 1) ti.zero ti.cz).2 ++ [(b, some (.bx (zbox (b + 1) ti.zero ti.cz).1))]⟩ | none => none
  | .box _ x => match cellsOf (opv tv x) with | some cs => some ⟨.pt b 0 0, [(b, some (.bx cs))]⟩ | none => none
  | .load t p => match T t with
    | none => none
    | some ti => match opv tv p with
      | .pt m i j => match sv m with
        | some (.bx cs) => if i = 0 then one (loaded ti (cs.drop j)) else none
        | some (.ar _ v r) => match r[i]? with
          | some row => match part ti (row.drop j) with | some l => some ⟨wrapA ti (ldA b m i v j 0 l).1, (ldA b m i v j 0 l).2⟩ | none => none
          | none => none
        | some (.sb _ _ _ _) => match blkRows sv m with
          | some (_, r) => match r[i]? with
            | some row => if row.all isSc = true then one (loaded ti (row.drop j)) else none
            | none => none
          | none => none
        | _ => none
      | .pb _ cs => one (loaded ti (cs.map rdC))
      | _ => none
  | .store t p x => match T t with | some ti => pStore ti (opv tv p) (opv tv x) sv | none => none
  | .nilCheck x => match opv tv x with | .pt m i j => some ⟨.pt m i j, []⟩ | .pb o cs => some ⟨.pb o cs, []⟩ | _ => none
  | .binOp op t x y _ => match opv tv x, opv tv y with
    | .sc (.bool a), .sc (.bool c) => match T t with
      | some ti => (match ti.kind with | .bool => (match bopB op a c with | some v => some ⟨.sc v, []⟩ | none => none) | _ => none)
      | none => none
    | .sc .nilIface, .sc .nilIface => match T t with | some ti => (match ti.kind with | .iface => bif isC y then pNil op true else none | _ => none) | none => none
    | .er, .sc .nilIface => match T t with | some ti => (match ti.kind with | .iface => bif isC y then pNil op false else none | _ => none) | none => none
    | .sc a, .sc c => match bop op a c with | some v => some ⟨.sc v, []⟩ | none => none
    | .ag a, .ag c => match T t with
      | some ti => (match ti.kind with
        | .struct fs => bif ti.cmp then (match eqF T fs 0 a c, op with | some q, .eql => some ⟨.sc (.bool q), []⟩ | some q, .neq => some ⟨.sc (.bool !q), []⟩ | _, _ => none) else none
        | _ => none)
      | none => none
    | _, _ => none
  | .unOp op _ x => match opv tv x with | .sc a => (match uop op a with | some v => some ⟨.sc v, []⟩ | none => none) | _ => none
  | .convert src dst x => pConvert T src dst b (opv tv x) sv
  | .makeSlice t l c => match elemOf T t, toI (opv tv l), toI (opv tv c) with
    | some te, some n, some m => if 0 ≤ n ∧ n ≤ m ∧ m * te.bytes ≤ room then some ⟨.ow b 0 n.toNat, [(b, some (.ar te.size 0 (List.replicate n.toNat (zrow te.zero te.cz))))]⟩ else none
    | _, _, _ => none
  | .slice t x lo hi mx => match optI tv lo, optI tv hi, optI tv mx, T t with
    | some l, some h, some m, some ti => if mx.isSome = true ∧ hi.isNone = true then none else match ti.kind, opv tv x with
      | .str, .sc (.string s) => one (pCut s l h m)
      | .slice e, x => match T e with | some te => one (pSlice te.size x l h m sv) | none => none
      | _, _ => none
    | _, _, _, _ => none
  | .fieldAddr t x f => match T t with
    | some ti => match ti.kind with | .struct fs => one (pFieldAddr T fs (opv tv x) f) | _ => none
    | none => none
  | .indexAddr t x i => match elemOf T t, toI (opv tv i) with
    | some te, some n => one (pIndexAddr te.size (opv tv x) n sv)
    | _, _ => none
  | .index t x i => match T t, opv tv x, toI (opv tv i) with
    | some ti, .sc (.string s), some n => match ti.kind, (bt s)[n.toNat]? with | .str, some u => if 0 ≤ n then some ⟨.sc (.int .u8 u.toNat), []⟩ else none | _, _ => none
    | _, _, _ => none
  | .extract x i => match opv tv x with | .tu vs => one vs[i]? | _ => none
  | .build t ps => match T t with
    | some ti => match ti.kind with
      | .struct fs => match fillP fs T (zbox b ti.zero ti.cz).1 (getP tv ps) with | some cs => some ⟨.ag cs, (zbox b ti.zero ti.cz).2⟩ | none => none
      | _ => none
    | none => none
  | .buildSlice t n ps => match elemOf T t with
    | some te => match fillS sv te.size (List.replicate n (zrow te.zero te.cz)) (getP tv ps) with
      | some (rs, ns) => if n * te.size ≤ 65536 then some ⟨.ow b 0 n, kill ns ++ [(b, some (.ar te.size 0 rs))]⟩ else none
      | none => none
    | none => none
  | .makeMap t none => match T t with | some ti => (match ti.kind with | .map _ _ => some ⟨.mv b, [(b, some (.mp 0 []))]⟩ | _ => none) | none => none
  | .lookup t x k ok => one (pLookup T t (opv tv x) (opv tv k) ok sv)
  | .mapUpdate t m k v | .insert t m k v => pMapSet T t (opv tv m) (opv tv k) (opv tv v) sv
  | .call { callee := .builtin bi, args := xs, argTypes := ats } => pBuiltin T bi ats.toList b xs.toList tv sv
  | _ => none
end Go.Proofs.YtkkmgjhfjhcdmaaGreatDoor.Mx

namespace Go.Proofs.YtkkmgjhfjhcdmaaGreatDoor.Mx
open Go
def NG : Nat := 5
def GP (w : World) : Prop := (∃ e fr, w.heap[3]? = some (.cells (Lib.pow10Tab.map fun z => Value.int .u64 z).toArray e fr)) ∧
  (∃ t p e fr, w.heap[0]? = some (.cells #[.iface t p] e fr)) ∧ (∃ t p e fr, w.heap[1]? = some (.cells #[.iface t p] e fr)) ∧ ∃ m, w.cell? ⟨4, 0, none⟩ = some (.int .i64 m)
theorem GP_mono {w w' : World} (h : ∀ b, b < NG → w'.heap[b]? = w.heap[b]?) (g : GP w) : GP w' := by
  obtain ⟨⟨e, fr, h3⟩, ⟨t, p, e0, f0, h0⟩, ⟨t1, p1, e1, f1, h1⟩, m, hm⟩ := g
  refine ⟨⟨e, fr, (h 3 (by decide)).trans h3⟩, ⟨t, p, e0, f0, (h 0 (by decide)).trans h0⟩, ⟨t1, p1, e1, f1, (h 1 (by decide)).trans h1⟩, m, ?_⟩
  have := h 4 (by decide)
  simp only [World.cell?, this]
  exact hm
end Go.Proofs.YtkkmgjhfjhcdmaaGreatDoor.Mx

namespace Go.Proofs.YtkkmgjhfjhcdmaaGreatDoor.Mx
open Go Go.RowKit

def Thawed (cur : Array Value) (fr : Nat × Nat) : Prop := ∀ o, o < cur.size → ¬ (fr.1 ≤ o ∧ o < fr.2)

def Births (ents : Array MapEntry) (clock : Nat) : Prop := (∀ (i : Nat) (e : MapEntry), ents[i]? = some e → e.born < clock) ∧ ∀ (i j : Nat) (e f : MapEntry), ents[i]? = some e → ents[j]? = some f → e.born = f.born → i = j
inductive Rep (w : World) (ok : Nat → Prop) : Value → AV → Prop
  | no (v : Value) : Rep w ok v .no
  | sc (v : Value) : plain v = true → Rep w ok v (.sc v)
  | er (t : TypeId) (v : Value) : Rep w ok (.iface t v) .er
  | nil (o : Bool) (z : Nat) : Rep w ok (.slice none 0 0) (.sl o z [])
  | emp (o : Bool) (z : Nat) (A : Addr) (cap : Nat) : Rep w ok (.slice (some A) 0 cap) (.sl o z [])
  | sl (o : Bool) (z b off cap : Nat) (rows : List Row) (vs : Nat → Nat → Value) : ok b → rows.length ≤ cap → (∀ (i : Nat) (row : Row), rows[i]? = some row → row.length = z) →
      (∀ (i : Nat) (row : Row) (j : Nat) (x : AV), rows[i]? = some row → row[j]? = some x → w.cell? ⟨b, off + (i * z + j), none⟩ = some (vs i j) ∧ (vs i j).oneCell' = true) →
      (∀ (i : Nat) (row : Row) (j : Nat) (x : AV), rows[i]? = some row → row[j]? = some x → Rep w ok (vs i j) x) → Rep w ok (.slice (some ⟨b, off, none⟩) rows.length cap) (.sl o z rows)
  | pb (o : Bool) (b off : Nat) (cs : Row) (vs : Nat → Value) : ok b → (∀ (j : Nat) (x : AV), cs[j]? = some x → w.cell? ⟨b, off + j, none⟩ = some (vs j) ∧ (vs j).oneCell' = true) →
      (∀ (j : Nat) (x : AV), cs[j]? = some x → Rep w ok (vs j) x) → Rep w ok (.pointer (some ⟨b, off, none⟩)) (.pb o cs)
  | mc (r : Nat) (ents : Array MapEntry) (clock : Nat) (es : List (Value × Value)) : ok r → w.heap[r]? = some (.map ents clock) → ents.toList.map (fun e => (e.key, e.val)) = es → Births ents clock → Rep w ok (.map (some r)) (.mc es)

theorem Rep.mono {w w' : World} {ok ok' : Nat → Prop} (h : ∀ b, ok b → ok' b ∧ w'.heap[b]? = w.heap[b]?) {v : Value} {x : AV} (r : Rep w ok v x) : Rep w' ok' v x := by
  induction r with
  | no v => exact .no v
  | sc v hp => exact .sc v hp
  | er t v => exact .er t v
  | nil o z => exact .nil o z
  | emp o z A cap => exact .emp o z A cap
  | sl o z b off cap rows vs hb hc hl hcell _ ih =>
    exact .sl o z b off cap rows vs (h b hb).1 hc hl (fun i row j x hi hj => ⟨(World.cell?_of_block (a := ⟨b, off + (i * z + j), none⟩) (h b hb).2).trans (hcell i row j x hi hj).1, (hcell i row j x hi hj).2⟩) ih
  | pb o b off cs vs hb hcell _ ih =>
    exact .pb o b off cs vs (h b hb).1 (fun j x hj => ⟨(World.cell?_of_block (a := ⟨b, off + j, none⟩) (h b hb).2).trans (hcell j x hj).1, (hcell j x hj).2⟩) ih
  | mc r ents clock es hb hh he hB => exact .mc r ents clock es (h r hb).1 ((h r hb).2.trans hh) he hB
theorem Rep.flag {w : World} {ok : Nat → Prop} {v : Value} {o o' : Bool} {z : Nat} {rows : List Row} (r : Rep w ok v (.sl o z rows)) : Rep w ok v (.sl o' z rows) := by
  cases r with
  | nil => exact .nil _ _
  | emp => exact .emp _ _ _ _
  | sl _ _ b off cap _ vs h1 h2 h3 h4 h5 => exact .sl o' z b off cap rows vs h1 h2 h3 h4 h5
theorem Rep.rdC {w : World} {ok : Nat → Prop} {v : Value} {x : AV} (r : Rep w ok v x) : Rep w ok v (Mx.rdC x) := by
  cases x <;> first | exact r | exact r.flag

inductive Own (w : World) (ok : Nat → Prop) : (Nat → Prop) → Value → AV → Prop
  | rd (F : Nat → Prop) (v : Value) (x : AV) : (∀ z r, x ≠ .sl true z r) → (∀ cs, x ≠ .pb true cs) → Rep w ok v x → Own w ok F v x
  | nil (F : Nat → Prop) (z : Nat) : Own w ok F (.slice none 0 0) (.sl true z [])
  | emp (F : Nat → Prop) (z b off : Nat) : Own w ok F (.slice (some ⟨b, off, none⟩) 0 0) (.sl true z [])
  | sl (F : Nat → Prop) (z b off cap : Nat) (rows : List Row) (cur : Array Value) (e : TypeId) (fr : Nat × Nat) (Fs : Nat → Nat → Nat → Prop) :
      F b → w.heap[b]? = some (.cells cur e fr) → Thawed cur fr → rows.length ≤ cap → off + cap * z ≤ cur.size → cap ≤ maxLen →
      (∀ i j x, Fs i j x → F x ∧ x ≠ b) → (∀ i j i' j' x, Fs i j x → Fs i' j' x → i = i' ∧ j = j') → (∀ (i : Nat) (row : Row), rows[i]? = some row → row.length = z) →
      (∀ (i : Nat) (row : Row) (j : Nat) (x : AV), rows[i]? = some row → row[j]? = some x → (cur.getD (off + (i * z + j)) undef).oneCell' = true) →
      (∀ (i : Nat) (row : Row) (j : Nat) (x : AV), rows[i]? = some row → row[j]? = some x → Own w ok (Fs i j) (cur.getD (off + (i * z + j)) undef) x) →
      Own w ok F (.slice (some ⟨b, off, none⟩) rows.length cap) (.sl true z rows)
  | pb (F : Nat → Prop) (b : Nat) (cs : Row) (cur : Array Value) (e : TypeId) (fr : Nat × Nat) (Fs : Nat → Nat → Prop) :
      F b → w.heap[b]? = some (.cells cur e fr) → Thawed cur fr → cs.length ≤ cur.size →
      (∀ j x, Fs j x → F x ∧ x ≠ b) → (∀ j j' x, Fs j x → Fs j' x → j = j') →
      (∀ (j : Nat) (x : AV), cs[j]? = some x → (cur.getD j undef).oneCell' = true) → (∀ (j : Nat) (x : AV), cs[j]? = some x → Own w ok (Fs j) (cur.getD j undef) x) →
      Own w ok F (.pointer (some ⟨b, 0, none⟩)) (.pb true cs)
theorem Own.mono {w w' : World} {ok ok' : Nat → Prop} (h : ∀ b, ok b → ok' b ∧ w'.heap[b]? = w.heap[b]?) {F : Nat → Prop} {v : Value} {x : AV} (r : Own w ok F v x) :
    ∀ F' : Nat → Prop, (∀ b, F b → F' b ∧ w'.heap[b]? = w.heap[b]?) → Own w' ok' F' v x := by
  induction r with
  | rd F v x h1 h2 hr => exact fun F' _ => .rd F' v x h1 h2 (hr.mono h)
  | nil F z => exact fun F' _ => .nil F' z
  | emp F z b off => exact fun F' _ => .emp F' z b off
  | sl F z b off cap rows cur e fr Fs hb hh ht hc hsz hm hin hdj hl h1 _ ih =>
    exact fun F' hF => .sl F' z b off cap rows cur e fr Fs (hF b hb).1 ((hF b hb).2.trans hh) ht hc hsz hm (fun i j x hx => ⟨(hF x (hin i j x hx).1).1, (hin i j x hx).2⟩) hdj hl h1
      (fun i row j x hi hj => ih i row j x hi hj (Fs i j) fun c hc => ⟨hc, (hF c (hin i j c hc).1).2⟩)
  | pb F b cs cur e fr Fs hb hh ht hsz hin hdj h1 _ ih =>
    exact fun F' hF => .pb F' b cs cur e fr Fs (hF b hb).1 ((hF b hb).2.trans hh) ht hsz (fun j x hx => ⟨(hF x (hin j x hx).1).1, (hin j x hx).2⟩) hdj h1
      (fun j x hj => ih j x hj (Fs j) fun c hc => ⟨hc, (hF c (hin j c hc).1).2⟩)
theorem getD_some {α : Type} {a : Array α} {i : Nat} {d : α} (h : i < a.size) : a[i]? = some (a.getD i d) := by simp [h]
theorem cell_some {w : World} {b o : Nat} {cur : Array Value} {e : TypeId} {fr : Nat × Nat} (h : w.heap[b]? = some (.cells cur e fr)) (ho : o < cur.size) : w.cell? ⟨b, o, none⟩ = some (cur.getD o undef) := by
  simp [World.cell?, h, ho]
theorem in_row {i j n z cap off sz : Nat} (hi : i < n) (hj : j < z) (hn : n ≤ cap) (hs : off + cap * z ≤ sz) : off + (i * z + j) < sz := by
  have h1 : (i + 1) * z ≤ cap * z := Nat.mul_le_mul_right _ (by omega)
  rw [Nat.add_mul] at h1
  omega
theorem idx_lt {α : Type} {l : List α} {i : Nat} {x : α} (h : l[i]? = some x) : i < l.length := (List.getElem?_eq_some_iff.1 h).1
theorem Own.rep {w : World} {ok ok' : Nat → Prop} (h : ∀ b, ok b → ok' b) {F : Nat → Prop} {v : Value} {x : AV} (r : Own w ok F v x) : (∀ b, F b → ok' b) → Rep w ok' v x := by
  induction r with
  | rd F v x h1 h2 hr => exact fun _ => hr.mono fun b hb => ⟨h b hb, rfl⟩
  | nil F z => exact fun _ => .nil _ _
  | emp F z b off => exact fun _ => .emp _ _ _ _
  | sl F z b off cap rows cur e fr Fs hb hh ht hc hsz hm hin hdj hl h1 _ ih =>
    intro hF
    refine .sl true z b off cap rows (fun i j => cur.getD (off + (i * z + j)) undef) (hF b hb) hc hl (fun i row j x hi hj => ⟨cell_some hh ?_, h1 i row j x hi hj⟩) (fun i row j x hi hj => ih i row j x hi hj fun c hc => hF c (hin i j c hc).1)
    exact in_row (idx_lt hi) (by rw [← hl i row hi]; exact idx_lt hj) hc hsz
  | pb F b cs cur e fr Fs hb hh ht hsz hin hdj h1 _ ih =>
    intro hF
    refine .pb true b 0 cs (fun j => cur.getD j undef) (hF b hb) (fun j x hj => ⟨?_, h1 j x hj⟩) (fun j x hj => ih j x hj fun c hc => hF c (hin j c hc).1)
    rw [Nat.zero_add]
    exact cell_some hh (Nat.lt_of_lt_of_le (idx_lt hj) hsz)
theorem isSc_ne {x : AV} (h : isSc x = true) : (∀ z r, x ≠ .sl true z r) ∧ (∀ cs, x ≠ .pb true cs) := by
  cases x <;> simp [isSc] at h <;> exact ⟨fun _ _ => by simp, fun _ => by simp⟩
theorem isSc_rep {w w' : World} {ok ok' : Nat → Prop} {v : Value} {x : AV} (h : isSc x = true) (r : Rep w ok v x) : Rep w' ok' v x := by
  cases r <;> simp [isSc] at h
  · exact .no _
  · exact .sc _ ‹_›
  · exact .er _ _
theorem isSc_own {w w' : World} {ok ok' : Nat → Prop} {F F' : Nat → Prop} {v : Value} {x : AV} (h : isSc x = true) (r : Own w ok F v x) : Own w' ok' F' v x := by
  cases r with
  | rd _ _ _ h1 h2 hr => exact .rd _ _ _ h1 h2 (isSc_rep h hr)
  | _ => simp [isSc] at h
theorem own_of_rep {w : World} {ok F : Nat → Prop} {v : Value} {x : AV} (h : isSc x = true) (r : Rep w ok v x) : Own w ok F v x := .rd _ _ _ (isSc_ne h).1 (isSc_ne h).2 r

abbrev Gs := Nat → Option (Value × Nat)
def Sub (v0 : Value) (z lo n : Nat) (v : Value) : Prop :=
  match v0 with
  | .slice none 0 0 => v = .slice none 0 0 ∧ lo = 0 ∧ n = 0
  | .slice (some ⟨b, off, none⟩) len cap => ∃ o' cap', v = .slice (some ⟨b, o', none⟩) n cap' ∧ lo + n ≤ len ∧ n ≤ cap' ∧ ((o' = off + lo * z ∧ lo + cap' ≤ cap) ∨ cap' = 0)
  | _ => False
def PtAt (v0 : Value) (z i j : Nat) (v : Value) : Prop :=
  match v0 with
  | .slice (some ⟨b, off, none⟩) len _ => i < len ∧ v = .pointer (some ⟨b, off + (i * z + j), none⟩)
  | .pointer (some ⟨b, off, none⟩) => i = 0 ∧ v = .pointer (some ⟨b, off + j, none⟩)
  | _ => False
def RepC (w : World) (ok : Nat → Prop) (γ : Gs) (v : Value) : AV → Prop
  | .ow m lo n => ∃ v0 z, γ m = some (v0, z) ∧ Sub v0 z lo n v
  | .pt m i j => ∃ v0 z, γ m = some (v0, z) ∧ PtAt v0 z i j v
  | .mv m => ∃ r z, v = .map (some r) ∧ γ m = some (v, z)
  | .ag _ | .tu _ => False
  | x => Rep w ok v x
def RepL (w : World) (ok : Nat → Prop) (γ : Gs) (vs : List Value) (cs : Row) : Prop :=
  vs.length = cs.length ∧ ∀ (j : Nat) (v : Value) (x : AV), vs[j]? = some v → cs[j]? = some x → RepC w ok γ v x ∧ v.oneCell' = true
def RepA (w : World) (ok : Nat → Prop) (γ : Gs) (v : Value) : AV → Prop
  | .ag cs => ∃ vs : List Value, v = .agg vs.toArray ∧ RepL w ok γ vs cs
  | x => RepC w ok γ v x
def RepV (w : World) (ok : Nat → Prop) (γ : Gs) (v : Value) : AV → Prop
  | .tu xs => ∃ vs : List Value, v = .tuple vs.toArray ∧ vs.length = xs.length ∧ ∀ (j : Nat) (v : Value) (x : AV), vs[j]? = some v → xs[j]? = some x → RepA w ok γ v x
  | x => RepA w ok γ v x
section
variable {w w' : World} {ok ok' : Nat → Prop} {γ γ' : Gs}
theorem RepC.mono (h : ∀ b, ok b → ok' b ∧ w'.heap[b]? = w.heap[b]?) (hγ : ∀ m g, γ m = some g → γ' m = some g) {v : Value} {x : AV} (r : RepC w ok γ v x) : RepC w' ok' γ' v x := by
  cases x with
  | ow m lo n => obtain ⟨v0, z, hg, ho⟩ := r; exact ⟨v0, z, hγ _ _ hg, ho⟩
  | pt m i j => obtain ⟨v0, z, hg, ho⟩ := r; exact ⟨v0, z, hγ _ _ hg, ho⟩
  | mv m => obtain ⟨q, z, hg, ho⟩ := r; exact ⟨q, z, hg, hγ _ _ ho⟩
  | ag cs => exact r
  | tu cs => exact r
  | _ => exact Rep.mono h r
theorem RepL.mono (h : ∀ b, ok b → ok' b ∧ w'.heap[b]? = w.heap[b]?) (hγ : ∀ m g, γ m = some g → γ' m = some g) {vs : List Value} {cs : Row} (r : RepL w ok γ vs cs) : RepL w' ok' γ' vs cs :=
  ⟨r.1, fun j v x hv hx => ⟨(r.2 j v x hv hx).1.mono h hγ, (r.2 j v x hv hx).2⟩⟩
theorem RepA.mono (h : ∀ b, ok b → ok' b ∧ w'.heap[b]? = w.heap[b]?) (hγ : ∀ m g, γ m = some g → γ' m = some g) {v : Value} {x : AV} (r : RepA w ok γ v x) : RepA w' ok' γ' v x := by
  cases x with
  | ag cs => obtain ⟨vs, hv, hr⟩ := r; exact ⟨vs, hv, hr.mono h hγ⟩
  | _ => simp only [RepA] at r ⊢; exact RepC.mono h hγ r
theorem RepV.mono (h : ∀ b, ok b → ok' b ∧ w'.heap[b]? = w.heap[b]?) (hγ : ∀ m g, γ m = some g → γ' m = some g) {v : Value} {x : AV} (r : RepV w ok γ v x) : RepV w' ok' γ' v x := by
  cases x with
  | tu xs => obtain ⟨vs, hv, hl, hr⟩ := r; exact ⟨vs, hv, hl, fun j v x h1 h2 => (hr j v x h1 h2).mono h hγ⟩
  | _ => simp only [RepV] at r ⊢; exact RepA.mono h hγ r
end
def live (sv : Sv) (m : Nat) : Prop := (sv m).isSome = true
abbrev Fp := Nat → Nat → Prop
def BlkOk (w : World) (ok : Nat → Prop) (γ : Gs) (φ : Fp) (sv : Sv) (m : Nat) : Blk → Prop
  | .bx cs => ∃ b cur e fr, γ m = some (.pointer (some ⟨b, 0, none⟩), 0) ∧ φ m b ∧ w.heap[b]? = some (.cells cur e fr) ∧ Thawed cur fr ∧ cs.length ≤ cur.size ∧
      ∀ j x, cs[j]? = some x → RepC w ok γ (cur.getD j undef) x ∧ (cur.getD j undef).oneCell' = true
  | .ar z _ rows => ∃ v0, γ m = some (v0, z) ∧ Own w ok (φ m) v0 (.sl true z rows)
  | .fz z rows => ∃ v0, γ m = some (v0, z) ∧ Rep w ok v0 (.sl false z rows)
  | .sb p i j ver => (∃ g, γ m = some g) ∧ (∃ g, γ p = some g) ∧ ∀ zp v rp, sv p = some (.ar zp v rp) → ver ≤ v ∧ (ver = v → ∀ z r, nest rp i j = some (z, r) →
      ∃ v0 b off len cap, γ m = some (v0, z) ∧ γ p = some (.slice (some ⟨b, off, none⟩) len cap, zp) ∧ w.cell? ⟨b, off + (i * zp + j), none⟩ = some v0)
  | .mp _ es => ∃ r ents clock, γ m = some (.map (some r), 0) ∧ φ m r ∧ w.heap[r]? = some (.map ents clock) ∧ ents.toList.map (fun e => (e.key, e.val)) = es ∧ Births ents clock
  | .it p ver seen => (∃ g, γ p = some g) ∧ ∃ b born last, γ m = some (.pointer (some ⟨b, 0, none⟩), 0) ∧ φ m b ∧ ∀ v es, sv p = some (.mp v es) → ver ≤ v ∧ (ver = v → ∃ r ents clock, γ p = some (.map (some r), 0) ∧ w.heap[r]? = some (.map ents clock) ∧
      w.heap[b]? = some (.mapIter (some r) clock born last) ∧ last ≤ clock ∧ ∀ (i : Nat) (e : MapEntry), ents[i]? = some e → (born.contains e.born = seen.any (fun k => match k, e.key with | .string a, .string c => eqs a c | _, _ => false)))
  | .im rem last => ∃ b r ents clock born, γ m = some (.pointer (some ⟨b, 0, none⟩), 0) ∧ φ m b ∧ w.heap[b]? = some (.mapIter (some r) clock born clock) ∧ ok r ∧ w.heap[r]? = some (.map ents clock) ∧ Births ents clock ∧
      ((ents.toList.filter fun e => !born.contains e.born).map fun e => (e.key, e.val)) = rem ∧ ∀ kv, last = some kv → ∃ e, e ∈ ents.toList ∧ (e.key, e.val) = kv ∧ born.back? = some e.born

structure Fr (w0 : World) (M : Nat → Prop) (w : World) : Prop where
  os : w.os = w0.os
  tape : w.tape = w0.tape
  output : w.output = w0.output
  size : w0.heap.size ≤ w.heap.size
  block : ∀ k, k < w0.heap.size → ¬ M k → w.heap[k]? = w0.heap[k]?
def okOf (w0 : World) (M R : Nat → Prop) (φ : Fp) (sv : Sv) (w : World) (b : Nat) : Prop := b < w.heap.size ∧ (R b ∨ w0.heap.size ≤ b ∨ M b) ∧ ∀ m, live sv m → ¬ φ m b
def Kp (w w' : World) : Prop := ∀ (k : Nat) (cur : Array Value) (e : TypeId) (fr : Nat × Nat), w.heap[k]? = some (.cells cur e fr) → ∃ cur', w'.heap[k]? = some (.cells cur' e fr) ∧ cur'.size = cur.size
theorem Kp.refl (w : World) : Kp w w := fun _ cur _ _ h => ⟨cur, h, rfl⟩
theorem Kp.trans {a b c : World} (h : Kp a b) (k : Kp b c) : Kp a c := fun n cur e fr hn => by
  obtain ⟨c1, h1, h2⟩ := h n cur e fr hn
  obtain ⟨c2, h3, h4⟩ := k n c1 e fr h1
  exact ⟨c2, h3, h4.trans h2⟩
theorem Kp.old {w w' : World} (h : ∀ k, k < w.heap.size → w'.heap[k]? = w.heap[k]?) : Kp w w' := fun n cur e fr hn => ⟨cur, (h n (Array.getElem?_eq_some_iff.1 hn).1).trans hn, rfl⟩
theorem Kp.cell {w w' : World} {b : Nat} {cur cur' : Array Value} {e : TypeId} {fr : Nat × Nat} (h : ∀ k, k ≠ b → w'.heap[k]? = w.heap[k]?) (hb : w.heap[b]? = some (.cells cur e fr)) (hb' : w'.heap[b]? = some (.cells cur' e fr)) (hs : cur'.size = cur.size) : Kp w w' := fun n c e' fr' hn => by
  by_cases hnb : n = b
  · subst hnb
    rw [hb] at hn
    cases hn
    exact ⟨cur', hb', hs⟩
  · exact ⟨c, (h n hnb).trans hn, rfl⟩
structure Glb (w0 : World) (M R : Nat → Prop) : Prop where
  inn : ∀ b, b < NG → R b ∧ ¬ M b ∧ b < w0.heap.size
  gp : GP w0
structure Sim (w0 : World) (M R : Nat → Prop) (γ : Gs) (φ : Fp) (tv : Tv) (sv : Sv) (a : Act) (w : World) : Prop where
  fr : Fr w0 M w
  cl : Kp w0 w
  df : a.defers = [] ∧ Glb w0 M R
  dj : ∀ m n, live sv m → live sv n → m ≠ n → ∀ b, φ m b → ¬ φ n b
  nw : ∀ m b, live sv m → φ m b → b < w.heap.size ∧ (w0.heap.size ≤ b ∨ M b)
  tm : ∀ t, RepV w (okOf w0 M R φ sv w) γ (a.tmps.getD t undef) (tv t)
  bk : ∀ m B, sv m = some B → BlkOk w (okOf w0 M R φ sv w) γ φ sv m B
def updT (tv : Tv) (d : Option Tmp) (x : AV) : Tv := fun t => if d = some t then x else tv t
def updS (sv : Sv) (m : Nat) (B : Option Blk) : Sv := fun n => if m = n then B else sv n
def syncF : List (Nat × Option Blk) → Sv → Sv
  | [], s => s
  | (m, b) :: r, s => syncF r (updS s m b)
theorem sget_srem (s : Sto) (m n : Nat) : sget (srem s m) n = if m = n then none else sget s n := by
  induction s with
  | nil => simp [srem, sget]
  | cons p s ih =>
    obtain ⟨k, B⟩ := p
    simp only [srem, sget, cond_eq_ite, beq_iff_eq]
    by_cases h : k = m
    · subst h
      simp only [if_true, ih]
      by_cases h2 : k = n <;> simp [h2]
    · simp only [h, if_false, sget, cond_eq_ite, beq_iff_eq, ih]
      by_cases h2 : k = n
      · subst h2; simp [Ne.symm h]
      · simp [h2]
theorem sget_supd (s : Sto) (m : Nat) (B : Option Blk) : sget (supd s m B) = updS (sget s) m B := by
  funext n
  cases B with
  | none => simp [supd, sget_srem, updS]
  | some B => simp only [supd, sget, sget_srem, updS, cond_eq_ite, beq_iff_eq]; by_cases h : m = n <;> simp [h]
theorem sget_sync (u : List (Nat × Option Blk)) (s : Sto) : sget (sync u s) = syncF u (sget s) := by
  induction u generalizing s with
  | nil => rfl
  | cons p u ih => obtain ⟨m, B⟩ := p; simp only [sync, syncF, ih, sget_supd]
theorem put_tv (s : St) (d : Option Tmp) (x : Dl) : (s.put d x).tv = updT s.tv d x.val := by
  funext t
  cases d with
  | none => simp [St.put, St.tv, updT]
  | some d => simp [St.put, St.tv, updT, tget, cond_eq_ite, beq_iff_eq]
theorem put_sv (s : St) (d : Option Tmp) (x : Dl) : (s.put d x).sv = syncF x.upd s.sv := by
  cases d <;> simp [St.put, St.sv, sget_sync]
theorem put_getD (a : Act) (d : Option Tmp) (v : Value) (hd : ∀ t, d = some t → t < a.tmps.size) (t : Nat) :
    (a.put d v).tmps.getD t undef = if d = some t then v else a.tmps.getD t undef := by
  cases d with
  | none => simp [Act.put]
  | some d =>
    have hd := hd d rfl
    by_cases h : d = t
    · subst h; simp [Act.put, hd]
    · have h2 : ¬ some d = some t := by simpa using h
      simp [Act.put, h2, Array.getElem?_setIfInBounds_ne h]
section
variable {w0 : World} {M R : Nat → Prop} {γ : Gs} {φ : Fp} {tv : Tv} {sv : Sv} {a : Act} {w : World}
theorem Sim.put (h : Sim w0 M R γ φ tv sv a w) {d : Option Tmp} (hd : ∀ t, d = some t → t < a.tmps.size) {v : Value} {x : AV} (hv : RepV w (okOf w0 M R φ sv w) γ v x) :
    Sim w0 M R γ φ (updT tv d x) sv (a.put d v) w := by
  refine ⟨h.fr, h.cl, ?_, h.dj, h.nw, ?_, h.bk⟩
  · cases d <;> exact h.df
  · intro t
    rw [put_getD a d v hd]
    unfold updT
    split
    · exact hv
    · exact h.tm t
theorem BlkOk.mono {ok ok' : Nat → Prop} {w' : World} {γ' : Gs} {φ' : Fp} {sv' : Sv} (h : ∀ b, ok b → ok' b ∧ w'.heap[b]? = w.heap[b]?) (hγ : ∀ m g, γ m = some g → γ' m = some g) {m : Nat} {B : Blk}
    (hφ : ∀ b, φ m b → φ' m b ∧ w'.heap[b]? = w.heap[b]?)
    (hp : ∀ p i j v zp v' rp, B = .sb p i j v → sv' p = some (.ar zp v' rp) → sv p = some (.ar zp v' rp) ∧ ∀ b off len cap q, nest rp i j = some q → γ p = some (.slice (some ⟨b, off, none⟩) len cap, zp) → w'.heap[b]? = w.heap[b]?)
    (hi : ∀ p v seen v' es r, B = .it p v seen → sv' p = some (.mp v' es) → sv p = some (.mp v' es) ∧ (γ p = some (.map (some r), 0) → w'.heap[r]? = w.heap[r]?))
    (r : BlkOk w ok γ φ sv m B) : BlkOk w' ok' γ' φ' sv' m B := by
  cases B with
  | bx cs =>
    obtain ⟨b, cur, e, fr, h1, h1b, h2, h3, h4, h5⟩ := r
    exact ⟨b, cur, e, fr, hγ _ _ h1, (hφ b h1b).1, (hφ b h1b).2.trans h2, h3, h4, fun j x hj => ⟨(h5 j x hj).1.mono h hγ, (h5 j x hj).2⟩⟩
  | ar z v rows => obtain ⟨v0, h1, h2⟩ := r; exact ⟨v0, hγ _ _ h1, h2.mono h _ hφ⟩
  | fz z rows => obtain ⟨v0, h1, h2⟩ := r; exact ⟨v0, hγ _ _ h1, h2.mono h⟩
  | sb p i j v =>
    refine ⟨r.1.imp fun g hg => hγ _ _ hg, r.2.1.imp fun g hg => hγ _ _ hg, fun zp v' rp hs => ?_⟩
    obtain ⟨hs', hb⟩ := hp p i j v zp v' rp rfl hs
    obtain ⟨hle, hr⟩ := r.2.2 zp v' rp hs'
    refine ⟨hle, fun he z q hn => ?_⟩
    obtain ⟨v0, b, off, len, cap, h1, h2, h3⟩ := hr he z q hn
    exact ⟨v0, b, off, len, cap, hγ _ _ h1, hγ _ _ h2, (World.cell?_of_block (a := ⟨b, off + (i * zp + j), none⟩) (hb b off len cap _ hn h2)).trans h3⟩
  | mp v es =>
    obtain ⟨b, ents, clock, h1, h2, h3, h4, h5⟩ := r
    exact ⟨b, ents, clock, hγ _ _ h1, (hφ b h2).1, (hφ b h2).2.trans h3, h4, h5⟩
  | it p v seen =>
    obtain ⟨h0, b, born, last, h1, h2, h3⟩ := r
    refine ⟨h0.imp fun g hg => hγ _ _ hg, b, born, last, hγ _ _ h1, (hφ b h2).1, fun v' es hs => ?_⟩
    obtain ⟨hs', _⟩ := hi p v seen v' es 0 rfl hs
    obtain ⟨hle, hr⟩ := h3 v' es hs'
    refine ⟨hle, fun he => ?_⟩
    obtain ⟨q, ents, clock, k1, k2, k3, k4⟩ := hr he
    exact ⟨q, ents, clock, hγ _ _ k1, ((hi p v seen v' es q rfl hs).2 k1).trans k2, (hφ b h2).2.trans k3, k4⟩
  | im rem last =>
    obtain ⟨b, q, ents, clock, born, h1, h2, h3, h4, h5, h6⟩ := r
    exact ⟨b, q, ents, clock, born, hγ _ _ h1, (hφ b h2).1, (hφ b h2).2.trans h3, (h q h4).1, (h q h4).2.trans h5, h6⟩
theorem Own.head {ok F : Nat → Prop} {v : Value} {z : Nat} {rows : List Row} (h : Own w ok F v (.sl true z rows)) : (rows = [] ∧ (v = .slice none 0 0 ∨ ∃ b off, v = .slice (some ⟨b, off, none⟩) 0 0)) ∨ ∃ b off cap cur e fr, v = .slice (some ⟨b, off, none⟩) rows.length cap ∧ F b ∧ w.heap[b]? = some (.cells cur e fr) ∧ off + cap * z ≤ cur.size ∧ rows.length ≤ cap := by
  cases h with
  | rd _ _ _ h1 => exact (h1 _ _ rfl).elim
  | nil => exact .inl ⟨rfl, .inl rfl⟩
  | emp => exact .inl ⟨rfl, .inr ⟨_, _, rfl⟩⟩
  | sl _ _ b off cap _ cur e fr Fs h1 h2 h3 h4 h5 => exact .inr ⟨b, off, cap, cur, e, fr, rfl, h1, h2, h5, h4⟩
theorem Sim.step (h : Sim w0 M R γ φ tv sv a w) {γ' : Gs} {φ' : Fp} {sv' : Sv} {w' : World} (K : Nat → Prop)
    (hγ : ∀ m g, γ m = some g → γ' m = some g) (keep : ∀ m, ¬ K m → sv' m = sv m ∧ φ' m = φ m) (hfr : Fr w0 M w') (hcl : Kp w w')
    (hsz : w.heap.size ≤ w'.heap.size) (hw : ∀ b, b < w.heap.size → (∀ m, K m → live sv m → ¬ φ m b) → w'.heap[b]? = w.heap[b]?)
    (hφ : ∀ m b, K m → live sv' m → φ' m b → b < w'.heap.size ∧ (w.heap.size ≤ b ∨ ∃ n, K n ∧ live sv n ∧ φ n b))
    (hdj : ∀ m n, K m → K n → live sv' m → live sv' n → m ≠ n → ∀ b, φ' m b → ¬ φ' n b)
    (hal : ∀ k p i j v, ¬ K k → sv k = some (.sb p i j v) → K p → BlkOk w' (okOf w0 M R φ' sv' w') γ' φ' sv' k (.sb p i j v))
    (hit : ∀ k p v seen, ¬ K k → sv k = some (.it p v seen) → K p → BlkOk w' (okOf w0 M R φ' sv' w') γ' φ' sv' k (.it p v seen))
    (hbk : (∀ b, okOf w0 M R φ sv w b → okOf w0 M R φ' sv' w' b ∧ w'.heap[b]? = w.heap[b]?) → ∀ m B, K m → sv' m = some B → BlkOk w' (okOf w0 M R φ' sv' w') γ' φ' sv' m B) :
    Sim w0 M R γ' φ' tv sv' a w' ∧ ∀ b, okOf w0 M R φ sv w b → okOf w0 M R φ' sv' w' b ∧ w'.heap[b]? = w.heap[b]? := by
  classical
  have lv : ∀ m, ¬ K m → live sv' m → live sv m := fun m hm hl => by unfold live at *; rw [(keep m hm).1] at hl; exact hl
  have ap : ∀ m, ¬ K m → live sv m → ∀ b, φ m b → w'.heap[b]? = w.heap[b]? := fun m hm hl b hb =>
    hw b (h.nw m b hl hb).1 fun n hn hln hbn => h.dj m n hl hln (fun e => hm (e ▸ hn)) b hb hbn
  have hok : ∀ b, okOf w0 M R φ sv w b → okOf w0 M R φ' sv' w' b ∧ w'.heap[b]? = w.heap[b]? := by
    intro b ⟨h1, h2, h3⟩
    refine ⟨⟨by omega, h2, fun m hm hb => ?_⟩, hw b h1 fun m _ hl => h3 m hl⟩
    by_cases hK : K m
    · rcases (hφ m b hK hm hb).2 with h4 | ⟨n, hn, hln, hbn⟩
      · omega
      · exact h3 n hln hbn
    · rw [(keep m hK).2] at hb; exact h3 m (lv m hK hm) hb
  refine ⟨⟨hfr, h.cl.trans hcl, h.df, ?_, ?_, fun t => (h.tm t).mono hok hγ, ?_⟩, hok⟩
  · intro m n hm hn hne b hb hb'
    by_cases hK : K m <;> by_cases hL : K n
    · exact hdj m n hK hL hm hn hne b hb hb'
    · rw [(keep n hL).2] at hb'
      have hln := lv n hL hn
      rcases (hφ m b hK hm hb).2 with h4 | ⟨k, hk, hlk, hbk⟩
      · have := (h.nw n b hln hb').1; omega
      · exact h.dj k n hlk hln (fun e => hL (e ▸ hk)) b hbk hb'
    · rw [(keep m hK).2] at hb
      have hlm := lv m hK hm
      rcases (hφ n b hL hn hb').2 with h4 | ⟨k, hk, hlk, hbk⟩
      · have := (h.nw m b hlm hb).1; omega
      · exact h.dj k m hlk hlm (fun e => hK (e ▸ hk)) b hbk hb
    · rw [(keep m hK).2] at hb; rw [(keep n hL).2] at hb'
      exact h.dj m n (lv m hK hm) (lv n hL hn) hne b hb hb'
  · intro m b hm hb
    by_cases hK : K m
    · obtain ⟨h1, h2⟩ := hφ m b hK hm hb
      refine ⟨h1, ?_⟩
      rcases h2 with h4 | ⟨k, hk, hlk, hbk⟩
      · exact .inl (Nat.le_trans h.fr.size h4)
      · exact (h.nw k b hlk hbk).2
    · rw [(keep m hK).2] at hb
      obtain ⟨h1, h2⟩ := h.nw m b (lv m hK hm) hb
      exact ⟨by omega, h2⟩
  · intro m B hB
    by_cases hK : K m
    · exact hbk hok m B hK hB
    · have hB' : sv m = some B := by rw [← (keep m hK).1]; exact hB
      have hlm : live sv m := by unfold live; rw [hB']; rfl
      cases B with
      | sb p i j v =>
        by_cases hP : K p
        · exact hal m p i j v hK hB' hP
        · refine (h.bk m _ hB').mono hok hγ (fun b hb => ⟨by rw [(keep m hK).2]; exact hb, ap m hK hlm b hb⟩) ?_ ?_
          · intro p' i' j' v' zp vp rp he hs
            cases he
            have hs' : sv p = some (.ar zp vp rp) := by rw [← (keep p hP).1]; exact hs
            refine ⟨hs', fun b off len cap q hn hg => ?_⟩
            have hlp : live sv p := by unfold live; rw [hs']; rfl
            obtain ⟨v0, hg0, ho⟩ := h.bk p _ hs'
            rw [hg] at hg0
            obtain ⟨rfl, _⟩ := Prod.mk.inj (Option.some.inj hg0)
            rcases ho.head with ⟨h1, _⟩ | ⟨b', off', cap', cur, e, fr, h1, h2, _⟩
            · subst h1; simp [nest] at hn
            · cases h1; exact ap p hP hlp b h2
          · intro _ _ _ _ _ _ he; cases he
      | it p v seen =>
        by_cases hP : K p
        · exact hit m p v seen hK hB' hP
        · refine (h.bk m _ hB').mono hok hγ (fun b hb => ⟨by rw [(keep m hK).2]; exact hb, ap m hK hlm b hb⟩) ?_ ?_
          · intro _ _ _ _ _ _ _ he; cases he
          · intro p' v' seen' v'' es r he hs
            cases he
            have hs' : sv p = some (.mp v'' es) := by rw [← (keep p hP).1]; exact hs
            refine ⟨hs', fun hg => ?_⟩
            have hlp : live sv p := by unfold live; rw [hs']; rfl
            obtain ⟨r', ents, clock, g1, g2, _⟩ := h.bk p _ hs'
            rw [hg] at g1
            cases g1
            exact ap p hP hlp r g2
      | _ =>
        refine (h.bk m _ hB').mono hok hγ (fun b hb => ⟨by rw [(keep m hK).2]; exact hb, ap m hK hlm b hb⟩) ?_ ?_
        · intro _ _ _ _ _ _ _ he; cases he
        · intro _ _ _ _ _ _ he; cases he
end
end Go.Proofs.YtkkmgjhfjhcdmaaGreatDoor.Mx

namespace Go.Proofs.YtkkmgjhfjhcdmaaGreatDoor.Mx
open Go Go.RowKit

def KindOk (P : Program) (t : TypeId) : TK → Prop
  | .one => ∃ d, P.underlying t = some d ∧ (∀ f, d ≠ .struct f) ∧ (∀ n e, d ≠ .array n e)
  | .str => P.underlying t = some .string
  | .bool => P.underlying t = some .bool
  | .int k => P.underlying t = some (.int k)
  | .slice e => P.underlying t = some (.slice e)
  | .struct fs => ∃ a : Array Field, P.underlying t = some (.struct a) ∧ (a.toList.map fun f => (f.offset, f.type)) = fs
  | .map k e => P.underlying t = some (.map k e)
  | .iface => ∃ ms, P.underlying t = some (.interface ms)
structure TyOk (P : Program) (t : TypeId) (ti : TI) : Prop where
  inf : ∃ i z, P.info? t = some i ∧ i.size = ti.size ∧ i.bytes = ti.bytes ∧ i.zero = some z ∧ z.cells.toList = ti.zero
  kd : KindOk P t ti.kind
  zl : ti.zero.length = ti.size
  sm : ti.size ≤ 60
  b1 : 1 ≤ ti.bytes
  fl : ∀ fs, ti.kind = .struct fs → ∀ q ∈ fs, ∃ i, P.info? q.2 = some i
  s1 : 1 ≤ ti.size
  zc : ∀ v ∈ ti.zero, v.oneCell' = true
  cz : ∀ (k z : Nat), ti.cz[k]? = some (some z) → ti.zero[k]? = some (.slice none 0 0)
  st : isStr ti.kind = false → ti.size = 1
  zs : isStr ti.kind = false → ∃ i z, P.info? t = some i ∧ i.zero = some z ∧ ti.zero = [z]
  cm : ti.cmp = true → P.stoodInHeld t = false ∧ P.eqGuardType P.depth t = false ∧ ∀ fs, P.underlying t = some (.struct fs) → ∀ f ∈ fs, f.name ≠ "_"
def TOk (P : Program) (T : Ty) : Prop := ∀ t ti, T t = some ti → TyOk P t ti

section
variable {P : Program} {w : World}
theorem sizeOf_run {t : TypeId} {ti : TI} (h : TyOk P t ti) : (sizeOf t).run P w = .ok ti.size w := by
  obtain ⟨i, z, h1, h2, _⟩ := h.inf
  simp [sizeOf, typeInfo, h1, h2]
theorem info_run {t : TypeId} {ti : TI} (h : TyOk P t ti) : ∃ i, (typeInfo t).run P w = .ok i w ∧ i.size = ti.size ∧ i.bytes = ti.bytes := by
  obtain ⟨i, z, h1, h2, h3, _⟩ := h.inf
  exact ⟨i, by simp [typeInfo, h1], h2, h3⟩
theorem zero_run {t : TypeId} {ti : TI} (h : TyOk P t ti) : ∃ z, (zeroValue t).run P w = .ok z w ∧ z.cells.toList = ti.zero := by
  obtain ⟨i, z, h1, h2, h3, h4, h5⟩ := h.inf
  exact ⟨z, by simp [zeroValue, typeInfo, h1, h4], h5⟩
theorem isAgg_run {t : TypeId} {ti : TI} (h : TyOk P t ti) : (isAgg t).run P w = .ok (isStr ti.kind) w := by
  have hk := h.kd
  revert hk
  cases ti.kind <;> simp only [KindOk, isStr]
  · rintro ⟨d, h1, h2, h3⟩
    simp only [isAgg, Sem.run_bind, run_underlying h1, Result.andThen_ok]
    cases d <;> first | rfl | exact (h2 _ rfl).elim | exact (h3 _ _ rfl).elim
  · intro h1; simp [isAgg, run_underlying h1]
  · intro h1; simp [isAgg, run_underlying h1]
  · intro h1; simp [isAgg, run_underlying h1]
  · intro h1; simp [isAgg, run_underlying h1]
  · rintro ⟨a, h1, _⟩; simp [isAgg, run_underlying h1]
  · intro h1; simp [isAgg, run_underlying h1]
  · rintro ⟨ms, h1⟩; simp [isAgg, run_underlying h1]
theorem elemOf_some {T : Ty} (hT : TOk P T) {t : TypeId} {te : TI} (h : elemOf T t = some te) : ∃ e, P.underlying t = some (.slice e) ∧ TyOk P e te := by
  unfold elemOf at h
  split at h
  · rename_i ti hti
    split at h
    · rename_i e hk
      have := (hT t ti hti).kd
      rw [hk] at this
      exact ⟨e, this, hT e te h⟩
    · cases h
  · cases h
theorem add_flat (b o k : Nat) : (⟨b, o, none⟩ : Addr).add k = ⟨b, o + k, none⟩ := by unfold Addr.add; split <;> simp_all

def CellsAt (w : World) (Q : Value → AV → Prop) (b o : Nat) (cs : Row) : Prop :=
  ∀ k x, cs[k]? = some x → ∃ v, w.cell? ⟨b, o + k, none⟩ = some v ∧ Q v x ∧ v.oneCell' = true
theorem CellsAt.drop {Q : Value → AV → Prop} {b o n : Nat} {cs : Row} (h : CellsAt w Q b o cs) : CellsAt w Q b (o + n) (cs.drop n) := by
  intro k x hk
  rw [List.getElem?_drop] at hk
  obtain ⟨v, h1, h2, h3⟩ := h (n + k) x hk
  exact ⟨v, by rw [Nat.add_assoc]; exact h1, h2, h3⟩
theorem takeN_some {n : Nat} {cs l : Row} (h : takeN n cs = some l) : n ≤ cs.length ∧ l = cs.take n := by
  induction n generalizing cs l with
  | zero => simp [takeN] at h; simp [h]
  | succ n ih =>
    cases cs with
    | nil => simp [takeN] at h
    | cons x r =>
      simp only [takeN] at h
      split at h
      · rename_i l' hl
        obtain ⟨h1, h2⟩ := ih hl
        simp at h
        subst h
        exact ⟨by simp; omega, by simp [h2]⟩
      · cases h
theorem part_some {ti : TI} {cs l : Row} (hs : isStr ti.kind = false → ti.size = 1) (h : part ti cs = some l) : ti.size ≤ cs.length ∧ l = cs.take ti.size := by
  unfold part at h
  cases hk : isStr ti.kind with
  | true => rw [hk] at h; exact takeN_some h
  | false =>
    rw [hk] at h
    simp only [cond_false] at h
    split at h
    · rw [hs hk]; simp at h; subst h; simp
    · cases h
theorem load_cells {t : TypeId} {ti : TI} (ht : TyOk P t ti) {b o : Nat} {Q : Value → AV → Prop} {l : Row} (hl : l.length = ti.size) (h : CellsAt w Q b o l) :
    ∃ vs : List Value, vs.length = l.length ∧ (∀ (j : Nat) (v : Value) (x : AV), vs[j]? = some v → l[j]? = some x → Q v x ∧ v.oneCell' = true) ∧
      (Instr.loadAt t (.pointer (some ⟨b, o, none⟩))).run P w = .ok (if isStr ti.kind = true then .agg vs.toArray else vs.getD 0 undef) w := by
  obtain ⟨f, hf⟩ : ∃ f : Nat → Value, ∀ k, k < l.length → w.cell? ⟨b, o + k, none⟩ = some (f k) ∧ (∀ x, l[k]? = some x → Q (f k) x) ∧ (f k).oneCell' = true := by
    refine ⟨fun k => if hk : k < l.length then (h k l[k] (List.getElem?_eq_getElem hk)).choose else undef, fun k hk => ?_⟩
    simp only [hk, dif_pos]
    have hc := (h k l[k] (List.getElem?_eq_getElem hk)).choose_spec
    exact ⟨hc.1, fun x hx => by rw [List.getElem?_eq_getElem hk] at hx; cases hx; exact hc.2.1, hc.2.2⟩
  refine ⟨(List.range l.length).map f, by simp, ?_, ?_⟩
  · intro j v x hv hx
    have hj := idx_lt hx
    rw [List.getElem?_map, List.getElem?_range hj] at hv
    cases hv
    exact ⟨(hf j hj).2.1 x hx, (hf j hj).2.2⟩
  · have hl2 := run_loadCells (P := P) (w := w) ⟨b, o, none⟩ ti.size f (fun j hj => by rw [add_flat]; exact (hf j (by omega)).1)
    have hag := isAgg_run (w := w) ht
    cases hk : isStr ti.kind with
    | true =>
      rw [hk] at hag
      simp only [Instr.loadAt, Instr.sureAddr, Sem.run_bind, Sem.run_pure, Result.andThen_ok, loadVar, hag, if_true, sizeOf_run ht, hl2, hl]
    | false =>
      rw [hk] at hag
      have h1 := ht.st hk
      have h0 := (hf 0 (by omega)).1
      simp only [Nat.add_zero] at h0
      have : ((List.range l.length).map f).getD 0 undef = f 0 := by
        rw [List.getD_eq_getElem?_getD, List.getElem?_map, List.getElem?_range (by omega)]; rfl
      rw [this]
      simp [Instr.loadAt, Instr.sureAddr, loadVar, hag, h0]
theorem frozen_at {b o : Nat} {cur : Array Value} {e : TypeId} {fr : Nat × Nat} (hg : w.heap[b]? = some (.cells cur e fr)) (ht : Thawed cur fr) (ho : o < cur.size) : w.frozen? ⟨b, o, none⟩ = false := by
  have := ht o ho
  simp [World.frozen?, hg]
  intro h
  omega
theorem store_cells (g o : Nat) (e : TypeId) (fr : Nat × Nat) : ∀ (vs : List Value) (i : Nat) (cur : Array Value) (w : World), w.heap[g]? = some (.cells cur e fr) → Thawed cur fr → o + i + vs.length ≤ cur.size → (∀ v ∈ vs, v.oneCell' = true) →
    ∃ w' cur', (storeCells ⟨g, o, none⟩ vs i).run P w = .ok () w' ∧ w'.os = w.os ∧ w'.tape = w.tape ∧ w'.output = w.output ∧ w'.heap.size = w.heap.size ∧ (∀ k, k ≠ g → w'.heap[k]? = w.heap[k]?) ∧
      w'.heap[g]? = some (.cells cur' e fr) ∧ cur'.size = cur.size ∧ ∀ k, cur'.getD k undef = if o + i ≤ k ∧ k < o + i + vs.length then vs.getD (k - (o + i)) undef else cur.getD k undef
  | [], i, cur, w, hg, _, _, _ => ⟨w, cur, rfl, rfl, rfl, rfl, rfl, fun _ _ => rfl, hg, rfl, fun k => by simp; omega⟩
  | v :: rest, i, cur, w, hg, ht, hl, h1 => by
    have hi : o + i < cur.size := by simp at hl; omega
    have hcell : w.cell? ⟨g, o + i, none⟩ = some cur[o + i] := by simp [World.cell?, hg, hi]
    have hfro := frozen_at (o := o + i) hg ht hi
    have hst : (store ((⟨g, o, none⟩ : Addr).add i) v).run P w = .ok () (w.setCell ⟨g, o + i, none⟩ v) := by
      rw [add_flat, run_store P w _ v _ (h1 v (by simp)), hcell]
      simp [hfro]
    have hg' : (w.setCell ⟨g, o + i, none⟩ v).heap[g]? = some (.cells (cur.setIfInBounds (o + i) v) e fr) := by
      simp only [World.setCell, Array.getElem?_modify, if_true, hg]
      simp
    obtain ⟨w', cur', r1, r2, r3, r4, r5, r6, r7, r8, r9⟩ := store_cells g o e fr rest (i + 1) (cur.setIfInBounds (o + i) v) (w.setCell ⟨g, o + i, none⟩ v) hg' (by intro k hk; exact ht k (by simpa using hk)) (by simp at hl ⊢; omega) (fun u hu => h1 u (by simp [hu]))
    refine ⟨w', cur', ?_, r2, r3, r4, by rw [r5]; simp [World.setCell], fun k hk => (r6 k hk).trans (heap_setCell_other _ _ _ _ hk), r7, by rw [r8]; simp, fun k => ?_⟩
    · simp only [storeCells, Sem.run_bind, hst, Result.andThen_ok, r1]
    · rw [r9 k]
      by_cases hk : k = o + i
      · subst hk
        rw [if_neg (by omega), if_pos (by simp)]
        simp [hi]
      · by_cases hk2 : o + (i + 1) ≤ k ∧ k < o + (i + 1) + rest.length
        · rw [if_pos hk2, if_pos (by simp; omega)]
          have : k - (o + i) = (k - (o + (i + 1))) + 1 := by omega
          rw [this, List.getD_cons_succ]
        · rw [if_neg hk2, if_neg (by simp; omega)]
          simp [Array.getElem?_setIfInBounds_ne (Ne.symm hk)]
theorem alloc_heap (w : World) (o : Obj) (k : Nat) : (w.alloc o).heap[k]? = if k = w.heap.size then some o else w.heap[k]? := by
  show (w.heap.push o)[k]? = _
  rw [Array.getElem?_push]
theorem alloc_size (w : World) (o : Obj) : (w.alloc o).heap.size = w.heap.size + 1 := by show (w.heap.push o).size = _; rw [Array.size_push]
end

section
variable {w0 : World} {M R : Nat → Prop} {γ : Gs} {φ : Fp} {tv : Tv} {sv : Sv} {a : Act} {w : World} {P : Program}
def OpRes (P : Program) (w0 : World) (M R : Nat → Prop) (γ : Gs) (tv : Tv) (sv : Sv) (a : Act) (w : World) (b : Nat) (act : Sem Next) (d : Dl) : Prop :=
  ∃ v w' γ' φ', (act.run P w = .ok (.value v) w' ∨ (act.run P w = .ok .skip w' ∧ v = undef)) ∧ (∀ n, ¬ (b ≤ n ∧ n < b + 256) → γ' n = γ n) ∧ Sim w0 M R γ' φ' tv (syncF d.upd sv) a w' ∧
    RepV w' (okOf w0 M R φ' (syncF d.upd sv) w') γ' v d.val
def Fresh (γ : Gs) (b : Nat) : Prop := ∀ n, b ≤ n → n < b + 256 → γ n = none
theorem opres_pure (h : Sim w0 M R γ φ tv sv a w) {b : Nat} {act : Sem Value} {v : Value} {x : AV} (hr : act.run P w = .ok v w) (hv : RepV w (okOf w0 M R φ sv w) γ v x) :
    OpRes P w0 M R γ tv sv a w b (do pure (.value (← act))) ⟨x, []⟩ := ⟨v, w, γ, φ, .inl (by simp [hr]), fun _ _ => rfl, h, hv⟩
theorem opres_pure' (h : Sim w0 M R γ φ tv sv a w) {b : Nat} {v : Value} {x : AV} (hv : RepV w (okOf w0 M R φ sv w) γ v x) :
    OpRes P w0 M R γ tv sv a w b (pure (.value v)) ⟨x, []⟩ := ⟨v, w, γ, φ, .inl (by simp), fun _ _ => rfl, h, hv⟩
theorem upd_self {sv : Sv} {m : Nat} {B : Option Blk} : updS sv m B m = B := by simp [updS]
theorem upd_ne {sv : Sv} {m n : Nat} {B : Option Blk} (h : m ≠ n) : updS sv m B n = sv n := by simp [updS, h]
structure SameW (w w' : World) : Prop where
  heap : w'.heap = w.heap
  os : w'.os = w.os
  tape : w'.tape = w.tape
  output : w'.output = w.output
theorem SameW.refl (w : World) : SameW w w := ⟨rfl, rfl, rfl, rfl⟩
theorem SameW.drew (w : World) : SameW w w.drew := ⟨rfl, rfl, rfl, rfl⟩
theorem Fr.same {w' : World} (h : Fr w0 M w) (hs : SameW w w') : Fr w0 M w' :=
  ⟨hs.os.trans h.os, hs.tape.trans h.tape, hs.output.trans h.output, by rw [hs.heap]; exact h.size, fun k hk hm => by rw [hs.heap]; exact h.block k hk hm⟩
theorem Sim.same {w' : World} (h : Sim w0 M R γ φ tv sv a w) (hs : SameW w w') : Sim w0 M R γ φ tv sv a w' :=
  (h.step (fun _ => False) (fun _ _ h => h) (fun _ _ => ⟨rfl, rfl⟩) (h.fr.same hs) (Kp.old fun k _ => by rw [hs.heap]) (by rw [hs.heap]; exact Nat.le_refl _) (fun _ _ _ => by rw [hs.heap]) (fun _ _ h => h.elim) (fun _ _ h => h.elim) (fun _ _ _ _ _ _ _ h => h.elim)
    (fun _ _ _ _ _ _ h => h.elim) (fun _ _ _ h => h.elim)).1
theorem Sim.kill (h : Sim w0 M R γ φ tv sv a w) (m : Nat) : Sim w0 M R γ φ tv (updS sv m none) a w := by
  refine (h.step (fun n => n = m) (fun _ _ h => h) (fun n hn => ⟨upd_ne (Ne.symm hn), rfl⟩) h.fr (Kp.refl _) (Nat.le_refl _) (fun _ _ _ => rfl) ?_ ?_ ?_ ?_ ?_).1
  · rintro n b rfl hl; simp [live, upd_self] at hl
  · rintro n k rfl rfl hl; simp [live, upd_self] at hl
  · rintro k p i j v hk hs rfl
    exact ⟨(h.bk k _ hs).1, (h.bk k _ hs).2.1, fun zp v' rp hp => by simp [updS] at hp⟩
  · rintro k p v seen hk hs rfl
    obtain ⟨h0, b, born, last, h1, h2, _⟩ := h.bk k _ hs
    exact ⟨h0, b, born, last, h1, h2, fun v' es hp => by simp [updS] at hp⟩
  · rintro _ n B rfl hB; rw [upd_self] at hB; cases hB
theorem Sim.kills (h : Sim w0 M R γ φ tv sv a w) (ms : List Nat) : Sim w0 M R γ φ tv (syncF (Mx.kill ms) sv) a w := by
  induction ms generalizing sv with
  | nil => exact h
  | cons m ms ih => exact ih (h.kill m)
def γN (γ : Gs) (n : Nat) (g : Value × Nat) : Gs := fun m => if m = n then some g else γ m
def φN (φ : Fp) (n : Nat) (F : Nat → Prop) : Fp := fun m => if m = n then F else φ m
theorem γN_ext {n : Nat} {g : Value × Nat} (hn : γ n = none) : ∀ m k, γ m = some k → γN γ n g m = some k := by
  intro m k hm
  unfold γN
  split
  · rename_i e; subst e; rw [hn] at hm; cases hm
  · exact hm
theorem γN_self {n : Nat} {g : Value × Nat} : γN γ n g n = some g := by simp [γN]
theorem φN_self {n : Nat} {F : Nat → Prop} : φN φ n F n = F := by simp [φN]
theorem φN_ne {m n : Nat} {F : Nat → Prop} (h : m ≠ n) : φN φ n F m = φ m := by simp [φN, h]
theorem γN_ne {m n : Nat} {g : Value × Nat} (h : m ≠ n) : γN γ n g m = γ m := by simp [γN, h]
theorem blk_gh (h : Sim w0 M R γ φ tv sv a w) {m : Nat} {B : Blk} (hB : sv m = some B) : ∃ g, γ m = some g := by
  have := h.bk m B hB
  cases B with
  | bx cs => obtain ⟨b, cur, e, fr, h1, _⟩ := this; exact ⟨_, h1⟩
  | ar z v rows => obtain ⟨v0, h1, _⟩ := this; exact ⟨_, h1⟩
  | fz z rows => obtain ⟨v0, h1, _⟩ := this; exact ⟨_, h1⟩
  | sb p i j v => exact this.1
  | mp v es => obtain ⟨b, ents, clock, h1, _⟩ := this; exact ⟨_, h1⟩
  | it p v seen => obtain ⟨_, b, born, last, h1, _⟩ := this; exact ⟨_, h1⟩
  | im rem last => obtain ⟨b, r, ents, clock, born, h1, _⟩ := this; exact ⟨_, h1⟩
theorem Sim.new (h : Sim w0 M R γ φ tv sv a w) {n : Nat} (hn : γ n = none) (ks : List Nat) (hks : ∀ k ∈ ks, k ≠ n) {w' : World} {g : Value × Nat} {F : Nat → Prop} {B : Blk}
    (hos : w'.os = w.os) (htp : w'.tape = w.tape) (hout : w'.output = w.output) (hcl : Kp w w') (hsz : w.heap.size ≤ w'.heap.size)
    (hw : ∀ b, b < w.heap.size → (∀ k ∈ ks, live sv k → ¬ φ k b) → w'.heap[b]? = w.heap[b]?)
    (hF : ∀ b, F b → b < w'.heap.size ∧ (w.heap.size ≤ b ∨ ∃ k ∈ ks, live sv k ∧ φ k b))
    (hB : (∀ b, okOf w0 M R φ sv w b → okOf w0 M R (φN φ n F) (updS (syncF (Mx.kill ks) sv) n (some B)) w' b ∧ w'.heap[b]? = w.heap[b]?) → BlkOk w' (okOf w0 M R (φN φ n F) (updS (syncF (Mx.kill ks) sv) n (some B)) w') (γN γ n g) (φN φ n F) (updS (syncF (Mx.kill ks) sv) n (some B)) n B) :
    Sim w0 M R (γN γ n g) (φN φ n F) tv (updS (syncF (Mx.kill ks) sv) n (some B)) a w' ∧ ∀ b, okOf w0 M R φ sv w b → okOf w0 M R (φN φ n F) (updS (syncF (Mx.kill ks) sv) n (some B)) w' b ∧ w'.heap[b]? = w.heap[b]? := by
  have ksv : ∀ (l : List Nat) (s : Sv) m, syncF (Mx.kill l) s m = if m ∈ l then none else s m := by
    intro l
    induction l with
    | nil => intro s m; simp [Mx.kill, syncF]
    | cons k l ih =>
      intro s m
      simp only [Mx.kill, List.map_cons, syncF]
      have := ih (updS s k none) m
      simp only [Mx.kill] at this
      rw [this]
      by_cases h1 : m ∈ l
      · simp [h1]
      · by_cases h2 : k = m
        · subst h2; simp [updS]
        · simp [h1, updS, h2, Ne.symm h2]
  refine h.step (fun m => m = n ∨ m ∈ ks) (γN_ext hn) ?_ ?_ hcl hsz ?_ ?_ ?_ ?_ ?_ ?_
  · intro m hm
    have h1 : m ≠ n := fun e => hm (.inl e)
    have h2 : m ∉ ks := fun e => hm (.inr e)
    exact ⟨by rw [upd_ne (Ne.symm h1), ksv, if_neg h2], φN_ne h1⟩
  · refine ⟨hos.trans h.fr.os, htp.trans h.fr.tape, hout.trans h.fr.output, Nat.le_trans h.fr.size hsz, fun k hk hM => ?_⟩
    rw [hw k (Nat.lt_of_lt_of_le hk h.fr.size) fun m _ hl hb => ?_]
    · exact h.fr.block k hk hM
    · rcases (h.nw m k hl hb).2 with h1 | h1
      · omega
      · exact hM h1
  · exact fun b hb hk => hw b hb fun k hm => hk k (.inr hm)
  · rintro m b (rfl | hm) hl hb
    · rw [φN_self] at hb
      obtain ⟨h1, h2⟩ := hF b hb
      exact ⟨h1, h2.imp id fun ⟨k, hk, hl, hb⟩ => ⟨k, .inr hk, hl, hb⟩⟩
    · exfalso
      have hne := hks m hm
      unfold live at hl
      rw [upd_ne (Ne.symm hne), ksv, if_pos hm] at hl
      cases hl
  · rintro m k hm hk hl hl' hne b hb
    have only : ∀ m, (m = n ∨ m ∈ ks) → live (updS (syncF (Mx.kill ks) sv) n (some B)) m → m = n := by
      rintro m (rfl | hm) hl
      · rfl
      · exfalso
        have hne := hks m hm
        unfold live at hl
        rw [upd_ne (Ne.symm hne), ksv, if_pos hm] at hl
        cases hl
    exact (hne ((only m hm hl).trans (only k hk hl').symm)).elim
  · intro k p i j v hk hs hp
    obtain ⟨h0, h1, h2⟩ := h.bk k _ hs
    refine ⟨h0.imp fun g hg => γN_ext hn _ _ hg, h1.imp fun g hg => γN_ext hn _ _ hg, fun zp v' rp hpp => ?_⟩
    exfalso
    rcases hp with rfl | hp
    · obtain ⟨g, hg⟩ := h1; rw [hn] at hg; cases hg
    · rw [upd_ne (Ne.symm (hks p hp)), ksv, if_pos hp] at hpp; cases hpp
  · intro k p v seen hk hs hp
    obtain ⟨h0, b, born, last, h1, h2, _⟩ := h.bk k _ hs
    have hkn : k ≠ n := fun e => hk (.inl e)
    refine ⟨h0.imp fun g hg => γN_ext hn _ _ hg, b, born, last, γN_ext hn _ _ h1, by rw [φN_ne hkn]; exact h2, fun v' es hpp => ?_⟩
    exfalso
    rcases hp with rfl | hp
    · obtain ⟨g, hg⟩ := h0; rw [hn] at hg; cases hg
    · rw [upd_ne (Ne.symm (hks p hp)), ksv, if_pos hp] at hpp; cases hpp
  · rintro hok m B' (rfl | hm) hB'
    · rw [upd_self] at hB'
      cases hB'
      exact hB hok
    · rw [upd_ne (Ne.symm (hks m hm)), ksv, if_pos hm] at hB'; cases hB'
theorem Sim.set (h : Sim w0 M R γ φ tv sv a w) {m : Nat} (hl : live sv m) {w' : World} {B : Blk}
    (hos : w'.os = w.os) (htp : w'.tape = w.tape) (hout : w'.output = w.output) (hcl : Kp w w') (hsz : w'.heap.size = w.heap.size) (hw : ∀ b, ¬ φ m b → w'.heap[b]? = w.heap[b]?)
    (hal : ∀ k p i j v, k ≠ m → sv k = some (.sb p i j v) → p = m → BlkOk w' (okOf w0 M R φ (updS sv m (some B)) w') γ φ (updS sv m (some B)) k (.sb p i j v))
    (hit : ∀ k p v seen, k ≠ m → sv k = some (.it p v seen) → p = m → BlkOk w' (okOf w0 M R φ (updS sv m (some B)) w') γ φ (updS sv m (some B)) k (.it p v seen))
    (hB : (∀ b, okOf w0 M R φ sv w b → okOf w0 M R φ (updS sv m (some B)) w' b ∧ w'.heap[b]? = w.heap[b]?) → BlkOk w' (okOf w0 M R φ (updS sv m (some B)) w') γ φ (updS sv m (some B)) m B) :
    Sim w0 M R γ φ tv (updS sv m (some B)) a w' ∧ ∀ b, okOf w0 M R φ sv w b → okOf w0 M R φ (updS sv m (some B)) w' b ∧ w'.heap[b]? = w.heap[b]? := by
  refine h.step (fun n => n = m) (fun _ _ h => h) (fun n hn => ⟨upd_ne (Ne.symm hn), rfl⟩) ?_ hcl (by omega) (fun b _ hk => hw b (hk m rfl hl)) ?_ ?_ (fun k p i j v hk hs hp => hal k p i j v hk hs hp) (fun k p v seen hk hs hp => hit k p v seen hk hs hp) ?_
  · refine ⟨hos.trans h.fr.os, htp.trans h.fr.tape, hout.trans h.fr.output, by rw [hsz]; exact h.fr.size, fun k hk hM => ?_⟩
    rw [hw k fun hb => ?_]
    · exact h.fr.block k hk hM
    · rcases (h.nw m k hl hb).2 with h1 | h1
      · omega
      · exact hM h1
  · rintro n b rfl _ hb
    exact ⟨by rw [hsz]; exact (h.nw _ b hl hb).1, .inr ⟨_, rfl, hl, hb⟩⟩
  · rintro n k rfl rfl _ _ hne; exact (hne rfl).elim
  · rintro hok n B' rfl hB'
    rw [upd_self] at hB'
    cases hB'
    exact hB hok
end
end Go.Proofs.YtkkmgjhfjhcdmaaGreatDoor.Mx
