/- The tree machine, a library of this claim: the program's steps over closed value trees, and that they are sound. -/
import Derived.Calls
import Derived.Orders
import Derived.Laws.IdiomCopy
import Derived.Deep.MidRow
import Derived.WalkKit
import Derived.Lib.ConvBytes
import Derived.Lib.Strings
import Derived.Laws.Strings
import Derived.Laws.Small
import Derived.Laws.Pointers
import Derived.Laws.StructEq
import Derived.Laws.BytesArg
set_option maxHeartbeats 8000000
set_option maxRecDepth 20000
set_option linter.unusedVariables false
set_option linter.unusedSimpArgs false
namespace Go.Tm
noncomputable section
inductive T where
 |v (x:Value)
 |slc (k:List Bool) (xs:List (List T))
 |hole
structure Place where
 root:Nat
 step:Option (Nat×Nat×Nat)
 off:Nat
inductive V where
 |t (x:T)
 |own (k:List Bool) (xs:List (List T))
 |nils
 |ref (p:Place)
 |sub (p:Place) (lo hi:Nat)
 |ptr (p:Place)
 |iptr (cs:List T)
 |agg (cs:List V)
 |tup (vs:List V)
 |mref (r:Nat)
 |al (r c:Nat)
 |undef
abbrev V.i(n:Int):V:=.t (.v (.int .i64 n))
abbrev V.b(c:Bool):V:=.t (.v (.bool c))
abbrev V.s(x:ByteArray):V:=.t (.v (.string x))
abbrev T.i(n:Int):T:=.v (.int .i64 n)
abbrev T.b(c:Bool):T:=.v (.bool c)
abbrev T.s(x:ByteArray):T:=.v (.string x)
def sc:Value→Bool
 |.bool _|.int _ _|.string _|.pointer none|.map none=>true
 |_=>false
inductive Kl where
 |root (r:Nat)
 |cell (r c:Nat)
 |under (r c:Nat)
 |refs (r c:Nat)
 |deep (r c o:Nat)
def Kl.f:Kl→Bool→Place→Bool
 |.root r,_,p=>Nat.beq p.root r
 |.cell r c,ls,p=>Nat.beq p.root r && match p.step with
  |none=>ls && Nat.beq p.off c
  |some (c',_,_)=>Nat.beq c' c
 |.under r c,_,p=>Nat.beq p.root r && match p.step with
  |none=>false
  |some (c',_,_)=>Nat.beq c' c
 |.refs r c,ls,p=>Nat.beq p.root r && match p.step with
  |none=>false
  |some (c',_,_)=>Nat.beq c' c && ls
 |.deep r c o,ls,p=>Nat.beq p.root r && match p.step with
  |none=>false
  |some (c',_,_)=>Nat.beq c' c && ls && Nat.beq p.off o
def Kl.m:Kl→Nat→Bool
 |.root r,m=>Nat.beq m r
 |_,_=>false
def Place.part:Place→Place
 |⟨r,none,c⟩=>⟨r,some (c,0,0),16777215⟩
 |p=>p
mutual
def V.pois(k:Kl):V→V
 |.ref p=>match k.f true p with|true=>.undef|false=>.ref p
 |.sub p lo hi=>match k.f true p.part with|true=>.undef|false=>.sub p lo hi
 |.ptr p=>match k.f false p with|true=>.undef|false=>.ptr p
 |.agg cs=>.agg (V.poisL k cs)
 |.tup vs=>.tup (V.poisL k vs)
 |.t x=>.t x
 |.own ks xs=>.own ks xs
 |.nils=>.nils
 |.iptr cs=>.iptr cs
 |.mref r=>match k.m r with|true=>.undef|false=>.mref r
 |.al r c=>match k.f true ⟨r,none,c⟩with|true=>.undef|false=>.al r c
 |.undef=>.undef
def V.poisL(k:Kl):List V→List V
 |[]=>[]
 |c :: cs=>V.pois k c :: V.poisL k cs
end
structure St where
 sl:Nat→V
 rc:Nat→Nat→V
 rn:Nat→Option Nat
 mp:Nat→Option (List Value)
def upd{α:Type}(f:Nat→α)(i:Nat)(x:α):Nat→α:=fun j=>match Nat.beq j i with|true=>x|false=>f j
def HV{α:Type}(f:Nat→Nat→α)(i k:Nat)(x:α):Nat→Nat→α:=fun j l=>match Nat.beq j i && Nat.beq l k with|true=>x|false=>f j l
inductive Wr where
 |sl (d:Nat) (x:V)
 |kl (k:Kl)
 |rc (r c:Nat) (x:V)
 |rn (r n:Nat)
 |mp (m:Nat) (ks:List Value)
def Wr.ap(s:St):Wr→St
 |.sl d x=>{s with sl:=upd s.sl d x}
 |.kl k=>{s with sl:=fun i=>(s.sl i).pois k}
 |.rc r c x=>{s with rc:=HV s.rc r c x}
 |.rn r n=>{s with rn:=upd s.rn r (some n),rc:=fun j l=>match Nat.beq j r with|true=>.undef|false=>s.rc j l}
 |.mp m ks=>{s with mp:=upd s.mp m (some ks)}
def St.aps(s:St):List Wr→St
 |[]=>s
 |w :: ws=>(w.ap s).aps ws
/-! ### Programs over a state: what is read and written is told step by step -/
inductive Cmd (α:Type) where
 |ret (a:α)
 |fail
 |sl (d:Nat) (k:V→Cmd α)
 |rc (r c:Nat) (k:V→Cmd α)
 |mp (m:Nat) (k:Option (List Value)→Cmd α)
 |gn (r:Nat) (k:Option Nat→Cmd α)
 |wr (w:Wr) (k:Cmd α)
 |rh (r c:Nat) (k:V→Cmd α)
def iJ:V→V
 |.own _ _=>.own [] []
 |x=>x
def Cmd.bind{α β:Type}(x:Cmd α)(f:α→Cmd β):Cmd β :=
 Cmd.rec (motive:=fun _=>Cmd β) (fun a=>f a) .fail (fun d _ ih=>.sl d ih) (fun r c _ ih=>.rc r c ih) (fun m _ ih=>.mp m ih) (fun r _ ih=>.gn r ih) (fun w _ ih=>.wr w ih) (fun r c _ ih=>.rh r c ih) x
theorem Cmd.b0{α β:Type}(a:α)(f:α→Cmd β):(Cmd.ret a).bind f = f a:=rfl
theorem Cmd.b1{α β:Type}(f:α→Cmd β):Cmd.fail.bind f = .fail:=rfl
theorem Cmd.b2{α β:Type}(d:Nat)(k:V→Cmd α)(f:α→Cmd β):(Cmd.sl d k).bind f = .sl d fun x=>(k x).bind f:=rfl
theorem Cmd.b3{α β:Type}(r c:Nat)(k:V→Cmd α)(f:α→Cmd β):(Cmd.rc r c k).bind f = .rc r c fun x=>(k x).bind f:=rfl
theorem Cmd.b4{α β:Type}(m:Nat)(k:Option (List Value)→Cmd α)(f:α→Cmd β):(Cmd.mp m k).bind f = .mp m fun x=>(k x).bind f:=rfl
theorem Cmd.b5{α β:Type}(r:Nat)(k:Option Nat→Cmd α)(f:α→Cmd β):(Cmd.gn r k).bind f = .gn r fun x=>(k x).bind f:=rfl
theorem Cmd.b7{α β:Type}(r c:Nat)(k:V→Cmd α)(f:α→Cmd β):(Cmd.rh r c k).bind f = .rh r c fun x=>(k x).bind f:=rfl
theorem Cmd.b6{α β:Type}(w:Wr)(k:Cmd α)(f:α→Cmd β):(Cmd.wr w k).bind f = .wr w (k.bind f):=rfl
def Cmd.run{α:Type}:Cmd α→St→Option (α×St)
 |.ret a,s=>some (a,s)
 |.fail,_=>none
 |.sl d k,s=>(k (s.sl d)).run s
 |.rc r c k,s=>(k (s.rc r c)).run s
 |.mp m k,s=>(k (s.mp m)).run s
 |.gn r k,s=>(k (s.rn r)).run s
 |.wr w k,s=>k.run (w.ap s)
 |.rh r c k,s=>(k (iJ (s.rc r c))).run s
instance:Monad Cmd where
 pure:=Cmd.ret
 bind:=Cmd.bind
abbrev wr(w:Wr):Cmd Unit:=.wr w (.ret ())
def ib(b:Bool):Cmd Unit:=match b with|true=>.ret ()|false=>.fail
def inR(r n:Nat):Cmd Unit:=.gn r fun|some m=>ib (Nat.ble n m)|none=>.fail
/-! ### Types -/
inductive D where
 |bool|int (k:IntKind)|str|slice (e:TypeId)|struct (fs:List (Nat×TypeId))|ptr (e:TypeId)|map (k e:TypeId)|other
def D.of:TypeDesc→D
 |.bool=>.bool
 |.int k=>.int k
 |.string=>.str
 |.slice e=>.slice e
 |.struct fs=>.struct (fs.toList.map fun f=>(f.offset,f.type))
 |.pointer e=>.ptr e
 |.map k e=>.map k e
 |_=>.other
structure Ty where
 d:D
 zc:List V
 bytes:Nat
def zv:V→Value
 |.t (.v x)=>x
 |.own _ _=>.slice none 0 0
 |_=>undef
def Ty.agg(t:Ty):Bool:=match t.d with|.struct _=>true|_=>false
def Ty.zval(t:Ty):Value :=
 match t.agg with
 |true=>.agg (t.zc.map zv).toArray
 |false=>match t.zc with|c :: _=>zv c|[]=>undef
def Ty.size(t:Ty):Nat:=t.zc.length
def OC:V→Bool|.own _ _=>true|_=>false
def Ty.kd(t:Ty):List Bool:=t.zc.map OC
def zT:V→T
 |.t x=>x
 |.own k _=>.slc k []
 |_=>.hole
inductive Env where
 |nil
 |node (l:Env) (k:Nat) (t:Ty) (r:Env)
def Env.ty:Env→Nat→Option Ty
 |.nil,_=>none
 |.node l k t r,n=>match Nat.beq k n with
  |true=>some t
  |false=>match Nat.ble n k with|true=>l.ty n|false=>r.ty n
def Ck:List Bool→List Bool→Bool
 |[],[]=>true
 |true :: a,true :: b=>Ck a b
 |false :: a,false :: b=>Ck a b
 |_,_=>false
def Ln:List Bool→Bool
 |[]=>true
 |true :: _=>false
 |false :: k=>Ln k
def bT:List Bool→List T→Bool
 |[],[]=>true
 |false :: k,.v _ :: x=>bT k x
 |true :: k,.slc _ _ :: x=>bT k x
 |true :: k,.hole :: x=>bT k x
 |_,_=>false
/-! ### Operands -/
def HZ:Value→V
 |.slice none 0 0=>.nils
 |.bool b=>.t (.v (.bool b))
 |.int k n=>.t (.v (.int k n))
 |.string s=>.t (.v (.string s))
 |.pointer none=>.t (.v (.pointer none))
 |_=>.undef
def rdO:Operand→Cmd V
 |.tmp t=>.sl t .ret
 |.const x=>.ret (HZ x)
 |_=>.ret .undef
inductive Ans where
 |i (n:Int)
 |b (c:Bool)
 |n (m:Nat)
 |x (cs:List T)
 |s (str:ByteArray)
 |call (res:V) (outs:List (List V))
 |g
abbrev Kx:=List Bool×List (List T)
def Ab(r c:Nat):Cmd Kx:=.rc r c fun|.own k xs=>.ret (k,xs)|_=>.fail
def BA:V→List Ans→Cmd (Kx×List Ans×Prop)
 |.t (.slc k xs),a=>.ret ((k,xs),a,True)
 |.nils,a=>.ret (([],[]),a,True)
 |.ref ⟨r,none,c⟩,a=>(Ab r c).bind fun(k0,xs0)=>.ret ((k0,xs0),a,True)
 |.sub ⟨r,none,c⟩ lo hi,a=>(Ab r c).bind fun(k0,xs0)=>.ret ((k0,(xs0.take hi).drop lo),a,True)
 |.ref ⟨r,some (c,i,_),o⟩,.x el :: a=>(Ab r c).bind fun(k0,xs0) =>
  match el[o]? with
  |some (.slc k ys)=>.ret ((k,ys),a,xs0[i]? = some el)
  |_=>.fail
 |_,_=>.fail
def Ra(p:Place):T→V
 |.slc _ _=>.ref p
 |.v x=>.t (.v x)
 |.hole=>.undef
def mh(r:Nat):Nat→Nat→Cmd (List V)
 |_,0=>.ret []
 |o,n+1=>.rh r o fun c=>match c with
  |.own _ _=>(mh r (o+1) n).bind fun cs=>.ret (.ref ⟨r,none,o⟩ :: cs)
  |.t x=>(mh r (o+1) n).bind fun cs=>.ret (.t x :: cs)
  |.al r' c'=>(inR r' (c'+1)).bind fun _=>(mh r (o+1) n).bind fun cs=>.ret (.ref ⟨r',none,c'⟩ :: cs)
  |_=>.fail
def C8(r:Nat)(st:Nat×Nat×Nat):Nat→List T→List V
 |_,[]=>[]
 |o,c :: cs=>Ra ⟨r,some st,o⟩ c :: C8 r st (o+1) cs
def Uy(agg:Bool)(cs:List V):Cmd V :=
 match agg,cs with
 |true,cs=>.ret (.agg cs)
 |false,[c]=>.ret c
 |_,_=>.fail
def cellsOf:V→List V
 |.agg cs=>cs
 |c=>[c]
def kO:V→List Ans→Cmd (Kx×List Ans×Prop)
 |.ref ⟨r,none,c⟩,a=>(Ab r c).bind fun(k0,xs0)=>.wr (.rc r c .undef) (.ret ((k0,xs0),a,True))
 |.sub ⟨r,none,c⟩ lo hi,a=>(Ab r c).bind fun(k0,xs0)=>.wr (.rc r c .undef) (.ret ((k0,(xs0.take hi).drop lo),a,True))
 |.ref ⟨r,some (c,i,_),o⟩,.x el :: a=>(Ab r c).bind fun(k0,xs0) =>
  match el[o]? with
  |some (.slc k ys)=>.wr (.rc r c (.own k0 (xs0.set i (el.set o .hole)))) (.ret ((k,ys),a,xs0[i]? = some el))
  |_=>.fail
 |_,_=>.fail
def w9:Place→Place→Bool
 |⟨r,none,o⟩,⟨r',none,o'⟩=>Nat.beq r r' && Nat.beq o o'
 |_,_=>false
end
end Go.Tm
namespace Go.Tm
noncomputable section
abbrev Out := V × List Ans × Prop   -- what goes to the slot; answers left; what must hold
def Iw(r:Nat):Nat→List V→Cmd Unit
 |_,[]=>.ret ()
 |o,c :: cs=>.wr (.rc r o c) (Iw r (o+1) cs)
def fT(r:Nat)(cs:List V):Cmd Unit:=.wr (.kl (.root r)) (.wr (.rn r cs.length) (Iw r 0 cs))
def ov(z:V):V→List Ans→Cmd (V×List Ans×Prop)
 |.t x,a=>.ret (.t x,a,True)
 |.nils,a=>match z with|.own k _=>.ret (.own k [],a,True)|_=>.fail
 |x,a=>(kO x a).bind fun((k0,xs0),a,p)=>.ret (.own k0 xs0,a,p)
def toT(z:V):V→List Ans→Cmd (T×List Ans×Prop)
 |.t (.v x),a=>match z with|.t _=>.ret (.v x,a,True)|_=>.fail
 |.nils,a=>match z with|.own k _=>.ret (.slc k [],a,True)|_=>.fail
 |x,a=>match z with
  |.own _ _=>(kO x a).bind fun((k0,xs0),a,p)=>.ret (.slc k0 xs0,a,p)
  |_=>.fail
def IK:V→Bool|.t (.v _)=>true|_=>false
def H3(r o:Nat)(x:V):Cmd Unit:=.rc r o fun old =>
 match IK old && IK x with
 |true=>.wr (.rc r o x) (.ret ())
 |false=>.wr (.kl (.cell r o)) (.wr (.rc r o x) (.ret ()))
def WH:V→Cmd Unit
 |.ref ⟨r,none,c⟩=>.rc r c fun|.undef=>.wr (.rc r c (.t .hole)) (.ret ())|_=>.ret ()
 |_=>.ret ()
def nl(r:Nat):Nat→List V→List V→List Ans→Cmd (List (Option V)×List Ans×Prop)
 |_,[],_,a=>.ret ([],a,True)
 |o,c :: cs,z :: zs,a =>
  match(match c with|.ref q=>w9 q ⟨r,none,o⟩|_=>false)with
  |true=>(nl r (o+1) cs zs a).bind fun(xs,a,p)=>.ret (none :: xs,a,p)
  |false=>(ov z c a).bind fun(x,a,p)=>(WH c).bind fun _=>(nl r (o+1) cs zs a).bind fun(xs,a,p')=>.ret (some x :: xs,a,p∧p')
 |_,_ :: _,[],_=>.fail
def jz(r:Nat):Nat→List (Option V)→Cmd Unit
 |_,[]=>.ret ()
 |o,none :: xs=>jz r (o+1) xs
 |o,some x :: xs=>(H3 r o x).bind fun _=>jz r (o+1) xs
def Up:List V→List V→List Ans→Cmd (List T×List Ans×Prop)
 |[],[],a=>.ret ([],a,True)
 |v :: vs,z :: zs,a=>(toT z v a).bind fun(x,a,p)=>(Up vs zs a).bind fun(xs,a,p')=>.ret (x :: xs,a,p∧p')
 |_,_,_=>.fail
def qI(r c:Nat):Nat→List Bool→Cmd Unit
 |_,[]=>.ret ()
 |o,true :: k=>.wr (.kl (.deep r c o)) (qI r c (o+1) k)
 |o,false :: k=>qI r c (o+1) k
def aM:List T→Nat→List T→List T
 |el,0,cs=>cs++el.drop cs.length
 |e :: el,o+1,cs=>e :: aM el o cs
 |[],_+1,_=>[]
/-! ### Scalars -/
def intBits(op:BinOp)(k:IntKind)(x y:Int):Option Int :=
 match op with
 |.and=>some (k.wrap (BitVec.ofInt k.bits x &&& BitVec.ofInt k.bits y).toNat)
 |.or=>some (k.wrap (BitVec.ofInt k.bits x|||BitVec.ofInt k.bits y).toNat)
 |.xor=>some (k.wrap (BitVec.ofInt k.bits x ^^^ BitVec.ofInt k.bits y).toNat)
 |_=>none
def eqK:IntKind→IntKind→Bool
 |.i8,.i8|.i16,.i16|.i32,.i32|.i64,.i64|.u8,.u8|.u16,.u16|.u32,.u32|.u64,.u64=>true
 |_,_=>false
def MR(op:BinOp)(k:IntKind)(x y:Int)(a:List Ans):Cmd Out :=
 match op with
 |.lss=>.ret (.b (decide (x < y)),a,True)
 |.leq=>.ret (.b (decide (x≤y)),a,True)
 |.gtr=>.ret (.b (decide (y < x)),a,True)
 |.geq=>.ret (.b (decide (y≤x)),a,True)
 |.eql=>.ret (.b (decide (x = y)),a,True)
 |.neq=>.ret (.b (!decide (x = y)),a,True)
 |.add=>match a with|.i r :: a=>.ret (.t (.v (.int k r)),a,k.wrap (x+y) = r)|_=>.fail
 |.sub=>match a with|.i r :: a=>.ret (.t (.v (.int k r)),a,k.wrap (x - y) = r)|_=>.fail
 |.mul=>match a with|.i r :: a=>.ret (.t (.v (.int k r)),a,k.wrap (x * y) = r)|_=>.fail
 |.quo=>match a with|.i r :: a=>.ret (.t (.v (.int k r)),a,y≠0∧k.wrap (x.tdiv y) = r)|_=>.fail
 |.rem=>match a with|.i r :: a=>.ret (.t (.v (.int k r)),a,y≠0∧x.tmod y = r)|_=>.fail
 |.and|.or|.xor=>match a with|.i r :: a=>.ret (.t (.v (.int k r)),a,intBits op k x y = some r)|_=>.fail
 |.shl=>match a with|.i r :: a=>.ret (.t (.v (.int k r)),a,0≤y∧k.wrap (x * 2 ^ (min y.toNat k.bits)) = r)|_=>.fail
 |.shr=>match a with|.i r :: a=>.ret (.t (.v (.int k r)),a,0≤y∧x.fdiv (2 ^ (min y.toNat k.bits)) = r)|_=>.fail
 |_=>.fail
def WJ(E:Env)(op:BinOp)(ty:TypeId)(x y:V)(a:List Ans):Cmd Out :=
 match op,x,y with
 |.shl,.t (.v (.int k n)),.t (.v (.int _ m))=>MR .shl k n m a
 |.shr,.t (.v (.int k n)),.t (.v (.int _ m))=>MR .shr k n m a
 |op,.t (.v (.int k n)),.t (.v (.int k' m))=>match eqK k k' with|true=>MR op k n m a|false=>.fail
 |.add,.t (.v (.string s)),.t (.v (.string u))=>match a with|.s r :: a=>.ret (.s r,a,s++u = r∧s.size+u.size≤4611686018427387904)|_=>.fail
 |.eql,.t (.v (.string s)),.t (.v (.string u))=>.ret (.b (decide (s = u)),a,True)
 |.neq,.t (.v (.string s)),.t (.v (.string u))=>.ret (.b (!decide (s = u)),a,True)
 |.eql,.t (.v (.bool s)),.t (.v (.bool u))=>match E.ty ty with|some ⟨.bool,_,_⟩=>.ret (.b (s == u),a,True)|_=>.fail
 |.neq,.t (.v (.bool s)),.t (.v (.bool u))=>match E.ty ty with|some ⟨.bool,_,_⟩=>.ret (.b (!(s == u)),a,True)|_=>.fail
 |.neq,.ptr _,.t (.v (.pointer none))=>match E.ty ty with|some ⟨.ptr _,_,_⟩=>.ret (.b true,a,True)|_=>.fail
 |.neq,.t (.v (.pointer none)),.t (.v (.pointer none))=>match E.ty ty with|some ⟨.ptr _,_,_⟩=>.ret (.b false,a,True)|_=>.fail
 |_,_,_=>.fail
def O7(E:Env):List (Nat×TypeId)→List V→List V→Option Bool
 |[],_,_=>some true
 |(off,ft) :: fs,cs,ds=>match E.ty ft,cs[off]?,ds[off]? with
  |some ⟨.int _,_,_⟩,some (.t (.v (.int k x))),some (.t (.v (.int k' y)))=>match eqK k k',O7 E fs cs ds with
   |true,some r=>some (decide (x = y) && r)
   |_,_=>none
  |some ⟨.str,_,_⟩,some (.t (.v (.string x))),some (.t (.v (.string y)))=>match O7 E fs cs ds with
   |some r=>some (decide (x = y) && r)
   |none=>none
  |some ⟨.bool,_,_⟩,some (.t (.v (.bool x))),some (.t (.v (.bool y)))=>match O7 E fs cs ds with
   |some r=>some ((x == y) && r)
   |none=>none
  |_,_,_=>none
def xx(E:Env)(sq:TypeId→Bool)(op:BinOp)(t:TypeId)(xs ys:List V)(a:List Ans):Cmd Out :=
 match sq t,E.ty t with
 |true,some ⟨.struct fs,_,_⟩=>match O7 E fs xs ys,op,a with
  |some r,.eql,.b b :: a=>.ret (.b b,a,r = b)
  |some r,.neq,.b b :: a=>.ret (.b (!b),a,r = b)
  |_,_,_=>.fail
 |_,_=>.fail
def Wu(E:Env)(sq:TypeId→Bool)(op:BinOp)(ty:TypeId)(x y:V)(a:List Ans):Cmd Out :=
 match x,y with
 |.agg xs,.agg ys=>xx E sq op ty xs ys a
 |x,y=>WJ E op ty x y a
def cN(s:ByteArray):List (List T):=s.data.toList.map fun b=>[.v (.int .u8 b.toNat)]
def bZ(xs:List (List T)):List UInt8:=xs.map fun|[.v (.int .u8 n)]=>UInt8.ofNat n.toNat|_=>0
def sW:List (List T)→Prop:=fun xs=>∀ x∈xs,∃ n,x = [.v (.int .u8 n)]
def CX(E:Env)(src dst:TypeId)(x:V)(d:Option Nat)(a:List Ans):Cmd Out :=
 match E.ty src,E.ty dst with
 |some s,some t=>match s.d,t.d,x with
  |_,.int k,.t (.v (.int _ n))=>match a with|.i r :: a=>.ret (.t (.v (.int k r)),a,k.wrap n = r)|_=>.fail
  |_,.str,.t (.v (.string s))=>.ret (.s s,a,True)
  |.str,.slice e,.t (.v (.string s))=>match E.ty e,d with
   |some ⟨.int .u8,_,_⟩,some d=>(fT d [.own [false] (cN s)]).bind fun _=>.ret (.ref ⟨d,none,0⟩,a,s.size≤1099511627776)
   |_,_=>.fail
  |.slice e,.str,x=>match E.ty e with
   |some ⟨.int .u8,_,_⟩=>(BA x a).bind fun((k0,xs0),a,p)=>match a with
    |.s r :: a=>.ret (.s r,a,p∧sW xs0∧r = ⟨(bZ xs0).toArray⟩)
    |_=>.fail
   |_=>.fail
  |_,_,_=>.fail
 |_,_=>.fail
def aaq(op:UnOp)(x:V)(a:List Ans):Cmd Out :=
 match op,x with
 |.not,.t (.v (.bool b))=>.ret (.b (!b),a,True)
 |.neg,.t (.v (.int k n))=>match a with|.i r :: a=>.ret (.t (.v (.int k r)),a,k.wrap (0 - n) = r)|_=>.fail
 |_,_=>.fail
/-! ### Memory -/
def Q4:V→V
 |.own _ _=>.nils
 |x=>x
def IH(ty:Ty)(x:V)(a:List Ans):Cmd Out :=
 match x with
 |.ptr ⟨r,none,o⟩=>(mh r o ty.size).bind fun cs=>(Uy ty.agg cs).bind fun v=>.ret (v,a,True)
 |.ptr ⟨r,some (c9,i9,s9),o⟩=>match a with
  |.x el :: a=>(Ab r c9).bind fun(k0,xs0)=>(ib (Nat.ble (o+ty.size) el.length && Nat.beq k0.length s9)).bind fun _ =>
   (Uy ty.agg (C8 r (c9,i9,s9) o ((el.drop o).take ty.size))).bind fun v=>.ret (v,a,xs0[i9]? = some el)
  |_=>.fail
 |.iptr cs=>(ib (Nat.ble ty.size cs.length)).bind fun _=>(Uy ty.agg ((cs.take ty.size).map .t)).bind fun v=>.ret (v,a,True)
 |_=>.fail
def NF(ty:Ty)(x v:V)(a:List Ans):Cmd Out :=
 (ib (Nat.beq (cellsOf v).length ty.size)).bind fun _ =>
 match x with
 |.ptr ⟨r,none,o⟩=>(inR r (o+ty.size)).bind fun _=>(nl r o (cellsOf v) ty.zc a).bind fun(xs,a,p)=>(jz r o xs).bind fun _=>.ret (.undef,a,p)
 |.ptr ⟨r,some (c9,i9,s9),o⟩=>match a with
  |.x el :: a=>(Up (cellsOf v) ty.zc a).bind fun(xs,a,p)=>(Ab r c9).bind fun(k0,xs0) =>
   (ib (bT k0 (aM el o xs) && Nat.ble (o+ty.size) el.length && Nat.beq k0.length s9)).bind fun _ =>
   (qI r c9 o ty.kd).bind fun _ =>
   .wr (.rc r c9 (.own k0 (xs0.set i9 (aM el o xs)))) (.ret (.undef,a,p∧xs0[i9]? = some el))
  |_=>.fail
 |_=>.fail
def Wy(d:Nat):Nat→List V→Cmd Unit
 |_,[]=>.ret ()
 |o,.al r c :: cs=>.wr (.rc d o (.al r c)) (Wy d (o+1) cs)
 |o,_ :: cs=>Wy d (o+1) cs
def boxV(ty:Ty)(v:V)(d:Option Nat)(a:List Ans):Cmd Out :=
 match d with
 |some d=>(ib (Nat.beq (cellsOf v).length ty.size)).bind fun _ =>
  -- the content first: it may come from what stood under this number
  (toCellsB ty.zc (cellsOf v) a).bind fun(cs,a,p)=>(fT d cs).bind fun _=>(Wy d 0 (cellsOf v)).bind fun _=>.ret (.ptr ⟨d,none,0⟩,a,p)
 |none=>.fail
where
 toCells:List V→List V→List Ans→Cmd (List V×List Ans×Prop)
  |_,[],a=>.ret ([],a,True)
  |z :: zs,c :: cs,a=>(ov z c a).bind fun(x,a,p)=>(toCells zs cs a).bind fun(xs,a,p')=>.ret (x :: xs,a,p∧p')
  |[],_ :: _,_=>.fail
 toCellsB:List V→List V→List Ans→Cmd (List V×List Ans×Prop)
  |_,[],a=>.ret ([],a,True)
  |_ :: zs,.al _ _ :: cs,a=>(toCellsB zs cs a).bind fun(xs,a,p')=>.ret (.undef :: xs,a,p')
  |z :: zs,c :: cs,a=>(ov z c a).bind fun(x,a,p)=>(toCellsB zs cs a).bind fun(xs,a,p')=>.ret (x :: xs,a,p∧p')
  |[],_ :: _,_=>.fail
def NX(ty:Ty)(d:Option Nat)(a:List Ans):Cmd Out :=
 match d with
 |some d=>(fT d ty.zc).bind fun _=>.ret (.ptr ⟨d,none,0⟩,a,True)
 |none=>.fail
def K1:V→Bool|.undef=>false|.ref ⟨_,some _,_⟩=>false|.sub _ _ _=>false|_=>true
def RU(E:Env):List (Nat×TypeId)→Bool
 |[]=>true
 |(_,t) :: fs=>match E.ty t with|some _=>RU E fs|none=>false
def over:List V→List V→List V
 |[],cs=>cs
 |v :: vs,[]=>v :: vs
 |v :: vs,_ :: cs=>v :: over vs cs
def Iz:Nat→List V→List V→List V
 |0,vs,cs=>over vs cs
 |_+1,vs,[]=>vs
 |n+1,vs,c :: cs=>c :: Iz n vs cs
def Di(E:Env)(fs:List (Nat×TypeId))(n:Nat):List (Nat×V)→List V→Option (List V)
 |[],cs=>some cs
 |(i,v) :: ps,cs=>match fs[i]? with
  |some (off,ft)=>match E.ty ft with
   |some fty=>match Nat.beq (cellsOf v).length fty.size && Nat.ble (off+fty.size) n && K1 v with
    |true=>Di E fs n ps (Iz off (cellsOf v) cs)
    |false=>none
   |none=>none
  |none=>none
def NV(E:Env)(ty:Ty)(ps:List (Nat×V))(a:List Ans):Cmd Out :=
 match ty.d with
 |.struct fs=>match Di E fs ty.zc.length ps (ty.zc.map Q4),RU E fs with
  |some cs,true=>.ret (.agg cs,a,True)
  |_,_=>.fail
 |_=>.fail
def EF(ety:Ty):Nat→List (Nat×V)→List Ans→Cmd (List (List T)×List Ans×Prop)
 |_,[],a=>.ret ([],a,True)
 |i,(j,v) :: ps,a=>(ib (Nat.beq i j)).bind fun _=>(Up (cellsOf v) ety.zc a).bind fun(x,a,p)=>(ib (bT ety.kd x)).bind fun _ =>
  (EF ety (i+1) ps a).bind fun(xs,a,p')=>.ret (x :: xs,a,p∧p')
def pk(E:Env)(ty:Ty)(n:Nat)(ps:List (Nat×V))(d:Option Nat)(a:List Ans):Cmd Out :=
 match ty.d,d with
 |.slice e,some d=>match E.ty e with
  |some ety=>(ib (Nat.beq ps.length n && Nat.ble (n * ety.size) 16777216)).bind fun _=>(EF ety 0 ps a).bind fun(xs,a,p) =>
   (fT d [.own ety.kd xs]).bind fun _=>.ret (.ref ⟨d,none,0⟩,a,p)
  |none=>.fail
 |_,_=>.fail
def sz(E:Env)(ty:Ty)(l c:V)(d:Option Nat)(a:List Ans):Cmd Out :=
 match ty.d,d,l,c,a with
 |.slice e,some d,.t (.v (.int .i64 l)),.t (.v (.int .i64 c)),.n m :: a=>match E.ty e with
  |some ety=>(fT d [.own ety.kd (List.replicate m (ety.zc.map zT))]).bind fun _ =>
   .ret (.ref ⟨d,none,0⟩,a,l = m∧c = m∧m * ety.bytes≤1099511627776)
  |none=>.fail
 |_,_,_,_,_=>.fail
def D0(kx:Kx)(k:List Bool):Bool:=Ck kx.1 k||match kx.2 with|[]=>true|_=>false
def aar(ety tx:Ty)(x:V)(a:List Ans):Cmd (List (List T)×List Ans×Prop) :=
 match tx.d,x with
 |.str,.t (.v (.string u))=>(ib (Ck ety.kd [false])).bind fun _=>.ret (cN u,a,True)
 |.slice _,x=>match Ln ety.kd with
  |true=>(BA x a).bind fun((k0,xs0),a,p)=>(ib (D0 (k0,xs0) ety.kd)).bind fun _=>.ret (xs0,a,p)
  |false=>(kO x a).bind fun((k0,xs0),a,p)=>(ib (D0 (k0,xs0) ety.kd)).bind fun _=>.ret (xs0,a,p)
 |_,_=>.fail
def Ik(E:Env)(ty tx:Ty)(s x:V)(d:Option Nat)(a:List Ans):Cmd Out :=
 match ty.d,d with
 |.slice e,some d=>match E.ty e with
  |some ety=>(aar ety tx x a).bind fun(ys,a,p) =>
   match s with
   |.nils=>(fT d [.own ety.kd ys]).bind fun _=>.ret (.ref ⟨d,none,0⟩,a,p∧ys.length * ety.bytes≤1099511627776)
   |s=>(kO s a).bind fun((k0,xs0),a,p')=>(ib (Ck k0 ety.kd)).bind fun _=>(fT d [.own ety.kd (xs0++ys)]).bind fun _ =>
    .ret (.ref ⟨d,none,0⟩,a,p∧p'∧(xs0.length+ys.length) * ety.bytes≤1099511627776)
  |none=>.fail
 |_,_=>.fail
def aat(ty:Ty)(x:V)(a:List Ans):Cmd Out :=
 match ty.d,x with
 |.str,.t (.v (.string s))=>.ret (.i s.size,a,True)
 |.slice _,x=>(BA x a).bind fun((k0,xs0),a,p)=>.ret (.i xs0.length,a,p)
 |_,_=>.fail
def sG(E:Env)(ty:Ty)(x:V)(f:Nat)(a:List Ans):Cmd Out :=
 match ty.d with
 |.struct fs=>match fs[f]? with
  |some (off,ft)=>match E.ty ft with
   |some fty=>(ib (Nat.ble 1 fty.size)).bind fun _=>match x with
    |.ptr ⟨r,st,o⟩=>.ret (.ptr ⟨r,st,o+off⟩,a,True)
    |.iptr cs=>.ret (.iptr (cs.drop off),a,True)
    |_=>.fail
   |none=>.fail
  |none=>.fail
 |_=>.fail
def NR(E:Env)(ty:Ty)(x:V)(f:Nat)(a:List Ans):Cmd Out :=
 match ty.d,x with
 |.struct fs,.agg cs=>match fs[f]? with
  |some (off,ft)=>match E.ty ft with
   |some fty=>(ib (Nat.ble (off+fty.size) cs.length)).bind fun _=>(Uy fty.agg ((cs.drop off).take fty.size)).bind fun v=>.ret (v,a,True)
   |none=>.fail
  |none=>.fail
 |_,_=>.fail
def sE(E:Env)(ty:Ty)(x i:V)(a:List Ans):Cmd Out :=
 match ty.d,i with
 |.slice e,.t (.v (.int .i64 i))=>match E.ty e with
  |some ety=>match x,a with
   |.t (.slc k xs),.x el :: a=>(ib (Ck k ety.kd)).bind fun _=>.ret (.iptr el,a,0≤i∧xs[i.toNat]? = some el)
   |.ref ⟨r,none,c⟩,.n m :: a=>(Ab r c).bind fun(k0,xs0)=>(ib (Ck k0 ety.kd)).bind fun _ =>
    .ret (.ptr ⟨r,some (c,m,ety.size),0⟩,a,i = m∧m < xs0.length)
   |.sub ⟨r,none,c⟩ lo hi,.n m :: a=>(Ab r c).bind fun(k0,xs0)=>(ib (Ck k0 ety.kd)).bind fun _ =>
    .ret (.ptr ⟨r,some (c,lo+m,ety.size),0⟩,a,i = m∧lo+m < hi∧hi≤xs0.length)
   |_,_=>.fail
  |none=>.fail
 |_,_=>.fail
def NO(ty:Ty)(x i:V)(a:List Ans):Cmd Out :=
 match ty.d,x,i,a with
 |.str,.t (.v (.string s)),.t (.v (.int .i64 i)),.i n :: a=>.ret (.t (.v (.int .u8 n)),a,0≤i∧(s[i.toNat]?).map (fun b=>(b.toNat:Int)) = some n)
 |_,_,_,_=>.fail
def zZ(dflt:Nat):Option V→List Ans→Option (Nat×List Ans×Prop)
 |none,a=>some (dflt,a,True)
 |some (.t (.v (.int .i64 n))),.n m :: a=>some (m,a,n = m)
 |_,_=>none
def Da(E:Env)(ty:Ty)(x:V)(lo hi mx:Option V)(a:List Ans):Cmd Out :=
 match mx with
 |some _=>.fail
 |none=>match ty.d,x with
  |.str,.t (.v (.string s))=>match zZ s.size hi a with
   |some (h,a,p)=>match zZ 0 lo a with
    |some (l,a,p')=>match a with
     |.s r :: a=>.ret (.s r,a,p∧p'∧l≤h∧h≤s.size∧s.extract l h = r)
     |_=>.fail
    |none=>.fail
   |none=>.fail
  |.slice e,x=>match E.ty e with
   |some ety=>(BA x a).bind fun((k0,xs0),a,p0)=>(ib (Ck k0 ety.kd)).bind fun _ =>
    match zZ xs0.length hi a with
    |some (h,a,p)=>match zZ 0 lo a with
     |some (l,a,p')=>match x with
      |.t (.slc k xs)=>.ret (.t (.slc k ((xs.take h).drop l)),a,p0∧p∧p'∧l≤h∧h≤xs.length)
      |.ref ⟨r,none,c⟩=>.ret (.sub ⟨r,none,c⟩ l h,a,p0∧p∧p'∧l≤h∧h≤xs0.length)
      |_=>.fail
     |none=>.fail
    |none=>.fail
   |none=>.fail
  |_,_=>.fail
def CN(d:Option Nat)(a:List Ans):Cmd Out :=
 match d with
 |some d=>.wr (.kl (.root d)) (.wr (.mp d []) (.ret (.mref d,a,True)))
 |none=>.fail
def Ri(E:Env)(kt:TypeId):V→Option Value
 |.t (.v (.int .i64 n))=>match E.ty kt with|some ⟨.int .i64,_,_⟩=>some (.int .i64 n)|_=>none
 |.t (.v (.string s))=>match E.ty kt with|some ⟨.str,_,_⟩=>some (.string s)|_=>none
 |_=>none
def kin:Value→Value→Prop
 |.int k _,.int k' _=>k = k'
 |.string _,.string _=>True
 |_,_=>False
def Y8(m:Nat):Cmd (List Value):=.mp m fun|some ks=>.ret ks|none=>.fail
def H9(E:Env)(ty:Ty)(x k:V)(ok:Bool)(a:List Ans):Cmd Out :=
 match ty.d,x,ok,a with
 |.map kt et,.mref m,false,.b r :: a=>match Ri E kt k,E.ty et with
  |some key,some ⟨.bool,[.t (.v (.bool false))],_⟩=>(Y8 m).bind fun ks=>.ret (.b r,a,((key∈ks)↔r = true)∧∀ x∈ks,kin key x)
  |_,_=>.fail
 |_,_,_,_=>.fail
def sy(E:Env)(ty:Ty)(x k v:V)(a:List Ans):Cmd Out :=
 match ty.d,x,v with
 |.map kt _,.mref m,.t (.v (.bool true))=>match Ri E kt k with
  |some key=>(Y8 m).bind fun ks=>.wr (.mp m (ks++ [key])) (.ret (.undef,a,∀ x∈ks,kin key x))
  |none=>.fail
 |_,_,_=>.fail
def xf(x:V)(a:List Ans):Cmd Out :=
 match x with
 |.ptr p=>.ret (.ptr p,a,True)
 |_=>.fail
def CU(x:V)(i:Nat)(a:List Ans):Cmd Out :=
 match x with
 |.tup vs=>match vs[i]? with|some v=>.ret (v,a,True)|none=>.fail
 |_=>.fail
def WE(c x y:V)(a:List Ans):Cmd Out :=
 match c,a with
 |.t (.v (.bool c)),.b r :: a=>.ret (match r with|true=>x|false=>y,a,c = r)
 |_,_=>.fail
def B0(mx:Bool)(x y:V)(a:List Ans):Cmd Out :=
 match x,y,a with
 |.t (.v (.int .i64 x)),.t (.v (.int .i64 y)),.i r :: a=>.ret (.i r,a,r = match mx with|true=>max x y|false=>min x y)
 |_,_,_=>.fail
/-! ### Calls -/
inductive A where
 |val (v:V)
 |ptr (cells:List V)
 |rel (j:Nat) (step:Option (Nat×Nat×Nat)) (off:Nat)
 |bor (v:V)
inductive Md where
 |v|mv|b|p
 |r (j:Nat)
def NU(z:V):V→List Ans→Cmd (V×List Ans×Prop)
 |.t x,a=>.ret (.t x,a,True)
 |.nils,a=>match z with|.own k _=>.ret (.t (.slc k []),a,True)|_=>.fail
 |x,a=>(BA x a).bind fun((k0,xs0),a,p)=>.ret (.t (.slc k0 xs0),a,p)
def oG(x:V)(cs:List V):V:=match x with|.agg _=>.agg cs|_=>match cs with|c :: _=>c|[]=>.undef
def Cn:List V→List V→List Ans→Cmd (List V×List Ans×Prop)
 |[],[],a=>.ret ([],a,True)
 |z :: zs,c :: cs,a=>(NU z c a).bind fun(x,a,p)=>(Cn zs cs a).bind fun(xs,a,p')=>.ret (x :: xs,a,p∧p')
 |_,_,_=>.fail
def Y0(ty:Ty)(x:V)(a:List Ans):Cmd (V×List Ans×Prop) :=
 (Cn ty.zc (cellsOf x) a).bind fun(xs,a,p)=>.ret (oG x xs,a,p)
def Fv(ty:Ty)(x:V)(a:List Ans):Cmd (V×List Ans×Prop) :=
 (boxV.toCells ty.zc (cellsOf x) a).bind fun(xs,a,p)=>.ret (oG x xs,a,p)
def takeCells(r:Nat):Nat→Nat→Cmd (List V)
 |_,0=>.ret []
 |o,n+1=>.rc r o fun c=>match c with
  |.own k xs=>.wr (.rc r o .undef) ((takeCells r (o+1) n).bind fun cs=>.ret (.own k xs :: cs))
  |.t x=>(takeCells r (o+1) n).bind fun cs=>.ret (.t x :: cs)
  |_=>.fail
def oE:List T→List T
 |[]=>[]
 |.v x :: cs=>.v x :: oE cs
 |_ :: cs=>.hole :: oE cs
def WB:T→V
 |.slc k xs=>.own k xs
 |.v x=>.t (.v x)
 |.hole=>.undef
def Ux(E:Env)(t:TypeId):Option Ty:=match E.ty t with
 |some ty=>match ty.d with
  |.ptr e=>E.ty e
  |_=>some ty
 |none=>none
def Zu(E:Env)(x:V)(t:TypeId):Option Ty:=match x with|.agg _=>Ux E t|_=>E.ty t
def aaA(E:Env)(m:Md)(x:V)(t:TypeId)(a:List Ans):Cmd (Option A×List Ans×Prop) :=
 match m with
 |.mv=>match Zu E x t with|some ty=>(Fv ty x a).bind fun(v,a,p)=>.ret (some (.val v),a,p)|none=>.fail
 |.b=>match E.ty t with|some ty=>(Fv ty x a).bind fun(v,a,p)=>.ret (some (.bor v),a,p)|none=>.fail
 |_=>.ret (none,a,True)
def RS(E:Env):List Md→List V→List TypeId→List Ans→Cmd (List (Option A)×List Ans×Prop)
 |[],[],[],a=>.ret ([],a,True)
 |m :: ms,x :: xs,t :: ts,a=>(aaA E m x t a).bind fun(y,a,p)=>(RS E ms xs ts a).bind fun(ys,a,p')=>.ret (y :: ys,a,p∧p')
 |_,_,_,_=>.fail
def WL(ety:Ty)(x:V)(a:List Ans):Cmd (A×List Ans×Prop) :=
 match x with
 |.ptr ⟨r,none,o⟩=>(inR r (o+ety.size)).bind fun _=>(takeCells r o ety.size).bind fun cs=>.ret (.ptr cs,a,True)
 |.ptr ⟨r,some (c,i,s),o⟩=>match a with
  |.x el :: a=>(Ab r c).bind fun(k0,xs0)=>(ib (Nat.beq o 0 && Nat.beq el.length ety.size && Nat.beq k0.length s)).bind fun _ =>
   .wr (.rc r c (.own k0 (xs0.set i (oE el)))) (.ret (.ptr (el.map WB),a,xs0[i]? = some el))
  |_=>.fail
 |_=>.fail
def Ww(E:Env):List Md→List V→List TypeId→List (Option A)→List Ans→Cmd (List (Option A)×List Ans×Prop)
 |[],_,_,ys,a=>.ret (ys,a,True)
 |.p :: _,x :: _,t :: _,none :: ys,a=>match Ux E t with
  |some ety=>(WL ety x a).bind fun(y,a,p)=>.ret (some y :: ys,a,p)
  |none=>.fail
 |.p :: _,_,_,_,_=>.fail
 |_ :: ms,_ :: xs,_ :: ts,y :: ys,a=>(Ww E ms xs ts ys a).bind fun(ys,a,p)=>.ret (y :: ys,a,p)
 |_,_,_,_,_=>.fail
def noP:List Md→Bool
 |[]=>true
 |.p :: _=>false
 |_ :: ms=>noP ms
def Y4:List Md→Bool
 |[]=>true
 |.p :: ms=>noP ms
 |_ :: ms=>Y4 ms
def kA(r c:Nat):V→Bool
 |.ref ⟨r',none,c'⟩=>Nat.beq r' r && Nat.beq c' c
 |.ref ⟨r',some (c',_,_),_⟩=>Nat.beq r' r && Nat.beq c' c
 |.sub ⟨r',none,c'⟩ _ _=>Nat.beq r' r && Nat.beq c' c
 |_=>false
def va(r c:Nat):List Md→List V→Bool
 |.v :: ms,x :: xs=>!(cellsOf x).any (kA r c) && va r c ms xs
 |_ :: ms,_ :: xs=>va r c ms xs
 |_,_=>true
def DZ:List Md→List V→Option (Nat×Nat)
 |.p :: _,.ptr ⟨r,some (c,_,_),_⟩ :: _=>some (r,c)
 |_ :: ms,_ :: xs=>DZ ms xs
 |_,_=>none
def U2(ms:List Md)(xs:List V):Bool:=match DZ ms xs with|some (r,c)=>va r c ms xs|none=>true
def Wx(E:Env)(all:List V)(ys:List (Option A))(m:Md)(y:Option A)(x:V)(t:TypeId)(a:List Ans):Cmd (A×List Ans×Prop) :=
 match y with
 |some y=>.ret (y,a,True)
 |none=>match m with
  |.v=>match Zu E x t with
   |some ty=>(Y0 ty x a).bind fun(v,a,p)=>.ret (.val v,a,p)
   |none=>.fail
  |.r j=>match x,all[j]?,ys[j]? with
   |.ptr ⟨r,some (c,i,s),o⟩,some (.ptr ⟨r',none,o'⟩),some (some (.ptr cs))=>(ib (Nat.beq r r' && Nat.ble o' c && Nat.blt c (o'+cs.length))).bind fun _=>.ret (.rel j (some (c - o',i,s)) o,a,True)
   |.ptr ⟨r,none,o⟩,some (.ptr ⟨r',none,o'⟩),some (some (.ptr cs))=>(ib (Nat.beq r r' && Nat.ble o' o)).bind fun _=>.ret (.rel j none (o - o'),a,True)
   |_,_,_=>.fail
  |_=>.fail
def I0(E:Env)(all:List V)(ys0:List (Option A)):List Md→List (Option A)→List V→List TypeId→List Ans→Cmd (List A×List Ans×Prop)
 |[],[],[],[],a=>.ret ([],a,True)
 |m :: ms,y :: ys,x :: xs,t :: ts,a=>(Wx E all ys0 m y x t a).bind fun(y,a,p) =>
  (I0 E all ys0 ms ys xs ts a).bind fun(ys,a,p')=>.ret (y :: ys,a,p∧p')
 |_,_,_,_,_=>.fail
def OK:V→Option T
 |.own k xs=>some (.slc k xs)
 |.t (.v x)=>some (.v x)
 |_=>none
def pB:List V→Option (List T)
 |[]=>some []
 |c :: cs=>match OK c,pB cs with|some x,some xs=>some (x :: xs)|_,_=>none
def bQ:V→Bool
 |.t _=>true
 |.own _ _=>true
 |_=>false
def H5(r c:Nat):V→Bool
 |.ref ⟨_,none,_⟩=>true
 |.ref ⟨r',some (c',_,_),_⟩=>!(Nat.beq r' r && Nat.beq c' c)
 |.t _=>true
 |.nils=>true
 |_=>false
def jH:List V→List V→List Ans→Cmd (List Ans×Prop)
 |[],[],a=>.ret (a,True)
 |.ref ⟨r,none,c⟩ :: vs,.own k xs :: cs,a=>(ib (vs.all (H5 r c))).bind fun _=>.rc r c fun
  |.undef=>.wr (.kl (.refs r c)) (.wr (.rc r c (.own k xs)) (jH vs cs a))
  |_=>.fail
 |.ref ⟨r,some (c,i,s),o⟩ :: vs,.own k ys :: cs,.x el :: a=>(Ab r c).bind fun(k0,xs0)=>(ib (Nat.blt o el.length && bT k0 (el.set o (.slc k ys)))).bind fun _ =>
  .wr (.kl (.deep r c o)) (.wr (.rc r c (.own k0 (xs0.set i (el.set o (.slc k ys))))) ((jH vs cs a).bind fun(a,p)=>.ret (a,xs0[i]? = some el∧p)))
 |.nils :: vs,.own _ [] :: cs,a=>jH vs cs a
 |.t _ :: vs,.t _ :: cs,a=>jH vs cs a
 |_,_,_=>.fail
def KC:V→V→Bool
 |.agg _,.agg _=>true
 |.agg _,_=>false
 |_,.agg _=>false
 |_,_=>true
def Wq:List A→List V→List (List V)→Option (List V×List V)
 |[],_,_=>some ([],[])
 |.bor v :: as,x :: xs,cs :: os=>match KC v x,Wq as xs os with
  |true,some (vs,ds)=>some (cellsOf x++vs,cs++ds)
  |_,_=>none
 |_ :: as,_ :: xs,_ :: os=>Wq as xs os
 |_,_,_=>none
def ou:List A→List V→List (List V)→List Ans→Cmd (List Ans×Prop)
 |[],_,_,a=>.ret (a,True)
 |.ptr _ :: _,.ptr ⟨r,none,o⟩ :: _,cs :: _,a=>(inR r (o+cs.length)).bind fun _=>(ib (cs.all bQ)).bind fun _=>(jz r o (cs.map some)).bind fun _=>.ret (a,True)
 |.ptr _ :: _,.ptr ⟨r,some (c,i,s),o⟩ :: _,cs :: _,.x el :: a=>match pB cs with
  |some el'=>(Ab r c).bind fun(k0,xs0)=>(ib (bT k0 el' && bT k0 el && Nat.beq o 0 && Nat.beq k0.length s)).bind fun _=>(qI r c 0 k0).bind fun _ =>
   .wr (.rc r c (.own k0 (xs0.set i el'))) (.ret (a,xs0[i]? = some el))
  |none=>.fail
 |.ptr _ :: _,_,_,_=>.fail
 |_ :: as,_ :: xs,_ :: os,a=>ou as xs os a
 |_ :: _,_,_,_=>.fail
def bR(d:Nat):Nat→List V→List V
 |_,[]=>[]
 |o,.own _ _ :: cs=>.ref ⟨d,none,o⟩ :: bR d (o+1) cs
 |o,c :: cs=>c :: bR d (o+1) cs
def sC(d o:Nat)(v:V):V:=oG v (bR d o (cellsOf v))
def vO(d:Nat):Nat→List V→List V
 |_,[]=>[]
 |o,v :: vs=>sC d o v :: vO d (o+ (cellsOf v).length) vs
def CH:V→List V
 |.tup [.tup cs]=>cs
 |.tup vs=>vs.flatMap cellsOf
 |v=>cellsOf v
def Ib(d:Option Nat)(args:List V)(res:V):Cmd V :=
 match res with
 |.t x=>.ret (.t x)
 |.tup []=>.ret .undef
 |.ptr ⟨j,st,o⟩=>match args[j]?,st with
  |some (.ptr ⟨r,none,o'⟩),none=>.ret (.ptr ⟨r,none,o'+o⟩)
  |some (.ptr ⟨r,none,o'⟩),some (c,i,s)=>(inR r (o'+c+1)).bind fun _=>.ret (.ptr ⟨r,some (o'+c,i,s),o⟩)
  |_,_=>.fail
 |.tup [.tup cs]=>match d with
  |some d=>(fT d cs).bind fun _=>.ret (.ptr ⟨d,none,0⟩)
  |none=>.fail
 |.tup vs=>match d with
  |some d=>(ib (vs.all fun v=>(cellsOf v).all bQ)).bind fun _=>(fT d (vs.flatMap cellsOf)).bind fun _=>.ret (.tup (vO d 0 vs))
  |none=>.fail
 |v=>match d with
  |some d=>(ib ((cellsOf v).all bQ)).bind fun _=>(fT d (cellsOf v)).bind fun _=>.ret (sC d 0 v)
  |none=>.fail
def zV:V→Bool
 |.t (.slc _ _)=>true
 |_=>false
def IP(res:V)(outs:List (List V)):Bool:=(CH res).any zV||outs.any (fun cs=>cs.any zV)
def ls:V→Bool
 |.ref _=>true
 |.sub _ _ _=>true
 |_=>false
def nu:List Md→List V→Bool
 |.v :: ms,x :: xs=>(cellsOf x).any ls||nu ms xs
 |_ :: ms,_ :: xs=>nu ms xs
 |_,_=>false
def Zt(as:List A)(xs:List V)(res:V)(outs:List (List V))(d:Option Nat)(a:List Ans):Cmd Out :=
 match Wq as xs outs with
 |none=>.fail
 |some (vs,ds)=>(jH vs ds a).bind fun(a,p3)=>(ou as xs outs a).bind fun(a,p4)=>(Ib d xs res).bind fun v=>.ret (v,a,p3∧p4)
def Zp(E:Env)(F:FuncId→List A→V→List (List V)→Prop)(md:FuncId→List Md)(f:FuncId)(xs:List V)(ts:List TypeId)(d:Option Nat)(a:List Ans):Cmd Out :=
 (RS E (md f) xs ts a).bind fun(ys,a,p)=>(ib (Y4 (md f) && U2 (md f) xs)).bind fun _=>(Ww E (md f) xs ts ys a).bind fun(ys,a,p0)=>(I0 E xs ys (md f) ys xs ts a).bind fun(as,a,p') =>
 match a with
 |.call res outs :: a=>(ib (!(IP res outs && nu (md f) xs))).bind fun _=>(Zt as xs res outs d a).bind fun(v,a,p3)=>.ret (v,a,p∧p0∧p'∧p3∧F f as res outs)
 |_=>.fail
/-! ### An operation -/
structure Cx where
 E:Env
 F:FuncId→List A→V→List (List V)→Prop
 md:FuncId→List Md
 sq:TypeId→Bool
def Oj:List Operand→Cmd (List V)
 |[]=>.ret []
 |x :: xs=>(rdO x).bind fun v=>(Oj xs).bind fun vs=>.ret (v :: vs)
def MD:Option Operand→Cmd (Option V)
 |none=>.ret none
 |some x=>(rdO x).bind fun v=>.ret (some v)
def XH:List (Nat×Operand)→Cmd (List (Nat×V))
 |[]=>.ret []
 |(i,x) :: xs=>(rdO x).bind fun v=>(XH xs).bind fun vs=>.ret ((i,v) :: vs)
def eb{α:Type}(E:Env)(t:TypeId)(k:Ty→Cmd α):Cmd α:=match E.ty t with|some ty=>k ty|none=>.fail
def MX(d:Option Nat)(x:Out):Cmd Out :=
 match x with
 |(v,.g :: a,p)=>match d with
  |some d=>(kO v a).bind fun((k,xs),a,q)=>(fT d [.own k xs]).bind fun _=>.ret (.ref ⟨d,none,0⟩,a,p∧q)
  |none=>.fail
 |x=>.ret x
def fz(C:Cx)(o:Oper)(a:List Ans):Cmd Out :=
 match o.op with
 |.move x|.assign x=>(rdO x).bind fun v=>.ret (v,a,True)
 |.pick c x y=>(rdO c).bind fun c=>(rdO x).bind fun x=>(rdO y).bind fun y=>WE c x y a
 |.alloc e=>eb C.E e fun ty=>NX ty o.dst a
 |.box e x=>eb C.E e fun ty=>(rdO x).bind fun v=>boxV ty v o.dst a
 |.build t ps=>eb C.E t fun ty=>(XH ps.toList).bind fun vs=>NV C.E ty vs a
 |.buildSlice t n ps=>eb C.E t fun ty=>(XH ps.toList).bind fun vs=>pk C.E ty n vs o.dst a
 |.load t x=>eb C.E t fun ty=>(rdO x).bind fun v=>(IH ty v a).bind fun x=>MX o.dst x
 |.store t x y=>eb C.E t fun ty=>(rdO x).bind fun x=>(rdO y).bind fun y=>NF ty x y a
 |.nilCheck x=>(rdO x).bind fun v=>xf v a
 |.binOp op t x y _=>(rdO x).bind fun x=>(rdO y).bind fun y=>Wu C.E C.sq op t x y a
 |.unOp op _ x=>(rdO x).bind fun v=>aaq op v a
 |.convert s t x=>(rdO x).bind fun v=>CX C.E s t v o.dst a
 |.makeMap _ none=>CN o.dst a
 |.makeSlice t l c=>eb C.E t fun ty=>(rdO l).bind fun l=>(rdO c).bind fun c=>sz C.E ty l c o.dst a
 |.slice t x lo hi mx=>eb C.E t fun ty=>(rdO x).bind fun x=>(MD lo).bind fun lo=>(MD hi).bind fun hi=>(MD mx).bind fun mx=>Da C.E ty x lo hi mx a
 |.fieldAddr t x f=>eb C.E t fun ty=>(rdO x).bind fun v=>sG C.E ty v f a
 |.field t x f=>eb C.E t fun ty=>(rdO x).bind fun v=>NR C.E ty v f a
 |.indexAddr t x i=>eb C.E t fun ty=>(rdO x).bind fun x=>(rdO i).bind fun i=>sE C.E ty x i a
 |.index t x i=>eb C.E t fun ty=>(rdO x).bind fun x=>(rdO i).bind fun i=>NO ty x i a
 |.lookup t x k ok=>eb C.E t fun ty=>(rdO x).bind fun x=>(rdO k).bind fun k=>H9 C.E ty x k ok a
 |.mapUpdate t x k v=>eb C.E t fun ty=>(rdO x).bind fun x=>(rdO k).bind fun k=>(rdO v).bind fun v=>sy C.E ty x k v a
 |.extract x i=>(rdO x).bind fun v=>CU v i a
 |.call ⟨.builtin .len,args,ts⟩=>match ts.toList with
  |[t]=>eb C.E t fun ty=>(Oj args.toList).bind fun|[x]=>aat ty x a|_=>.fail
  |_=>.fail
 |.call ⟨.builtin .append,args,ts⟩=>match ts.toList with
  |[t,u]=>eb C.E t fun ty=>eb C.E u fun tx=>(Oj args.toList).bind fun|[s,x]=>Ik C.E ty tx s x o.dst a|_=>.fail
  |_=>.fail
 |.call ⟨.builtin .max,args,_⟩=>(Oj args.toList).bind fun|[x,y]=>B0 true x y a|_=>.fail
 |.call ⟨.builtin .min,args,_⟩=>(Oj args.toList).bind fun|[x,y]=>B0 false x y a|_=>.fail
 |.call ⟨.value (.func f),args,ts⟩=>(Oj args.toList).bind fun xs=>Zp C.E C.F C.md f xs ts.toList o.dst a
 |_=>.fail
def wrO(nt:Nat)(d:Option Nat)(v:V):Cmd Unit:=match d with|some d=>(ib (Nat.blt d nt)).bind fun _=>.wr (.sl d v) (.ret ())|none=>.ret ()
def jn(C:Cx)(nt:Nat)(ops:Array Oper)(o:Oper)(a:List Ans):Cmd (List Ans×Prop) :=
 match o.guard with
 |none=>(fz C o a).bind fun(v,a,p)=>(wrO nt o.dst v).bind fun _=>.ret (a,p)
 |some (j,want)=>match(ops[j]?).bind (·.dst),a with
  |some t,.b r :: a=>.sl t fun
   |.t (.v (.bool c))=>match(match want,r with|true,true=>true|false,false=>true|_,_=>false)with
    |true=>(fz C o a).bind fun(v,a,p)=>(wrO nt o.dst v).bind fun _=>.ret (a,c = r∧p)
    |false=>(wrO nt o.dst (.tup [])).bind fun _=>.ret (a,c = r)
   |.tup []=>(wrO nt o.dst (.tup [])).bind fun _=>.ret (a,True)
   |_=>.fail
  |_,_=>.fail
def IW(C:Cx)(nt:Nat)(ops:Array Oper):List Oper→List Ans→Cmd Prop
 |[],[]=>.ret True
 |[],_ :: _=>.fail
 |o :: os,a=>(jn C nt ops o a).bind fun(a,p)=>(IW C nt ops os a).bind fun q=>.ret (p∧q)
end
end Go.Tm
namespace Go.Tm
abbrev Fp:=Nat→Nat→Prop
def Fp.none:Fp:=fun _ _=>False
def Fp.or(F G:Fp):Fp:=fun b o=>F b o∨G b o
def Fp.dis(F G:Fp):Prop:=∀ b o,F b o→G b o→False
def region(b off n:Nat):Fp:=fun b' o'=>b' = b∧off≤o'∧o' < off+n
inductive Ob where
 |tv (x:T) (v:Value)
 |cells (cs:List T) (b o:Nat)
 |elems (k:List Bool) (xs:List (List T)) (b o:Nat)
inductive RepI (w:World) (N:Fp):Ob→Prop where
 |v {x:Value} (h:sc x = true):RepI w N (.tv (.v x) x)
 |hole {y:Value} (h:y.oneCell' = true):RepI w N (.tv .hole y)
 |slc {k xs A cap b off} (ha:0 < xs.length * k.length→A = some ⟨b,off,.none⟩) (hc:xs.length≤cap) (h:RepI w N (.elems k xs b off)):RepI w N (.tv (.slc k xs) (.slice A xs.length cap))
 |nil {b o}:RepI w N (.cells [] b o)
 |cons {c cs b o y} (hy:w.cell? ⟨b,o,.none⟩ = some y) (hn:¬N b o) (h:RepI w N (.tv c y)) (t:RepI w N (.cells cs b (o+1))):RepI w N (.cells (c :: cs) b o)
 |enil {k b o}:RepI w N (.elems k [] b o)
 |econs {k x xs b o} (hk:bT k x = true) (h:RepI w N (.cells x b o)) (t:RepI w N (.elems k xs b (o+k.length))):RepI w N (.elems k (x :: xs) b o)
inductive RepO (w:World):Ob→Fp→Prop where
 |v {x:Value} (h:sc x = true):RepO w (.tv (.v x) x) Fp.none
 |hole {y:Value} (h:y.oneCell' = true):RepO w (.tv .hole y) Fp.none
 |slc {k xs A cap b off F} (ha:0 < cap * k.length→A = some ⟨b,off,.none⟩) (hc:xs.length≤cap)
  (hw:∀ i,i < cap * k.length→(w.cell? ⟨b,off+i,.none⟩).isSome = true∧w.frozen? ⟨b,off+i,.none⟩ = false)
  (h:RepO w (.elems k xs b off) F) (hd:Fp.dis (region b off (cap * k.length)) F) :
  RepO w (.tv (.slc k xs) (.slice A xs.length cap)) (Fp.or (region b off (cap * k.length)) F)
 |nil {b o}:RepO w (.cells [] b o) Fp.none
 |cons {c cs b o y F G} (hy:w.cell? ⟨b,o,.none⟩ = some y) (h:RepO w (.tv c y) F) (t:RepO w (.cells cs b (o+1)) G) (hd:Fp.dis F G):RepO w (.cells (c :: cs) b o) (Fp.or F G)
 |enil {k b o}:RepO w (.elems k [] b o) Fp.none
 |econs {k x xs b o F G} (hk:bT k x = true) (h:RepO w (.cells x b o) F) (t:RepO w (.elems k xs b (o+k.length)) G) (hd:Fp.dis F G):RepO w (.elems k (x :: xs) b o) (Fp.or F G)
inductive Base where
 |mem (b o:Nat)
 |tmp (vs:List Value)
 |par (vs:List Value)
def hd(w:World)(base:Nat→Base)(r c:Nat):Option Value :=
 match base r with
 |.mem b o=>w.cell? ⟨b,o+c,.none⟩
 |.tmp vs=>vs[c]?
 |.par vs=>vs[c]?
def InR(st:St)(r c:Nat):Prop:=∃ n,st.rn r = some n∧c < n
def PlaceAt(w:World)(base:Nat→Base)(st:St):Place→Nat→Nat→Prop
 |⟨r,.none,off⟩,b,o=>∃ o0,base r = .mem b o0∧o = o0+off
 |⟨r,some (c,i,s),off⟩,b,o=>InR st r c∧∃ o' len cap,hd w base r c = some (.slice (some ⟨b,o',.none⟩) len cap)∧o = o'+i * s+off
def j5(w:World)(base:Nat→Base)(st:St):Place→Value→Prop
 |⟨r,.none,c⟩,x=>InR st r c∧hd w base r c = some x∧∃ A l n,x = .slice A l n
 |⟨r,some (c,i,s),off⟩,x=>∀ k xs,st.rc r c = .own k xs→k[off]? = some true∧k.length = s∧i < xs.length∧∃ b o,PlaceAt w base st ⟨r,some (c,i,s),off⟩ b o∧w.cell? ⟨b,o,.none⟩ = some x
def sY(w:World)(base:Nat→Base)(st:St)(r c lo hi:Nat)(x:Value):Prop :=
 ∀ k xs,st.rc r c = .own k xs→lo≤hi∧hi≤xs.length∧∃ A cap,hd w base r c = some (.slice A xs.length cap)∧x = .slice (if cap = lo then A else A.map (·.add (lo * k.length))) (hi - lo) (cap - lo)
mutual
def RepS(w:World)(N:Fp)(base:Nat→Base)(mb:Nat→Nat)(st:St):V→Value→Prop
 |.t y,x=>RepI w N (.tv y x)
 |.nils,x=>x = .slice .none 0 0
 |.ref p,x=>j5 w base st p x
 |.sub ⟨r,.none,c⟩ lo hi,x=>sY w base st r c lo hi x
 |.sub ⟨_,some _,_⟩ _ _,_=>False
 |.ptr p,x=>∃ b o,PlaceAt w base st p b o∧x = .pointer (some ⟨b,o,.none⟩)
 |.iptr cs,x=>∃ b o,x = .pointer (some ⟨b,o,.none⟩)∧RepI w N (.cells cs b o)
 |.agg cs,x=>∃ xs,x = .agg xs.toArray∧RepSs w N base mb st cs xs
 |.tup vs,x=>∃ xs,x = .tuple xs.toArray∧RepSs w N base mb st vs xs
 |.mref m,x=>x = .map (some (mb m))
 |.al r c,x=>(∃ vs,base r = .par vs)∧j5 w base st ⟨r,none,c⟩ x
 |.undef,_=>True
 |.own _ _,_=>False
def RepSs(w:World)(N:Fp)(base:Nat→Base)(mb:Nat→Nat)(st:St):List V→List Value→Prop
 |[],[]=>True
 |c :: cs,x :: xs=>RepS w N base mb st c x∧RepSs w N base mb st cs xs
 |_,_=>False
end
inductive Ix where
 |cell (r c:Nat)
 |hdr (r:Nat)
 |map (m:Nat)
 |x
 deriving DecidableEq
structure G where
 P:Program
 w0:World
 N0:Fp
 X0:Fp
 nt:Nat
 b0:Nat→Base
def tot(F:Ix→Fp):Fp:=fun b o=>∃ i,F i b o
def CellOk(w:World)(N:Fp)(h:Option Value)(x:V)(F:Fp):Prop :=
 match x with
 |.t y=>(∃ v,h = some v∧RepI w N (.tv y v))∧∀ b o,¬F b o
 |.own k xs=>∃ v,h = some v∧RepO w (.tv (.slc k xs) v) F
 |.al _ _=>False
 |_=>∀ b o,¬F b o
def YR:V→V
 |.al _ _=>.undef
 |x=>x
def j6(w:World)(bs:Base)(n:Option Nat)(F:Fp):Prop :=
 match bs,n with
 |.mem b o,some n=>F = region b o n∧∀ c,c < n→(w.cell? ⟨b,o+c,.none⟩).isSome = true∧w.frozen? ⟨b,o+c,.none⟩ = false
 |_,_=>∀ b o,¬F b o
def I4(w:World)(b:Nat)(ks:Option (List Value))(F:Fp):Prop :=
 match ks with
 |some ks=>(F = fun b' _=>b' = b)∧∃ es cl,w.heap[b]? = some (.map es cl)∧(∀ x,x∈es.toList.map (·.key)↔x∈ks)∧∀ e∈es.toList,e.val = .bool true
 |none=>∀ b o,¬F b o
structure Frame (w0:World) (N0:Fp) (w:World):Prop where
 os:w.os = w0.os
 tape:w.tape = w0.tape
 output:w.output = w0.output
 size:w0.heap.size≤w.heap.size
 cell:∀ b o,b < w0.heap.size→¬N0 b o→w.cell? ⟨b,o,.none⟩ = w0.cell? ⟨b,o,.none⟩∧w.frozen? ⟨b,o,.none⟩ = w0.frozen? ⟨b,o,.none⟩
 block:∀ b,b < w0.heap.size→(∀ o,¬N0 b o)→w.heap[b]? = w0.heap[b]?
def Sb(base:Nat→Base)(h:Option Value)(x:V):Prop:=match x with
 |.al r c=>∃ vs v,base r = .par vs∧vs[c]? = some v∧h = some v∧∃ A l n,v = .slice A l n
 |_=>True
theorem CellOk.un{w:World}{N:Fp}{h:Option Value}{x:V}{F:Fp}(hc:CellOk w N h x F):CellOk w N h (YR x) F:=by
 cases x <;> first|exact hc|exact hc.elim
theorem CellOk.noal{w:World}{N:Fp}{h h':Option Value}{x:V}{F:Fp}{base:Nat→Base}(hc:CellOk w N h x F):Sb base h' x:=by
 cases x <;> first|trivial|exact hc.elim
structure Rel (g:G) (X:Fp) (st:St) (a:Act) (w:World) (base:Nat→Base) (mb:Nat→Nat) (F:Ix→Fp):Prop where
 nt:a.tmps.size = g.nt
 par:∀ r,g.nt≤r→base r = g.b0 r
 df:a.defers = []
 fx:F .x = Fp.or g.X0 X
 cell:∀ r c,CellOk w (tot F) (hd w base r c) (YR (st.rc r c)) (F (.cell r c))
 hdr:∀ r,j6 w (base r) (st.rn r) (F (.hdr r))
 map:∀ m,I4 w (mb m) (st.mp m) (F (.map m))
 dis:∀ i j,i≠j→Fp.dis (F i) (F j)
 fresh:∀ b o,tot F b o→g.X0 b o∨g.N0 b o∨g.w0.heap.size≤b
 ex:∀ b o,tot F b o→b < w.heap.size
 live:∀ r c,(∀ n,st.rn r = some n→n≤c)→st.rc r c = .undef
 slots:∀ i,RepS w (tot F) base mb st (st.sl i) (a.tmps.getD i Go.undef)
 frame:Frame g.w0 g.N0 w
 npar:∀ r,r < g.nt→∀ vs,base r≠.par vs
 al:∀ r c,Sb base (hd w base r c) (st.rc r c)
end Go.Tm
namespace Go.Tm
theorem Fp.dis.symm{F G:Fp}(h:Fp.dis F G):Fp.dis G F:=fun b o x y=>h b o y x
theorem Fp.or_none(F:Fp):Fp.or F Fp.none = F:=by funext b o;simp[Fp.or,Fp.none]
theorem Fp.none_or(F:Fp):Fp.or Fp.none F = F:=by funext b o;simp[Fp.or,Fp.none]
theorem Fp.or_assoc(F G H:Fp):Fp.or (Fp.or F G) H = Fp.or F (Fp.or G H):=by funext b o;simp[Fp.or,_root_.or_assoc]
theorem Fp.or_comm(F G:Fp):Fp.or F G = Fp.or G F:=by funext b o;simp[Fp.or,_root_.or_comm]
theorem Fp.ext{F G:Fp}(h:∀ b o,F b o↔G b o):F = G:=by funext b o;exact propext (h b o)
def Ob.reg:Ob→Fp
 |.tv _ _=>Fp.none
 |.cells cs b o=>region b o cs.length
 |.elems k xs b o=>region b o (xs.length * k.length)
theorem bz:∀ {k:List Bool} {x:List T},bT k x = true→x.length = k.length
 |[],[],_=>rfl
 |false :: k,.v _ :: x,h=>by simp only[bT]at h;simp[bz h]
 |true :: k,.slc _ _ :: x,h=>by simp only[bT]at h;simp[bz h]
 |true :: k,.hole :: x,h=>by simp only[bT]at h;simp[bz h]
def Same(w w':World)(b o:Nat):Prop:=w'.cell? ⟨b,o,none⟩ = w.cell? ⟨b,o,none⟩∧w'.frozen? ⟨b,o,none⟩ = w.frozen? ⟨b,o,none⟩
theorem Same.refl(w:World)(b o:Nat):Same w w b o:=⟨rfl,rfl⟩
theorem Same.trans{a b c:World}{x y:Nat}(h:Same a b x y)(k:Same b c x y):Same a c x y:=⟨k.1.trans h.1,k.2.trans h.2⟩
theorem RepI.frame{w w':World}{N N':Fp}{ob:Ob}(h:RepI w N ob)
 (hs:∀ b o v,¬N b o→w.cell? ⟨b,o,none⟩ = some v→w'.cell? ⟨b,o,none⟩ = some v∧¬N' b o):RepI w' N' ob:=by
 induction h with
 |v h=>exact .v h
 |hole h=>exact .hole h
 |slc ha hc _ ih=>exact .slc ha hc ih
 |nil=>exact .nil
 |cons hy hn _ _ ih1 ih2=>exact .cons (hs _ _ _ hn hy).1 (hs _ _ _ hn hy).2 ih1 ih2
 |enil=>exact .enil
 |econs hk _ _ ih1 ih2=>exact .econs hk ih1 ih2
theorem BJ{b o n m:Nat}(h:n≤m){x y:Nat}(hr:region b o n x y):region b o m x y:=⟨hr.1,hr.2.1,by have:=hr.2.2;omega⟩
theorem RepO.frame{w w':World}{ob:Ob}{F:Fp}(h:RepO w ob F)(hs:∀ b o,F b o∨ob.reg b o→Same w w' b o):RepO w' ob F:=by
 induction h with
 |v h=>exact .v h
 |hole h=>exact .hole h
 |@slc k xs A cap b off F ha hc hw _ hd ih =>
  refine .slc ha hc (fun i hi=>?_) (ih fun x y hxy=>?_) hd
  ·have:=hs b (off+i) (.inl (.inl ⟨rfl,by omega,by omega⟩))
   rw[this.1,this.2];exact hw i hi
  ·rcases hxy with hxy|hxy
   ·exact hs _ _ (.inl (.inr hxy))
   ·exact hs _ _ (.inl (.inl (BJ (Nat.mul_le_mul_right _ hc) hxy)))
 |nil=>exact .nil
 |@cons c cs b o y F G hy _ _ hd ih1 ih2 =>
  refine .cons ?_ (ih1 fun x y hxy=>?_) (ih2 fun x y hxy=>?_) hd
  ·rw[(hs b o (.inr ⟨rfl,by omega,by simp⟩)).1];exact hy
  ·rcases hxy with hxy|hxy
   ·exact hs _ _ (.inl (.inl hxy))
   ·exact hxy.elim
  ·rcases hxy with hxy|hxy
   ·exact hs _ _ (.inl (.inr hxy))
   ·exact hs _ _ (.inr ⟨hxy.1,by have:=hxy.2.1;omega,by have:=hxy.2.2;simp at *;omega⟩)
 |enil=>exact .enil
 |@econs k x xs b o F G hk _ _ hd ih1 ih2 =>
  have hl:=bz hk
  refine .econs hk (ih1 fun x y hxy=>?_) (ih2 fun x y hxy=>?_) hd
  ·rcases hxy with hxy|hxy
   ·exact hs _ _ (.inl (.inl hxy))
   ·refine hs _ _ (.inr ⟨hxy.1,hxy.2.1,?_⟩)
    have:=hxy.2.2
    simp[Nat.add_mul];omega
  ·rcases hxy with hxy|hxy
   ·exact hs _ _ (.inl (.inr hxy))
   ·refine hs _ _ (.inr ⟨hxy.1,?_,?_⟩)
    ·have:=hxy.2.1;omega
    ·have:=hxy.2.2;simp[Nat.add_mul];omega
theorem RepO.toI{w:World}{N:Fp}{ob:Ob}{F:Fp}(h:RepO w ob F)(hn:∀ b o,F b o∨ob.reg b o→¬N b o):RepI w N ob:=by
 induction h with
 |v h=>exact .v h
 |hole h=>exact .hole h
 |@slc k xs A cap b off F ha hc hw _ hd ih =>
  refine .slc (b:=b) (off:=off) (fun h0=>?_) hc (ih fun x y hxy=>?_)
  ·exact ha (Nat.lt_of_lt_of_le h0 (Nat.mul_le_mul_right _ hc))
  ·rcases hxy with hxy|hxy
   ·exact hn _ _ (.inl (.inr hxy))
   ·exact hn _ _ (.inl (.inl (BJ (Nat.mul_le_mul_right _ hc) hxy)))
 |nil=>exact .nil
 |@cons c cs b o y F G hy _ _ hd ih1 ih2 =>
  refine .cons hy (hn b o (.inr ⟨rfl,by omega,by simp⟩)) (ih1 fun x y hxy=>?_) (ih2 fun x y hxy=>?_)
  ·rcases hxy with hxy|hxy
   ·exact hn _ _ (.inl (.inl hxy))
   ·exact hxy.elim
  ·rcases hxy with hxy|hxy
   ·exact hn _ _ (.inl (.inr hxy))
   ·exact hn _ _ (.inr ⟨hxy.1,by have:=hxy.2.1;omega,by have:=hxy.2.2;simp at *;omega⟩)
 |enil=>exact .enil
 |@econs k x xs b o F G hk _ _ hd ih1 ih2 =>
  have hl:=bz hk
  refine .econs hk (ih1 fun x y hxy=>?_) (ih2 fun x y hxy=>?_)
  ·rcases hxy with hxy|hxy
   ·exact hn _ _ (.inl (.inl hxy))
   ·refine hn _ _ (.inr ⟨hxy.1,hxy.2.1,?_⟩)
    have:=hxy.2.2
    simp[Nat.add_mul];omega
  ·rcases hxy with hxy|hxy
   ·exact hn _ _ (.inl (.inr hxy))
   ·refine hn _ _ (.inr ⟨hxy.1,?_,?_⟩)
    ·have:=hxy.2.1;omega
    ·have:=hxy.2.2;simp[Nat.add_mul];omega
theorem RepO.getElem{w:World}{k:List Bool}{xs:List (List T)}:∀ {b o:Nat} {F:Fp} {i:Nat} {x:List T},RepO w (.elems k xs b o) F→xs[i]? = some x→
 ∃ F1 F2,RepO w (.cells x b (o+i * k.length)) F1∧Fp.dis F1 F2∧F = Fp.or F1 F2∧bT k x = true∧
  ∀ (w':World) (x':List T) (F1':Fp),bT k x' = true→RepO w' (.cells x' b (o+i * k.length)) F1'→Fp.dis F1' F2→
   (∀ p q,F2 p q∨(region b o (xs.length * k.length) p q∧¬region b (o+i * k.length) k.length p q)→Same w w' p q)→
   RepO w' (.elems k (xs.set i x') b o) (Fp.or F1' F2):=by
 induction xs with
 |nil=>intro b o F i x h hx;simp at hx
 |cons e xs ih =>
  intro b o F i x h hx
  cases h with
  |@econs _ _ _ _ _ F G hk h t hd =>
   have hl:=bz hk
   cases i with
   |zero =>
    simp only[List.getElem?_cons_zero,Option.some.injEq]at hx
    subst hx
    refine⟨F,G,by simpa using h,hd,rfl,hk,fun w' x' F1' hc hr hd' hs=>?_⟩
    rw[List.set_cons_zero]
    refine .econs hc (by simpa using hr) (t.frame fun p q hpq=>?_) hd'
    rcases hpq with hpq|hpq
    ·exact hs p q (.inl hpq)
    ·refine hs p q (.inr ⟨⟨hpq.1,?_,?_⟩,fun hr=>?_⟩)
     ·have:=hpq.2.1;omega
     ·have:=hpq.2.2;simp[Nat.add_mul];omega
     ·have:=hpq.2.1;have:=hr.2.2;omega
   |succ i =>
    simp only[List.getElem?_cons_succ]at hx
    obtain⟨F1,F2,hr,hd1,rfl,hkx,hw⟩:=ih t hx
    have ho:o+k.length+i * k.length = o+ (i+1) * k.length:=by rw[Nat.add_mul];omega
    rw[ho]at hr hw
    refine⟨F1,Fp.or F F2,hr,?_,?_,hkx,fun w' x' F1' hc hr' hd' hs=>?_⟩
    ·intro p q h1 h2
     rcases h2 with h2|h2
     ·exact hd p q h2 (.inl h1)
     ·exact hd1 p q h1 h2
    ·exact Fp.ext fun p q=>by simp only[Fp.or];exact⟨fun h=>by rcases h with h|h|h <;> simp[h],fun h=>by rcases h with h|h|h <;> simp[h]⟩
    ·rw[List.set_cons_succ]
     have hr'':=hw w' x' F1' hc hr' (fun p q h1 h2=>hd' p q h1 (.inr h2)) (fun p q hpq=>?_)
     ·have:Fp.or F1' (Fp.or F F2) = Fp.or F (Fp.or F1' F2):=Fp.ext fun p q=>by simp only[Fp.or];exact⟨fun h=>by rcases h with h|h|h <;> simp[h],fun h=>by rcases h with h|h|h <;> simp[h]⟩
      rw[this]
      refine .econs hk (h.frame fun p q hpq=>?_) hr'' ?_
      ·rcases hpq with hpq|hpq
       ·exact hs p q (.inl (.inl hpq))
       ·refine hs p q (.inr ⟨⟨hpq.1,hpq.2.1,?_⟩,fun hr=>?_⟩)
        ·have:=hpq.2.2;simp[Nat.add_mul];omega
        ·have:=hpq.2.2;have:=hr.2.1;rw[Nat.add_mul]at this;omega
      ·intro p q h1 h2
       rcases h2 with h2|h2
       ·exact hd' p q h2 (.inl h1)
       ·exact hd p q h1 (.inr h2)
     ·rcases hpq with hpq|hpq
      ·exact hs p q (.inl (.inr hpq))
      ·refine hs p q (.inr ⟨⟨hpq.1.1,?_,?_⟩,hpq.2⟩)
       ·have:=hpq.1.2.1;omega
       ·have:=hpq.1.2.2;simp[Nat.add_mul];omega
theorem RepO.getCell{w:World}{cs:List T}:∀ {b o:Nat} {F:Fp} {j:Nat} {c:T},RepO w (.cells cs b o) F→cs[j]? = some c→
 ∃ y F1 F2,w.cell? ⟨b,o+j,none⟩ = some y∧RepO w (.tv c y) F1∧Fp.dis F1 F2∧F = Fp.or F1 F2∧
  ∀ (w':World) (c':T) (y':Value) (F1':Fp),w'.cell? ⟨b,o+j,none⟩ = some y'→RepO w' (.tv c' y') F1'→Fp.dis F1' F2→
   (∀ p q,F2 p q∨(region b o cs.length p q∧¬(p = b∧q = o+j))→Same w w' p q)→
   RepO w' (.cells (cs.set j c') b o) (Fp.or F1' F2):=by
 induction cs with
 |nil=>intro b o F j c h hc;simp at hc
 |cons e cs ih =>
  intro b o F j c h hc
  cases h with
  |@cons _ _ _ _ y F G hy h t hd =>
   cases j with
   |zero =>
    simp only[List.getElem?_cons_zero,Option.some.injEq]at hc
    subst hc
    refine⟨y,F,G,by simpa using hy,h,hd,rfl,fun w' c' y' F1' hy' hr hd' hs=>?_⟩
    rw[List.set_cons_zero]
    refine .cons (by simpa using hy') hr (t.frame fun p q hpq=>?_) hd'
    rcases hpq with hpq|hpq
    ·exact hs p q (.inl hpq)
    ·refine hs p q (.inr ⟨⟨hpq.1,?_,?_⟩,fun hr=>?_⟩)
     ·have:=hpq.2.1;omega
     ·have:=hpq.2.2;simp;omega
     ·have:=hpq.2.1;have:=hr.2;omega
   |succ j =>
    simp only[List.getElem?_cons_succ]at hc
    obtain⟨y1,F1,F2,hy1,hr,hd1,rfl,hw⟩:=ih t hc
    have ho:o+1+j = o+ (j+1):=by omega
    rw[ho]at hy1 hw
    refine⟨y1,F1,Fp.or F F2,hy1,hr,?_,?_,fun w' c' y' F1' hy' hr' hd' hs=>?_⟩
    ·intro p q h1 h2
     rcases h2 with h2|h2
     ·exact hd p q h2 (.inl h1)
     ·exact hd1 p q h1 h2
    ·exact Fp.ext fun p q=>by simp only[Fp.or];exact⟨fun h=>by rcases h with h|h|h <;> simp[h],fun h=>by rcases h with h|h|h <;> simp[h]⟩
    ·rw[List.set_cons_succ]
     have hr'':=hw w' c' y' F1' hy' hr' (fun p q h1 h2=>hd' p q h1 (.inr h2)) (fun p q hpq=>?_)
     ·have:Fp.or F1' (Fp.or F F2) = Fp.or F (Fp.or F1' F2):=Fp.ext fun p q=>by simp only[Fp.or];exact⟨fun h=>by rcases h with h|h|h <;> simp[h],fun h=>by rcases h with h|h|h <;> simp[h]⟩
      rw[this]
      refine .cons ?_ (h.frame fun p q hpq=>?_) hr'' ?_
      ·rw[(hs b o (.inr ⟨⟨rfl,by omega,by simp⟩,fun h=>by omega⟩)).1];exact hy
      ·rcases hpq with hpq|hpq
       ·exact hs p q (.inl (.inl hpq))
       ·exact hpq.elim
      ·intro p q h1 h2
       rcases h2 with h2|h2
       ·exact hd' p q h2 (.inl h1)
       ·exact hd p q h1 (.inr h2)
     ·rcases hpq with hpq|hpq
      ·exact hs p q (.inl (.inr hpq))
      ·refine hs p q (.inr ⟨⟨hpq.1.1,?_,?_⟩,hpq.2⟩)
       ·have:=hpq.1.2.1;omega
       ·have:=hpq.1.2.2;simp;omega
theorem RepI.getElem{w:World}{N:Fp}{k:List Bool}{xs:List (List T)}:∀ {b o i:Nat} {x:List T},RepI w N (.elems k xs b o)→xs[i]? = some x→RepI w N (.cells x b (o+i * k.length))∧bT k x = true:=by
 induction xs with
 |nil=>intro b o i x h hx;simp at hx
 |cons e xs ih =>
  intro b o i x h hx
  cases h with
  |econs hk h t =>
   cases i with
   |zero=>simp at hx;subst hx;exact⟨by simpa using h,hk⟩
   |succ i =>
    have:=ih t (by simpa using hx)
    rwa [show o+k.length+i * k.length = o+ (i+1) * k.length by rw[Nat.add_mul];omega]at this
theorem RepI.getCell{w:World}{N:Fp}{cs:List T}:∀ {b o j:Nat} {c:T},RepI w N (.cells cs b o)→cs[j]? = some c→∃ y,w.cell? ⟨b,o+j,none⟩ = some y∧¬N b (o+j)∧RepI w N (.tv c y):=by
 induction cs with
 |nil=>intro b o j c h hc;simp at hc
 |cons e cs ih =>
  intro b o j c h hc
  cases h with
  |@cons _ _ _ _ y hy hn h t =>
   cases j with
   |zero=>simp at hc;subst hc;exact⟨y,by simpa using hy,by simpa using hn,h⟩
   |succ j =>
    have:=ih t (by simpa using hc)
    rwa [show o+1+j = o+ (j+1) by omega]at this
theorem RepI.dropCells{w:World}{N:Fp}:∀ {cs:List T} {b o:Nat} (n:Nat),RepI w N (.cells cs b o)→RepI w N (.cells (cs.drop n) b (o+n))
 |cs,b,o,0,h=>by simpa using h
 |[],b,o,n+1,h=>by simpa using RepI.nil
 |c :: cs,b,o,n+1,h=>by
  cases h with
  |cons hy hn h t =>
   have:=RepI.dropCells n t
   rw[show o+1+n = o+ (n+1) by omega]at this
   simpa using this
theorem RepI.takeCells{w:World}{N:Fp}:∀ {cs:List T} {b o:Nat} (n:Nat),RepI w N (.cells cs b o)→RepI w N (.cells (cs.take n) b o)
 |cs,b,o,0,h=>by simpa using RepI.nil
 |[],b,o,n+1,h=>by simpa using RepI.nil
 |c :: cs,b,o,n+1,h=>by
  cases h with
  |cons hy hn h t=>simpa using RepI.cons hy hn h (RepI.takeCells n t)
theorem RepI.dropElems{w:World}{N:Fp}{k:List Bool}:∀ {xs:List (List T)} {b o:Nat} (n:Nat),RepI w N (.elems k xs b o)→RepI w N (.elems k (xs.drop n) b (o+n * k.length))
 |xs,b,o,0,h=>by simpa using h
 |[],b,o,n+1,h=>by simpa using RepI.enil
 |c :: cs,b,o,n+1,h=>by
  cases h with
  |econs hk h t =>
   have:=RepI.dropElems n t
   rw[show o+k.length+n * k.length = o+ (n+1) * k.length by rw[Nat.add_mul];omega]at this
   simpa using this
theorem RepI.takeElems{w:World}{N:Fp}{k:List Bool}:∀ {xs:List (List T)} {b o:Nat} (n:Nat),RepI w N (.elems k xs b o)→RepI w N (.elems k (xs.take n) b o)
 |cs,b,o,0,h=>by simpa using RepI.enil
 |[],b,o,n+1,h=>by simpa using RepI.enil
 |c :: cs,b,o,n+1,h=>by
  cases h with
  |econs hk h t=>simpa using RepI.econs hk h (RepI.takeElems n t)
theorem RepO.splitElems{w:World}{k:List Bool}:∀ {xs ys:List (List T)} {b o:Nat} {F:Fp},RepO w (.elems k (xs++ys) b o) F→
 ∃ F1 F2,RepO w (.elems k xs b o) F1∧RepO w (.elems k ys b (o+xs.length * k.length)) F2∧Fp.dis F1 F2∧F = Fp.or F1 F2
 |[],ys,b,o,F,h=>⟨Fp.none,F,.enil,by simpa using h,fun _ _ h=>h.elim,(Fp.none_or F).symm⟩
 |x :: xs,ys,b,o,F,h=>by
  cases h with
  |@econs _ _ _ _ _ F G hk h t hd =>
   obtain⟨F1,F2,h1,h2,hd',rfl⟩:=RepO.splitElems t
   refine⟨Fp.or F F1,F2,.econs hk h h1 (fun p q a b=>hd p q a (.inl b)),?_,?_,(Fp.or_assoc _ _ _).symm⟩
   ·rwa [show o+k.length+xs.length * k.length = o+ (x :: xs).length * k.length by simp[Nat.add_mul];omega]at h2
   ·intro p q a b
    rcases a with a|a
    ·exact hd p q a (.inr b)
    ·exact hd' p q a b
theorem RepO.joinElems{w:World}{k:List Bool}:∀ {xs ys:List (List T)} {b o:Nat} {F1 F2:Fp},RepO w (.elems k xs b o) F1→RepO w (.elems k ys b (o+xs.length * k.length)) F2→Fp.dis F1 F2→RepO w (.elems k (xs++ys) b o) (Fp.or F1 F2)
 |[],ys,b,o,F1,F2,h1,h2,hd=>by
  cases h1
  rw[Fp.none_or];simpa using h2
 |x :: xs,ys,b,o,F1,F2,h1,h2,hd=>by
  cases h1 with
  |@econs _ _ _ _ _ F G hk h t hd' =>
   rw[Fp.or_assoc]
   refine .econs hk h (RepO.joinElems t ?_ (fun p q a b=>hd p q (.inr a) b)) (fun p q a b=>?_)
   ·rwa [show o+ (x :: xs).length * k.length = o+k.length+xs.length * k.length by simp[Nat.add_mul];omega]at h2
   ·rcases b with b|b
    ·exact hd' p q a b
    ·exact hd p q (.inl a) b
theorem RepI.oneCell{w:World}{N:Fp}{c:T}{y:Value}(h:RepI w N (.tv c y)):y.oneCell' = true:=by
 cases h with
 |v h=>cases y <;> simp_all[sc,Value.oneCell']
 |hole h=>exact h
 |slc=>rfl
theorem RepO.oneCell{w:World}{c:T}{y:Value}{F:Fp}(h:RepO w (.tv c y) F):y.oneCell' = true:=by
 cases h with
 |v h=>cases y <;> simp_all[sc,Value.oneCell']
 |hole h=>exact h
 |slc=>rfl
end Go.Tm
namespace Go.Tm
/-! ### Places in a slot's value -/
mutual
def V.all(f:Bool→Place→Prop)(m:Nat→Prop):V→Prop
 |.ref p=>f true p
 |.sub p _ _=>f true p.part
 |.ptr p=>f false p
 |.agg cs=>V.allL f m cs
 |.tup vs=>V.allL f m vs
 |.mref r=>m r
 |.al r c=>f true ⟨r,none,c⟩
 |_=>True
def V.allL(f:Bool→Place→Prop)(m:Nat→Prop):List V→Prop
 |[]=>True
 |c :: cs=>V.all f m c∧V.allL f m cs
end
mutual
theorem V.abA(k:Kl):(v:V)→V.all (fun r p=>k.f r p = false) (fun m=>k.m m = false) (v.pois k)
 |.ref p=>by simp only[V.pois];split <;> simp_all[V.all]
 |.sub p lo hi=>by simp only[V.pois];split <;> simp_all[V.all]
 |.ptr p=>by simp only[V.pois];split <;> simp_all[V.all]
 |.agg cs=>by simp only[V.pois,V.all];exact V.abB k cs
 |.tup cs=>by simp only[V.pois,V.all];exact V.abB k cs
 |.t x=>by simp[V.pois,V.all]
 |.own ks xs=>by simp[V.pois,V.all]
 |.nils=>by simp[V.pois,V.all]
 |.iptr cs=>by simp[V.pois,V.all]
 |.mref r=>by simp only[V.pois];split <;> simp_all[V.all]
 |.al r c=>by simp only[V.pois];split <;> simp_all[V.all]
 |.undef=>by simp[V.pois,V.all]
theorem V.abB(k:Kl):(vs:List V)→V.allL (fun r p=>k.f r p = false) (fun m=>k.m m = false) (V.poisL k vs)
 |[]=>by simp[V.poisL,V.allL]
 |c :: cs=>by simp only[V.poisL,V.allL];exact⟨V.abA k c,V.abB k cs⟩
end
mutual
theorem V.abu:(v:V)→V.all (fun _ _=>True) (fun _=>True) v
 |.al _ _|.ref p|.sub p _ _|.ptr p|.mref r|.t _|.own _ _|.nils|.iptr _|.undef=>by simp[V.all]
 |.agg cs=>by simp only[V.all];exact V.abC cs
 |.tup cs=>by simp only[V.all];exact V.abC cs
theorem V.abC:(vs:List V)→V.allL (fun _ _=>True) (fun _=>True) vs
 |[]=>by simp[V.allL]
 |c :: cs=>by simp only[V.allL];exact⟨V.abu c,V.abC cs⟩
end
mutual
theorem V.abw{f f':Bool→Place→Prop}{m m':Nat→Prop}(h:∀ r p,f r p→f' r p)(h':∀ i,m i→m' i):(v:V)→V.all f m v→V.all f' m' v
 |.ref p,a=>by simp only[V.all]at *;exact h _ _ a
 |.sub p _ _,a=>by simp only[V.all]at *;exact h _ _ a
 |.ptr p,a=>by simp only[V.all]at *;exact h _ _ a
 |.mref r,a=>by simp only[V.all]at *;exact h' _ a
 |.al r c,a=>by simp only[V.all]at *;exact h _ _ a
 |.t _,a|.own _ _,a|.nils,a|.iptr _,a|.undef,a=>by simp[V.all]
 |.agg cs,a=>by simp only[V.all]at *;exact V.abE h h' cs a
 |.tup cs,a=>by simp only[V.all]at *;exact V.abE h h' cs a
theorem V.abE{f f':Bool→Place→Prop}{m m':Nat→Prop}(h:∀ r p,f r p→f' r p)(h':∀ i,m i→m' i):(vs:List V)→V.allL f m vs→V.allL f' m' vs
 |[],_=>by simp[V.allL]
 |c :: cs,a=>by simp only[V.allL]at *;exact⟨V.abw h h' c a.1,V.abE h h' cs a.2⟩
end
mutual
theorem V.abH(f:Bool→Place→Prop)(k:Kl):(v:V)→V.all f (fun _=>True) v→V.all f (fun _=>True) (v.pois k)
 |.ref p,h=>by simp only[V.pois];split;· simp[V.all]
               ·exact h
 |.sub p lo hi,h=>by simp only[V.pois];split;· simp[V.all]
                     ·exact h
 |.ptr p,h=>by simp only[V.pois];split;· simp[V.all]
               ·exact h
 |.mref r,h=>by simp only[V.pois];split <;> simp[V.all]
 |.al r c,h=>by simp only[V.pois];split;· simp[V.all]
                ·exact h
 |.t _,_|.own _ _,_|.nils,_|.iptr _,_|.undef,_=>by simp[V.pois,V.all]
 |.agg cs,h=>by simp only[V.pois,V.all]at *;exact V.abD f k cs h
 |.tup cs,h=>by simp only[V.pois,V.all]at *;exact V.abD f k cs h
theorem V.abD(f:Bool→Place→Prop)(k:Kl):(vs:List V)→V.allL f (fun _=>True) vs→V.allL f (fun _=>True) (V.poisL k vs)
 |[],_=>by simp[V.poisL,V.allL]
 |c :: cs,h=>by simp only[V.poisL,V.allL]at *;exact⟨V.abH f k c h.1,V.abD f k cs h.2⟩
end
section
variable {w w':World} {N N':Fp} {base base':Nat→Base} {mb mb':Nat→Nat} {st st':St}
mutual
theorem RepS.move0(f:Bool→Place→Prop)(m:Nat→Prop)(hI:∀ ob,RepI w N ob→RepI w' N' ob)
 (hr:∀ p x,f true p→j5 w base st p x→j5 w' base' st' p x)
 (hs:∀ r c lo hi x,f true ⟨r,some (c,0,0),16777215⟩→sY w base st r c lo hi x→sY w' base' st' r c lo hi x)
 (hp:∀ p b o,f false p→PlaceAt w base st p b o→PlaceAt w' base' st' p b o)
 (hm:∀ i,m i→mb' i = mb i) (hb:∀ r c vs,f true ⟨r,none,c⟩→base r = .par vs→base' r = .par vs):(v:V)→(x:Value)→V.all f m v→RepS w N base mb st v x→RepS w' N' base' mb' st' v x
 |.t y,x,_,h=>by simp only[RepS]at h ⊢;exact hI _ h
 |.nils,x,_,h=>by simpa only[RepS]using h
 |.ref p,x,ha,h=>by simp only[RepS,V.all]at *;exact hr _ _ ha h
 |.sub ⟨r,none,c⟩ lo hi,x,ha,h=>by simp only[RepS,V.all]at *;exact hs _ _ _ _ _ ha h
 |.sub ⟨_,some _,_⟩ _ _,x,_,h=>by simp only[RepS]at h
 |.ptr p,x,ha,h=>by
  simp only[RepS,V.all]at *
  obtain⟨b,o,h1,h2⟩:=h
  exact⟨b,o,hp _ _ _ ha h1,h2⟩
 |.iptr cs,x,_,h=>by
  simp only[RepS]at *
  obtain⟨b,o,h1,h2⟩:=h
  exact⟨b,o,h1,hI _ h2⟩
 |.agg cs,x,ha,h=>by
  simp only[RepS,V.all]at *
  obtain⟨xs,h1,h2⟩:=h
  exact⟨xs,h1,RepSs.move0 f m hI hr hs hp hm hb cs xs ha h2⟩
 |.tup cs,x,ha,h=>by
  simp only[RepS,V.all]at *
  obtain⟨xs,h1,h2⟩:=h
  exact⟨xs,h1,RepSs.move0 f m hI hr hs hp hm hb cs xs ha h2⟩
 |.mref i,x,ha,h=>by simp only[RepS,V.all]at *;rw[hm _ ha];exact h
 |.al r c,x,ha,h=>by simp only[RepS,V.all]at *;obtain⟨⟨vs,h1⟩,h2⟩:=h;exact⟨⟨vs,hb _ _ _ ha h1⟩,hr _ _ ha h2⟩
 |.undef,x,_,_=>by simp only[RepS]
 |.own _ _,x,_,h=>by simp only[RepS]at h
theorem RepSs.move0(f:Bool→Place→Prop)(m:Nat→Prop)(hI:∀ ob,RepI w N ob→RepI w' N' ob)
 (hr:∀ p x,f true p→j5 w base st p x→j5 w' base' st' p x)
 (hs:∀ r c lo hi x,f true ⟨r,some (c,0,0),16777215⟩→sY w base st r c lo hi x→sY w' base' st' r c lo hi x)
 (hp:∀ p b o,f false p→PlaceAt w base st p b o→PlaceAt w' base' st' p b o)
 (hm:∀ i,m i→mb' i = mb i) (hb:∀ r c vs,f true ⟨r,none,c⟩→base r = .par vs→base' r = .par vs):(vs:List V)→(xs:List Value)→V.allL f m vs→RepSs w N base mb st vs xs→RepSs w' N' base' mb' st' vs xs
 |[],[],_,_=>by simp only[RepSs]
 |c :: cs,x :: xs,ha,h=>by
  simp only[RepSs,V.allL]at *
  exact⟨RepS.move0 f m hI hr hs hp hm hb c x ha.1 h.1,RepSs.move0 f m hI hr hs hp hm hb cs xs ha.2 h.2⟩
 |[],_ :: _,_,h=>by simp only[RepSs]at h
 |_ :: _,[],_,h=>by simp only[RepSs]at h
end
theorem RepS.move(f:Bool→Place→Prop)(m:Nat→Prop)(hI:∀ ob,RepI w N ob→RepI w' N' ob)
 (hr:∀ p x,f true p→j5 w base st p x→j5 w' base' st' p x)
 (hs:∀ r c lo hi x,f true ⟨r,some (c,0,0),16777215⟩→sY w base st r c lo hi x→sY w' base' st' r c lo hi x)
 (hp:∀ p b o,f false p→PlaceAt w base st p b o→PlaceAt w' base' st' p b o)
 (hm:∀ i,m i→mb' i = mb i) (v:V) (x:Value) (hv:V.all f m v) (h:RepS w N base mb st v x)
 (hb:∀ r c vs,f true ⟨r,none,c⟩→base r = .par vs→base' r = .par vs:=by intro _ _ _ _ h;exact h):RepS w' N' base' mb' st' v x:=RepS.move0 f m hI hr hs hp hm hb v x hv h
theorem RepSs.move(f:Bool→Place→Prop)(m:Nat→Prop)(hI:∀ ob,RepI w N ob→RepI w' N' ob)
 (hr:∀ p x,f true p→j5 w base st p x→j5 w' base' st' p x)
 (hs:∀ r c lo hi x,f true ⟨r,some (c,0,0),16777215⟩→sY w base st r c lo hi x→sY w' base' st' r c lo hi x)
 (hp:∀ p b o,f false p→PlaceAt w base st p b o→PlaceAt w' base' st' p b o)
 (hm:∀ i,m i→mb' i = mb i) (vs:List V) (xs:List Value) (hv:V.allL f m vs) (h:RepSs w N base mb st vs xs)
 (hb:∀ r c vs,f true ⟨r,none,c⟩→base r = .par vs→base' r = .par vs:=by intro _ _ _ _ h;exact h):RepSs w' N' base' mb' st' vs xs:=RepSs.move0 f m hI hr hs hp hm hb vs xs hv h
mutual
theorem RepS.pois(k:Kl):(v:V)→(x:Value)→RepS w N base mb st v x→RepS w N base mb st (v.pois k) x
 |.t y,x,h=>by simpa only[V.pois]using h
 |.nils,x,h=>by simpa only[V.pois]using h
 |.ref p,x,h=>by simp only[V.pois];split;· simp only[RepS]
                 ·exact h
 |.sub p lo hi,x,h=>by simp only[V.pois];split;· simp only[RepS]
                       ·exact h
 |.ptr p,x,h=>by simp only[V.pois];split;· simp only[RepS]
                 ·exact h
 |.iptr cs,x,h=>by simpa only[V.pois]using h
 |.agg cs,x,h=>by
  simp only[V.pois,RepS]at *
  obtain⟨xs,h1,h2⟩:=h
  exact⟨xs,h1,RepSs.pois k cs xs h2⟩
 |.tup cs,x,h=>by
  simp only[V.pois,RepS]at *
  obtain⟨xs,h1,h2⟩:=h
  exact⟨xs,h1,RepSs.pois k cs xs h2⟩
 |.mref i,x,h=>by simp only[V.pois];split;· simp only[RepS]
                  ·exact h
 |.al r c,x,h=>by simp only[V.pois];split;· simp only[RepS]
                  ·exact h
 |.undef,x,_=>by simp only[V.pois,RepS]
 |.own _ _,x,h=>by simp only[RepS]at h
theorem RepSs.pois(k:Kl):(vs:List V)→(xs:List Value)→RepSs w N base mb st vs xs→RepSs w N base mb st (V.poisL k vs) xs
 |[],[],_=>by simp only[V.poisL,RepSs]
 |c :: cs,x :: xs,h=>by
  simp only[V.poisL,RepSs]at *
  exact⟨RepS.pois k c x h.1,RepSs.pois k cs xs h.2⟩
 |[],_ :: _,h=>by simp only[RepSs]at h
 |_ :: _,[],h=>by simp only[RepSs]at h
end
end
theorem Rel.kill{g:G}{X:Fp}{st:St}{a:Act}{w:World}{base:Nat→Base}{mb:Nat→Nat}{F:Ix→Fp}(R:Rel g X st a w base mb F)(k:Kl) :
 Rel g X ((Wr.kl k).ap st) a w base mb F:=by
 have hs:∀ i,RepS w (tot F) base mb ((Wr.kl k).ap st) (((Wr.kl k).ap st).sl i) (a.tmps.getD i Go.undef):=fun i=>by
  have:=RepS.pois k _ _ (R.slots i)
  refine RepS.move (st:=st) (st':=(Wr.kl k).ap st) (fun _ _=>True) (fun _=>True) (fun _ h=>h) (fun p x _ h=>?_) (fun _ _ _ _ _ _ h=>h) (fun _ _ _ _ h=>h) (fun _ _=>rfl) _ _ (V.abu _) this
  rcases p with⟨r,s,o⟩
  cases s <;> exact h
 exact{R with slots:=hs}
theorem PlaceAt.rn{w:World}{base:Nat→Base}{st st':St}(hn:st'.rn = st.rn){p:Place}{b o:Nat}(h:PlaceAt w base st p b o):PlaceAt w base st' p b o:=by
 rcases p with⟨r,s,off⟩
 cases s with
 |none=>exact h
 |some s =>
  obtain⟨c,i,s⟩:=s
  obtain⟨⟨n,h1,h2⟩,h3⟩:=h
  exact⟨⟨n,by rw[hn];exact h1,h2⟩,h3⟩
theorem RepS.rc{w:World}{N:Fp}{base:Nat→Base}{mb:Nat→Nat}{st st':St}(v:V)(x:Value)(hn:st'.rn = st.rn)
 (h:∀ r c k xs,st'.rc r c = .own k xs→∃ xs',st.rc r c = .own k xs'∧xs'.length = xs.length)
 (hr:RepS w N base mb st v x):RepS w N base mb st' v x:=by
 refine RepS.move (fun _ _=>True) (fun _=>True) (fun _ h=>h) (fun p x _ hp=>?_) (fun r c lo hi x _ hp=>?_) (fun _ _ _ _ h=>h.rn hn) (fun _ _=>rfl) v x (V.abu _) hr
 ·rcases p with⟨r,s,o⟩
  cases s with
  |none=>obtain⟨⟨n,h1,h2⟩,h3⟩:=hp;exact⟨⟨n,by rw[hn];exact h1,h2⟩,h3⟩
  |some s =>
   obtain⟨c,i,s⟩:=s
   intro k xs he
   obtain⟨xs',h1,h2⟩:=h r c k xs he
   have:=hp k xs' h1
   rw[h2]at this
   obtain⟨e1,e2,e3,b,o,e4,e5⟩:=this
   exact⟨e1,e2,e3,b,o,e4.rn hn,e5⟩
 ·intro k xs he
  obtain⟨xs',h1,h2⟩:=h r c k xs he
  have:=hp k xs' h1
  rw[h2]at this
  exact this
def du(F:Ix→Fp)(i:Ix)(G:Fp):Ix→Fp:=fun j=>if j = i then G else F j
theorem aD(F:Ix→Fp)(i:Ix)(G:Fp):du F i G i = G:=by simp[du]
theorem az(F:Ix→Fp){i j:Ix}(G:Fp)(h:j≠i):du F i G j = F j:=by simp[du,h]
theorem gw{i j:Nat}(h:i≠j):Nat.beq i j = false:=by
 cases hb:Nat.beq i j
 ·rfl
 ·exact absurd (Nat.eq_of_beq_eq_true hb) h
theorem bJ(i:Nat):Nat.beq i i = true:=Nat.beq_refl i
theorem ba{α:Type}(f:Nat→α)(i:Nat)(x:α):upd f i x i = x:=by simp[upd,bJ]
theorem bH{α:Type}(f:Nat→α){i j:Nat}(x:α)(h:j≠i):upd f i x j = f j:=by simp[upd,gw h]
theorem aW{α:Type}(f:Nat→Nat→α)(i k:Nat)(x:α):HV f i k x i k = x:=by simp[HV,bJ]
theorem aV{α:Type}(f:Nat→Nat→α){i k j l:Nat}(x:α)(h:¬(j = i∧l = k)):HV f i k x j l = f j l:=by
 by_cases hj:j = i
 ·have hl:l≠k:=fun e=>h ⟨hj,e⟩
  simp only[HV,gw hl,Bool.and_false]
 ·simp only[HV,gw hj,Bool.false_and]
theorem Rel.ghost{g:G}{X:Fp}{st:St}{a:Act}{w:World}{base:Nat→Base}{mb:Nat→Nat}{F:Ix→Fp}(R:Rel g X st a w base mb F)
 {r c:Nat} {k:List Bool} {xs:List (List T)} (he:st.rc r c = .own k xs) (x':V) (F1 F2:Fp)
 (h1:∀ b o,F1 b o→F (.cell r c) b o) (h2:∀ b o,F2 b o→F (.cell r c) b o) (h12:Fp.dis F1 F2)
 (hx:x' = .undef∧F2 = Fp.none∨∃ xs',x' = .own k xs'∧xs'.length = xs.length∧∃ y,hd w base r c = some y∧RepO w (.tv (.slc k xs') y) F2) :
 Rel g (Fp.or X F1) ((Wr.rc r c x').ap st) a w base mb (du (du F (.cell r c) F2) .x (Fp.or g.X0 (Fp.or X F1))):=by
 have hN:∀ b o,tot (du (du F (.cell r c) F2) .x (Fp.or g.X0 (Fp.or X F1))) b o→tot F b o:=by
  rintro b o ⟨i,hi⟩
  by_cases hix:i = .x
  ·subst hix;rw[aD]at hi
   rcases hi with hi|hi|hi
   ·exact⟨.x,by rw[R.fx];exact .inl hi⟩
   ·exact⟨.x,by rw[R.fx];exact .inr hi⟩
   ·exact⟨_,h1 _ _ hi⟩
  ·rw[az _ _ hix]at hi
   by_cases hic:i = .cell r c
   ·subst hic;rw[aD]at hi;exact⟨_,h2 _ _ hi⟩
   ·rw[az _ _ hic]at hi;exact⟨i,hi⟩
 have hI:∀ ob,RepI w (tot F) ob→RepI w (tot (du (du F (.cell r c) F2) .x (Fp.or g.X0 (Fp.or X F1)))) ob:=fun ob h=>h.frame fun b o v hn hv=>⟨hv,fun hn'=>hn (hN _ _ hn')⟩
 refine{nt:=R.nt,par:=R.par,df:=R.df,fx:=aD _ _ _,cell:=fun r' c'=>?_,hdr:=fun r'=>?_,map:=fun m=>?_,dis:=?_,fresh:=fun b o h=>?_,ex:=fun b o h=>R.ex b o (hN _ _ h),live:=fun r' c' h=>?_,slots:=fun i=>?_,frame:=R.frame,npar:=R.npar,al:=fun r' c'=>?_}
 ·by_cases hrc:r' = r∧c' = c
  ·obtain⟨rfl,rfl⟩:=hrc
   rw[az _ _ (by simp),aD]
   simp only[Wr.ap,aW]
   rcases hx with⟨rfl,rfl⟩|⟨xs',rfl,hl,y,hy,ho⟩
   ·exact fun b o h=>h
   ·exact⟨y,hy,ho⟩
  ·rw[az _ _ (by simp),az _ _ (by simpa using hrc)]
   simp only[Wr.ap,aV _ _ hrc]
   have:=R.cell r' c'
   revert this
   unfold CellOk
   split
   ·rintro⟨⟨v,h,hi⟩,hf⟩;exact⟨⟨v,h,hI _ hi⟩,hf⟩
   ·exact fun h=>h
   ·exact fun h=>h
   ·exact fun h=>h
 ·rw[az _ _ (by simp),az _ _ (by simp)];exact R.hdr r'
 ·rw[az _ _ (by simp),az _ _ (by simp)];exact R.map m
 ·intro i j hij b o hi hj
  have key:∀ i,du (du F (.cell r c) F2) .x (Fp.or g.X0 (Fp.or X F1)) i b o→(i = .x∧F1 b o)∨(i = .cell r c∧F2 b o)∨(i≠.cell r c∧F i b o):=by
   intro i hi
   by_cases hix:i = .x
   ·subst hix;rw[aD]at hi
    rcases hi with hi|hi|hi
    ·right;right;exact⟨by simp,by rw[R.fx];exact .inl hi⟩
    ·right;right;exact⟨by simp,by rw[R.fx];exact .inr hi⟩
    ·left;exact⟨rfl,hi⟩
   ·rw[az _ _ hix]at hi
    by_cases hic:i = .cell r c
    ·subst hic;rw[aD]at hi;right;left;exact⟨rfl,hi⟩
    ·rw[az _ _ hic]at hi;right;right;exact⟨hic,hi⟩
  rcases key i hi with⟨rfl,h⟩|⟨rfl,h⟩|⟨hi',h⟩ <;> rcases key j hj with⟨rfl,h'⟩|⟨rfl,h'⟩|⟨hj',h'⟩
  ·exact hij rfl
  ·exact h12 _ _ h h'
  ·exact R.dis _ _ hj' b o h' (h1 _ _ h)
  ·exact h12 _ _ h' h
  ·exact hij rfl
  ·exact R.dis _ _ hj' b o h' (h2 _ _ h)
  ·exact R.dis _ _ hi' b o h (h1 _ _ h')
  ·exact R.dis _ _ hi' b o h (h2 _ _ h')
  ·exact R.dis _ _ hij b o h h'
 ·exact R.fresh b o (hN _ _ h)
 ·have:=R.live r' c' h
  by_cases hrc:r' = r∧c' = c
  ·obtain⟨rfl,rfl⟩:=hrc
   rw[he]at this;cases this
  ·simp only[Wr.ap,aV _ _ hrc];exact this
 ·refine RepS.rc (st:=st) _ _ rfl (fun r' c' k' xs' h=>?_) (RepS.move (st:=st) (st':=st) (fun _ _=>True) (fun _=>True) hI (fun _ _ _ h=>h) (fun _ _ _ _ _ _ h=>h) (fun _ _ _ _ h=>h) (fun _ _=>rfl) _ _ (V.abu _) (R.slots i))
  by_cases hrc:r' = r∧c' = c
  ·obtain⟨rfl,rfl⟩:=hrc
   simp only[Wr.ap,aW]at h
   rcases hx with⟨rfl,_⟩|⟨xs'',rfl,hl,_⟩
   ·cases h
   ·injection h with h1 h2
    subst h1;subst h2
    exact⟨xs,he,hl.symm⟩
  ·simp only[Wr.ap,aV _ _ hrc]at h
   exact⟨xs',h,rfl⟩
 ·by_cases hrc:r' = r∧c' = c
  ·obtain⟨rfl,rfl⟩:=hrc
   simp only[Wr.ap,aW]
   rcases hx with⟨rfl,_⟩|⟨xs'',rfl,_⟩ <;> trivial
  ·simp only[Wr.ap,aV _ _ hrc];exact R.al r' c'
end Go.Tm
namespace Go.Tm
variable {g:G} {X:Fp} {st:St} {a:Act} {w:World} {base:Nat→Base} {mb:Nat→Nat} {F:Ix→Fp}
def I6(d:Nat)(st:St):Prop:=∀ i,V.all (fun _ p=>p.root≠d) (fun m=>m≠d) (st.sl i)
theorem CellOk.mono{w w':World}{N N':Fp}{h:Option Value}{x:V}{F:Fp}(hc:CellOk w N h x F)(hI:∀ ob,RepI w N ob→RepI w' N' ob)
 (hO:∀ ob,RepO w ob F→RepO w' ob F):CellOk w' N' h x F:=by
 revert hc
 unfold CellOk
 split
 ·rintro⟨⟨v,h,hi⟩,hf⟩;exact⟨⟨v,h,hI _ hi⟩,hf⟩
 ·rintro⟨v,h,ho⟩;exact⟨v,h,hO _ ho⟩
 ·exact fun h=>h
 ·exact fun h=>h
def St.cleared(st:St)(d n:Nat):St:=(Wr.rn d n).ap ((Wr.kl (.root d)).ap st)
theorem St.abv(st:St)(d n:Nat):I6 d (st.cleared d n):=by
 intro i
 have:=V.abA (.root d) (st.sl i)
 refine(V.abw ?_ ?_ _ this)
 ·intro r p h;simp only[Kl.f]at h;exact fun e=>by simp[e,bJ]at h
 ·intro m h;simp only[Kl.m]at h;exact fun e=>by simp[e,bJ]at h
def eT(F:Ix→Fp)(d:Nat)(H:Fp):Ix→Fp
 |.cell r c=>if r = d then Fp.none else F (.cell r c)
 |.hdr r=>if r = d then H else F (.hdr r)
 |i=>F i
theorem Rel.clear(R:Rel g X st a w base mb F)(d n:Nat)(hdn:d < g.nt)(bs:Base)(w':World)(H:Fp)
 (hs:∀ b o,b < w.heap.size→Same w w' b o) (hsz:w.heap.size≤w'.heap.size)
 (hb:∀ b,b < w.heap.size→w'.heap[b]? = w.heap[b]?) (hos:w'.os = w.os) (htp:w'.tape = w.tape) (hop:w'.output = w.output)
 (hH:∀ b o,H b o→w.heap.size≤b∧b < w'.heap.size) (hok:j6 w' bs (some n) H) (hbs:∀ vs,bs≠.par vs:=by intro _ h;cases h) :
 Rel g X (st.cleared d n) a w' (upd base d bs) mb (eT F d H):=by
 have hN:∀ b o,tot (eT F d H) b o→tot F b o∨w.heap.size≤b:=by
  rintro b o ⟨i,hi⟩
  cases i with
  |cell r c =>
   simp only[eT]at hi
   split at hi
   ·exact hi.elim
   ·exact .inl ⟨_,hi⟩
  |hdr r =>
   simp only[eT]at hi
   split at hi
   ·exact .inr (hH _ _ hi).1
   ·exact .inl ⟨_,hi⟩
  |map m=>exact .inl ⟨_,hi⟩
  |x=>exact .inl ⟨_,hi⟩
 have hI:∀ ob,RepI w (tot F) ob→RepI w' (tot (eT F d H)) ob:=fun ob h=>h.frame fun b o v hn hv=>by
  have hlt:=World.block_lt_of_cell? w _ hv
  refine⟨by rw[(hs b o hlt).1];exact hv,fun hn'=>?_⟩
  rcases hN _ _ hn' with h|h
  ·exact hn h
  ·exact absurd hlt (by simpa using h)
 have hO:∀ ob G,(∀ b o,G b o→tot F b o)→(∀ b o,ob.reg b o→False)→RepO w ob G→RepO w' ob G:=fun ob G hG hr h=>h.frame fun b o hbo=>by
  rcases hbo with h|h
  ·exact hs b o (R.ex b o (hG _ _ h))
  ·exact(hr _ _ h).elim
 have hhd:∀ r c,r≠d→∀ y,hd w base r c = some y→hd w' (upd base d bs) r c = some y:=by
  intro r c hr y
  unfold hd
  rw[bH _ _ hr]
  split
  ·intro h;rw[(hs _ _ (World.block_lt_of_cell? w _ h)).1];exact h
  ·exact fun h=>h
  ·exact fun h=>h
 refine{nt:=R.nt,par:=fun r hr=>by rw[bH _ _ (by omega)];exact R.par r hr,df:=R.df,fx:=R.fx,cell:=fun r c=>?_,hdr:=fun r=>?_,map:=fun m=>?_,dis:=?_,fresh:=fun b o h=>?_,ex:=fun b o h=>?_,live:=fun r c h=>?_,slots:=fun i=>?_,frame:=?_,npar:=fun r hr vs=>?_,al:=fun r c=>?_}
 ·by_cases hr:r = d
  ·subst hr
   simp only[eT,if_true,St.cleared,Wr.ap,bJ]
   exact fun _ _ h=>h
  ·have h1:(eT F d H) (.cell r c) = F (.cell r c):=by simp[eT,hr]
   have h2:(st.cleared d n).rc r c = st.rc r c:=by simp[St.cleared,Wr.ap,gw hr]
   rw[h1,h2]
   have:=R.cell r c
   revert this
   unfold CellOk
   split
   ·rintro⟨⟨v,h,hi⟩,hf⟩;exact⟨⟨v,hhd r c hr v h,hI _ hi⟩,hf⟩
   ·rintro⟨v,h,ho⟩;exact⟨v,hhd r c hr v h,hO _ _ (fun b o h=>⟨_,h⟩) (fun _ _ h=>h) ho⟩
   ·exact fun h=>h
   ·exact fun h=>h
 ·by_cases hr:r = d
  ·subst hr
   simp only[eT,if_true,St.cleared,Wr.ap,ba]
   exact hok
  ·have h1:(eT F d H) (.hdr r) = F (.hdr r):=by simp[eT,hr]
   have h2:(st.cleared d n).rn r = st.rn r:=by simp[St.cleared,Wr.ap,bH _ _ hr]
   rw[h1,h2,bH _ _ hr]
   have:=R.hdr r
   revert this
   unfold j6
   split
   ·rintro⟨h,h'⟩
    refine⟨h,fun c hc=>?_⟩
    obtain⟨e1,e2⟩:=h' c hc
    obtain⟨y,hy⟩:=Option.isSome_iff_exists.1 e1
    rename_i b1 o1 _ _ _
    have:=hs b1 (o1+c) (World.block_lt_of_cell? w _ hy)
    rw[this.1,this.2];exact⟨e1,e2⟩
   ·exact fun h=>h
 ·have:=R.map m
  revert this
  unfold I4
  have e1:(st.cleared d n).mp m = st.mp m:=rfl
  have e2:eT F d H (.map m) = F (.map m):=rfl
  rw[e1,e2]
  split
  ·rintro⟨h,es,cl,h1,h2⟩
   exact⟨h,es,cl,by rw[hb _ (by have:=R.ex (mb m) 0 ⟨.map m,by rw[h]⟩;exact this)];exact h1,h2⟩
  ·exact fun h=>h
 ·have key:∀ i b o,eT F d H i b o→(i = .hdr d∧H b o)∨(F i b o):=by
   intro i b o hi
   cases i with
   |cell r c =>
    simp only[eT]at hi
    split at hi
    ·exact hi.elim
    ·exact .inr hi
   |hdr r =>
    simp only[eT]at hi
    split at hi
    ·rename_i h;subst h;exact .inl ⟨rfl,hi⟩
    ·exact .inr hi
   |map m=>exact .inr hi
   |x=>exact .inr hi
  intro i j hij b o hi hj
  rcases key i b o hi with⟨rfl,h⟩|h <;> rcases key j b o hj with⟨rfl,h'⟩|h'
  ·exact hij rfl
  ·have:=R.ex b o ⟨_,h'⟩;have:=(hH _ _ h).1;omega
  ·have:=R.ex b o ⟨_,h⟩;have:=(hH _ _ h').1;omega
  ·exact R.dis i j hij b o h h'
 ·rcases hN _ _ h with h|h
  ·exact R.fresh b o h
  ·exact .inr (.inr (Nat.le_trans R.frame.size h))
 ·obtain⟨i,hi⟩:=h
  have:tot F b o∨H b o:=by
   cases i with
   |cell r c =>
    simp only[eT]at hi
    split at hi
    ·exact hi.elim
    ·exact .inl ⟨_,hi⟩
   |hdr r =>
    simp only[eT]at hi
    split at hi
    ·exact .inr hi
    ·exact .inl ⟨_,hi⟩
   |map m=>exact .inl ⟨_,hi⟩
   |x=>exact .inl ⟨_,hi⟩
  rcases this with h|h
  ·exact Nat.lt_of_lt_of_le (R.ex b o h) hsz
  ·exact(hH _ _ h).2
 ·by_cases hr:r = d
  ·subst hr;simp[St.cleared,Wr.ap,bJ]
  ·have h2:(st.cleared d n).rc r c = st.rc r c:=by simp[St.cleared,Wr.ap,gw hr]
   rw[h2]
   refine R.live r c fun m hm=>h m ?_
   simp[St.cleared,Wr.ap,bH _ _ hr,hm]
 ·have hc:=St.abv st d n i
  have h0:=RepS.pois (.root d) _ _ (R.slots i)
  have hin:∀ r c,r≠d→InR st r c→InR (st.cleared d n) r c:=by
   rintro r c hr ⟨m,h1,h2⟩
   exact⟨m,by simp[St.cleared,Wr.ap,bH _ _ hr,h1],h2⟩
  have hpl:∀ p b o,p.root≠d→PlaceAt w base st p b o→PlaceAt w' (upd base d bs) (st.cleared d n) p b o:=by
   intro p b o hp h
   rcases p with⟨r,s,o'⟩
   simp only at hp
   cases s with
   |none=>obtain⟨o0,h1,h2⟩:=h;exact⟨o0,by rw[bH _ _ hp];exact h1,h2⟩
   |some s=>obtain⟨c,i,s⟩:=s;obtain⟨h0,o1,l,cap,h1,h2⟩:=h;exact⟨hin r c hp h0,o1,l,cap,hhd r c hp _ h1,h2⟩
  refine RepS.move (st:=st) (fun _ p=>p.root≠d) (fun m=>m≠d) hI (fun p x hp h=>?_) (fun r c lo hi x hp h=>?_) (fun p b o hp h=>hpl p b o hp h) (fun _ _=>rfl) _ _ hc h0 (hb:=fun r c vs hp h=>by rw[bH _ _ hp];exact h)
  ·rcases p with⟨r,s,o⟩
   simp only at hp
   cases s with
   |none=>exact⟨hin r o hp h.1,hhd r o hp x h.2.1,h.2.2⟩
   |some s =>
    obtain⟨c,i,s⟩:=s
    intro k xs he
    have h2:(st.cleared d n).rc r c = st.rc r c:=by simp[St.cleared,Wr.ap,gw hp]
    rw[h2]at he
    obtain⟨e1,e2,e3,b,o',e4,e5⟩:=h k xs he
    exact⟨e1,e2,e3,b,o',hpl _ _ _ hp e4,by rw[(hs _ _ (World.block_lt_of_cell? w _ e5)).1];exact e5⟩
  ·simp only at hp
   intro k xs he
   have h2:(st.cleared d n).rc r c = st.rc r c:=by simp[St.cleared,Wr.ap,gw hp]
   rw[h2]at he
   obtain⟨e1,e2,A,cap,e3,e4⟩:=h k xs he
   exact⟨e1,e2,A,cap,hhd r c hp _ e3,e4⟩
 ·have f:=R.frame
  refine⟨hos.trans f.os,htp.trans f.tape,hop.trans f.output,Nat.le_trans f.size hsz,fun b o hbo hn=>?_,fun b hbo hn=>?_⟩
  ·have:=hs b o (Nat.lt_of_lt_of_le hbo f.size)
   have k:=f.cell b o hbo hn
   exact⟨this.1.trans k.1,this.2.trans k.2⟩
  ·exact(hb b (Nat.lt_of_lt_of_le hbo f.size)).trans (f.block b hbo hn)
 ·by_cases hrd:r = d
  ·subst hrd;rw[ba];exact hbs vs
  ·rw[bH _ _ hrd];exact R.npar r hr vs
 ·by_cases hr:r = d
  ·subst hr
   simp only[St.cleared,Wr.ap,bJ]
   trivial
  ·have h2:(st.cleared d n).rc r c = st.rc r c:=by simp[St.cleared,Wr.ap,gw hr]
   rw[h2]
   have:=R.al r c
   cases hx:st.rc r c with
   |al r' c' =>
    rw[hx]at this
    obtain⟨vs,v,h3,h4,h5,h6⟩:=this
    have hne:r'≠d:=fun e=>by subst e;exact R.npar _ hdn vs h3
    exact⟨vs,v,by rw[bH _ _ hne];exact h3,h4,hhd r c hr v h5,h6⟩
   |_=>trivial
theorem Rel.fill{F1:Fp}(R:Rel g (Fp.or X F1) st a w base mb F)(hX:Fp.dis (Fp.or g.X0 X) F1){d c n:Nat}(hn:st.rn d = some n)(hc:c < n)(he:st.rc d c = .undef)(hcl:I6 d st)
 {y:Value} (hy:hd w base d c = some y) (x:V) (hx:CellOk w (tot F) (some y) x F1) :
 Rel g X ((Wr.rc d c x).ap st) a w base mb (du (du F (.cell d c) F1) .x (Fp.or g.X0 X))∧I6 d ((Wr.rc d c x).ap st):=by
 have hN:∀ b o,tot (du (du F (.cell d c) F1) .x (Fp.or g.X0 X)) b o→tot F b o:=by
  rintro b o ⟨i,hi⟩
  by_cases hix:i = .x
  ·subst hix;rw[aD]at hi
   exact⟨.x,by rw[R.fx];exact hi.imp id .inl⟩
  ·rw[az _ _ hix]at hi
   by_cases hic:i = .cell d c
   ·subst hic;rw[aD]at hi;exact⟨.x,by rw[R.fx];exact .inr (.inr hi)⟩
   ·rw[az _ _ hic]at hi;exact⟨i,hi⟩
 have hI:∀ ob,RepI w (tot F) ob→RepI w (tot (du (du F (.cell d c) F1) .x (Fp.or g.X0 X))) ob:=fun ob h=>h.frame fun b o v hn hv=>⟨hv,fun hn'=>hn (hN _ _ hn')⟩
 refine⟨{nt:=R.nt,par:=R.par,df:=R.df,fx:=aD _ _ _,cell:=fun r' c'=>?_,hdr:=fun r'=>?_,map:=fun m=>?_,dis:=?_,fresh:=fun b o h=>?_,ex:=fun b o h=>R.ex b o (hN _ _ h),live:=fun r' c' h=>?_,slots:=fun i=>?_,frame:=R.frame,npar:=R.npar,al:=fun r' c'=>?_},hcl⟩
 ·by_cases hrc:r' = d∧c' = c
  ·obtain⟨rfl,rfl⟩:=hrc
   rw[az _ _ (by simp),aD]
   simp only[Wr.ap,aW]
   rw[hy]
   exact(hx.mono hI (fun _ h=>h)).un
  ·rw[az _ _ (by simp),az _ _ (by simpa using hrc)]
   simp only[Wr.ap,aV _ _ hrc]
   exact(R.cell r' c').mono hI (fun _ h=>h)
 ·rw[az _ _ (by simp),az _ _ (by simp)];exact R.hdr r'
 ·rw[az _ _ (by simp),az _ _ (by simp)];exact R.map m
 ·intro i j hij b o hi hj
  have key:∀ i,du (du F (.cell d c) F1) .x (Fp.or g.X0 X) i b o→(i = .x∧(Fp.or g.X0 X) b o)∨(i = .cell d c∧F1 b o)∨(i≠.x∧i≠.cell d c∧F i b o):=by
   intro i hi
   by_cases hix:i = .x
   ·subst hix;rw[aD]at hi;exact .inl ⟨rfl,hi⟩
   ·rw[az _ _ hix]at hi
    by_cases hic:i = .cell d c
    ·subst hic;rw[aD]at hi;right;left;exact⟨rfl,hi⟩
    ·rw[az _ _ hic]at hi;right;right;exact⟨hix,hic,hi⟩
  have hxF:∀ {b o},(Fp.or g.X0 X) b o∨F1 b o→F .x b o:=fun h=>by
   rw[R.fx]
   rcases h with(h|h)|h
   ·exact .inl h
   ·exact .inr (.inl h)
   ·exact .inr (.inr h)
  rcases key i hi with⟨rfl,h⟩|⟨rfl,h⟩|⟨hi1,hi',h⟩ <;> rcases key j hj with⟨rfl,h'⟩|⟨rfl,h'⟩|⟨hj1,hj',h'⟩
  ·exact hij rfl
  ·exact hX _ _ h h'
  ·exact R.dis _ _ hj1 b o h' (hxF (.inl h))
  ·exact hX _ _ h' h
  ·exact hij rfl
  ·exact R.dis _ _ hj1 b o h' (hxF (.inr h))
  ·exact R.dis _ _ hi1 b o h (hxF (.inl h'))
  ·exact R.dis _ _ hi1 b o h (hxF (.inr h'))
  ·exact R.dis _ _ hij b o h h'
 ·exact R.fresh b o (hN _ _ h)
 ·by_cases hrc:r' = d∧c' = c
  ·obtain⟨rfl,rfl⟩:=hrc
   exact absurd (h n hn) (by omega)
  ·simp only[Wr.ap,aV _ _ hrc];exact R.live r' c' h
 ·refine RepS.move (st:=st) (st':=(Wr.rc d c x).ap st) (fun _ p=>p.root≠d) (fun m=>m≠d) hI (fun p x' hp h=>?_) (fun r c1 lo hi x' hp h=>?_) (fun p b o hp h=>h.rn rfl) (fun _ _=>rfl) _ _ (hcl i) (R.slots i)
  ·rcases p with⟨r,s,o⟩
   simp only at hp
   cases s with
   |none=>exact h
   |some s =>
    obtain⟨c',i,s⟩:=s
    intro k xs he'
    simp only[Wr.ap,aV _ _ (show ¬(r = d∧c' = c)from fun e=>hp e.1)]at he'
    obtain⟨e1,e2,e3,b,o,e4,e5⟩:=h k xs he'
    exact⟨e1,e2,e3,b,o,e4.rn rfl,e5⟩
  ·simp only at hp
   intro k xs he'
   simp only[Wr.ap,aV _ _ (show ¬(r = d∧c1 = c)from fun e=>hp e.1)]at he'
   exact h k xs he'
 ·by_cases hrc:r' = d∧c' = c
  ·obtain⟨rfl,rfl⟩:=hrc
   simp only[Wr.ap,aW]
   exact hx.noal
  ·simp only[Wr.ap,aV _ _ hrc];exact R.al r' c'
theorem Rel.fillK{F1:Fp}(R:Rel g (Fp.or X F1) st a w base mb F)(hX:Fp.dis (Fp.or g.X0 X) F1){d c n:Nat}(hn:st.rn d = some n)(hc:c < n)(he:st.rc d c = .undef)(hcl:∀ i,V.all (fun b p=>(Kl.refs d c).f b p = false) (fun _=>True) (st.sl i))
 {y:Value} (hy:hd w base d c = some y) (x:V) (hx:CellOk w (tot F) (some y) x F1) :
 Rel g X ((Wr.rc d c x).ap st) a w base mb (du (du F (.cell d c) F1) .x (Fp.or g.X0 X))∧∀ b o,tot (du (du F (.cell d c) F1) .x (Fp.or g.X0 X)) b o→tot F b o:=by
 have hN:∀ b o,tot (du (du F (.cell d c) F1) .x (Fp.or g.X0 X)) b o→tot F b o:=by
  rintro b o ⟨i,hi⟩
  by_cases hix:i = .x
  ·subst hix;rw[aD]at hi
   exact⟨.x,by rw[R.fx];exact hi.imp id .inl⟩
  ·rw[az _ _ hix]at hi
   by_cases hic:i = .cell d c
   ·subst hic;rw[aD]at hi;exact⟨.x,by rw[R.fx];exact .inr (.inr hi)⟩
   ·rw[az _ _ hic]at hi;exact⟨i,hi⟩
 have hI:∀ ob,RepI w (tot F) ob→RepI w (tot (du (du F (.cell d c) F1) .x (Fp.or g.X0 X))) ob:=fun ob h=>h.frame fun b o v hn hv=>⟨hv,fun hn'=>hn (hN _ _ hn')⟩
 refine⟨{nt:=R.nt,par:=R.par,df:=R.df,fx:=aD _ _ _,cell:=fun r' c'=>?_,hdr:=fun r'=>?_,map:=fun m=>?_,dis:=?_,fresh:=fun b o h=>?_,ex:=fun b o h=>R.ex b o (hN _ _ h),live:=fun r' c' h=>?_,slots:=fun i=>?_,frame:=R.frame,npar:=R.npar,al:=fun r' c'=>?_},hN⟩
 ·by_cases hrc:r' = d∧c' = c
  ·obtain⟨rfl,rfl⟩:=hrc
   rw[az _ _ (by simp),aD]
   simp only[Wr.ap,aW]
   rw[hy]
   exact(hx.mono hI (fun _ h=>h)).un
  ·rw[az _ _ (by simp),az _ _ (by simpa using hrc)]
   simp only[Wr.ap,aV _ _ hrc]
   exact(R.cell r' c').mono hI (fun _ h=>h)
 ·rw[az _ _ (by simp),az _ _ (by simp)];exact R.hdr r'
 ·rw[az _ _ (by simp),az _ _ (by simp)];exact R.map m
 ·intro i j hij b o hi hj
  have key:∀ i,du (du F (.cell d c) F1) .x (Fp.or g.X0 X) i b o→(i = .x∧(Fp.or g.X0 X) b o)∨(i = .cell d c∧F1 b o)∨(i≠.x∧i≠.cell d c∧F i b o):=by
   intro i hi
   by_cases hix:i = .x
   ·subst hix;rw[aD]at hi;exact .inl ⟨rfl,hi⟩
   ·rw[az _ _ hix]at hi
    by_cases hic:i = .cell d c
    ·subst hic;rw[aD]at hi;right;left;exact⟨rfl,hi⟩
    ·rw[az _ _ hic]at hi;right;right;exact⟨hix,hic,hi⟩
  have hxF:∀ {b o},(Fp.or g.X0 X) b o∨F1 b o→F .x b o:=fun h=>by
   rw[R.fx]
   rcases h with(h|h)|h
   ·exact .inl h
   ·exact .inr (.inl h)
   ·exact .inr (.inr h)
  rcases key i hi with⟨rfl,h⟩|⟨rfl,h⟩|⟨hi1,hi',h⟩ <;> rcases key j hj with⟨rfl,h'⟩|⟨rfl,h'⟩|⟨hj1,hj',h'⟩
  ·exact hij rfl
  ·exact hX _ _ h h'
  ·exact R.dis _ _ hj1 b o h' (hxF (.inl h))
  ·exact hX _ _ h' h
  ·exact hij rfl
  ·exact R.dis _ _ hj1 b o h' (hxF (.inr h))
  ·exact R.dis _ _ hi1 b o h (hxF (.inl h'))
  ·exact R.dis _ _ hi1 b o h (hxF (.inr h'))
  ·exact R.dis _ _ hij b o h h'
 ·exact R.fresh b o (hN _ _ h)
 ·by_cases hrc:r' = d∧c' = c
  ·obtain⟨rfl,rfl⟩:=hrc
   exact absurd (h n hn) (by omega)
  ·simp only[Wr.ap,aV _ _ hrc];exact R.live r' c' h
 ·refine RepS.move (st:=st) (st':=(Wr.rc d c x).ap st) (fun b p=>(Kl.refs d c).f b p = false) (fun _=>True) hI (fun p x' hp h=>?_) (fun r c1 lo hi x' hp h=>?_) (fun p b o hp h=>h.rn rfl) (fun _ _=>rfl) _ _ (hcl i) (R.slots i)
  ·rcases p with⟨r,s,o⟩
   cases s with
   |none=>exact h
   |some s =>
    obtain⟨c',i,s⟩:=s
    intro k xs he'
    have hne:¬(r = d∧c' = c):=by
     rintro⟨rfl,rfl⟩
     simp[Kl.f,bJ]at hp
    simp only[Wr.ap,aV _ _ hne]at he'
    obtain⟨e1,e2,e3,b,o,e4,e5⟩:=h k xs he'
    exact⟨e1,e2,e3,b,o,e4.rn rfl,e5⟩
  ·have hne:¬(r = d∧c1 = c):=by
    rintro⟨rfl,rfl⟩
    simp[Kl.f,bJ]at hp
   intro k xs he'
   simp only[Wr.ap,aV _ _ hne]at he'
   exact h k xs he'
 ·by_cases hrc:r' = d∧c' = c
  ·obtain⟨rfl,rfl⟩:=hrc
   simp only[Wr.ap,aW]
   exact hx.noal
  ·simp only[Wr.ap,aV _ _ hrc];exact R.al r' c'
inductive Held (w:World) (N:Fp):List V→List Value→Fp→Prop where
 |nil:Held w N [] [] Fp.none
 |cons {x y xs ys F1 F2} (h:CellOk w N (some y) x F1) (h1:y.oneCell' = true) (t:Held w N xs ys F2) (hd:Fp.dis F1 F2):Held w N (x :: xs) (y :: ys) (Fp.or F1 F2)
theorem Held.length{w:World}{N:Fp}{xs:List V}{ys:List Value}{F:Fp}(h:Held w N xs ys F):xs.length = ys.length:=by
 induction h with
 |nil=>rfl
 |cons _ _ _ _ ih=>simp[ih]
theorem Held.oneCell{w:World}{N:Fp}{xs:List V}{ys:List Value}{F:Fp}(h:Held w N xs ys F):∀ y∈ys,y.oneCell' = true:=by
 induction h with
 |nil=>simp
 |cons _ h1 _ _ ih=>intro y hy;rcases List.mem_cons.1 hy with rfl|hy;· exact h1
                    ·exact ih y hy
theorem Held.mono{w w':World}{N N':Fp}{xs:List V}{ys:List Value}{F:Fp}(h:Held w N xs ys F)(hI:∀ ob,RepI w N ob→RepI w' N' ob)
 (hO:∀ ob G,(∀ b o,G b o→F b o)→(∀ b o,ob.reg b o→False)→RepO w ob G→RepO w' ob G):Held w' N' xs ys F:=by
 induction h with
 |nil=>exact .nil
 |@cons x y xs ys F1 F2 h h1 _ hd ih =>
  refine .cons ?_ h1 (ih fun ob G hG hr=>hO ob G (fun b o h=>.inr (hG b o h)) hr) hd
  revert h
  unfold CellOk
  split
  ·rintro⟨⟨v,h,hi⟩,hf⟩;exact⟨⟨v,h,hI _ hi⟩,hf⟩
  ·rintro⟨v,h,ho⟩;exact⟨v,h,hO _ _ (fun b o h=>.inl h) (fun _ _ h=>h) ho⟩
  ·exact fun h=>h
  ·exact fun h=>h
def St.fills(st:St)(d:Nat):Nat→List V→St
 |_,[]=>st
 |o,c :: cs=>St.fills ((Wr.rc d o c).ap st) d (o+1) cs
theorem BC(d:Nat):∀ (cs:List V) (o:Nat) (st:St),(Iw d o cs).run st = some ((),st.fills d o cs)
 |[],_,_=>rfl
 |_ :: cs,o,st=>by simp only[Iw,Cmd.run,St.fills];exact BC d cs (o+1) _
theorem dA(d:Nat)(cs:List V)(st:St):(fT d cs).run st = some ((),(st.cleared d cs.length).fills d 0 cs):=by
 simp only[fT,Cmd.run];exact BC d cs 0 _
theorem Rel.fills{d n:Nat}:∀ {cs:List V} {X:Fp} {F:Ix→Fp} {st:St} {F1:Fp} {o:Nat} {ys:List Value},Rel g (Fp.or X F1) st a w base mb F→Fp.dis (Fp.or g.X0 X) F1→Held w (tot F) cs ys F1→st.rn d = some n→o+cs.length≤n→
 (∀ j,j < cs.length→st.rc d (o+j) = .undef)→I6 d st→(∀ j,j < cs.length→hd w base d (o+j) = ys[j]?)→
 ∃ F',Rel g X (st.fills d o cs) a w base mb F'∧I6 d (st.fills d o cs)∧∀ b o,tot F' b o→tot F b o
 |[],X,F,st,F1,o,ys,R,_,h,_,_,_,hcl,_=>by
  cases h
  rw[Fp.or_none]at R
  exact⟨F,R,hcl,fun _ _ h=>h⟩
 |c :: cs,X,F,st,F0,o,ys0,R,hX,h0,hn,ho,hu,hcl,hh=>by
  cases h0 with
  |@cons _ y _ ys F1 F2 h h1 t hd' =>
   have e:Fp.or X (Fp.or F1 F2) = Fp.or (Fp.or X F2) F1:=by rw[Fp.or_assoc,Fp.or_comm F2 F1]
   rw[e]at R
   have hX':Fp.dis (Fp.or g.X0 (Fp.or X F2)) F1:=fun b o h1 h2=>by
    rcases h1 with h1|h1|h1
    ·exact hX b o (.inl h1) (.inl h2)
    ·exact hX b o (.inr h1) (.inl h2)
    ·exact hd' b o h2 h1
   obtain⟨R1,hc1⟩:=Rel.fill R hX' hn (show o < n by simp at ho;omega) (by simpa using hu 0 (by simp)) hcl (by simpa using hh 0 (by simp)) c h
   have hsub:∀ b o',tot (du (du F (.cell d o) F1) .x (Fp.or g.X0 (Fp.or X F2))) b o'→tot F b o':=by
    rintro b o' ⟨i,hi⟩
    by_cases hix:i = .x
    ·subst hix;rw[aD]at hi;exact⟨.x,by rw[R.fx];exact hi.imp id .inl⟩
    ·rw[az _ _ hix]at hi
     by_cases hic:i = .cell d o
     ·subst hic;rw[aD]at hi;exact⟨.x,by rw[R.fx];exact .inr (.inr hi)⟩
     ·rw[az _ _ hic]at hi;exact⟨i,hi⟩
   obtain⟨F',R2,hc2,hs2⟩:=Rel.fills (o:=o+1) R1 (fun b o h1 h2=>hX b o h1 (.inr h2))
    (t.mono (fun ob h=>h.frame fun b o v hn hv=>⟨hv,fun hn'=>hn (hsub _ _ hn')⟩) (fun ob G _ _ h=>h)) hn (by simp at ho;omega)
    (fun j hj=>by
     have:=hu (j+1) (by simp;omega)
     simp only[Wr.ap]
     rw[aV _ _ (by omega),show o+1+j = o+ (j+1) by omega];exact this) hc1
    (fun j hj=>by
     have:=hh (j+1) (by simp;omega)
     rw[show o+1+j = o+ (j+1) by omega];simpa using this)
   exact⟨F',R2,hc2,fun b o h=>hsub b o (hs2 b o h)⟩
theorem Rel.newTmp{F1:Fp}(R:Rel g (Fp.or X F1) st a w base mb F)(hX:Fp.dis (Fp.or g.X0 X) F1)(d:Nat)(hdn:d < g.nt){cs:List V}{ys:List Value}(h:Held w (tot F) cs ys F1) :
 ∃ F',Rel g X ((st.cleared d cs.length).fills d 0 cs) a w (upd base d (.tmp ys)) mb F':=by
 have R1:=R.clear d cs.length hdn (.tmp ys) w Fp.none (fun b o _=>Same.refl _ _ _) (Nat.le_refl _) (fun _ _=>rfl) rfl rfl rfl (fun _ _ h=>h.elim) (by simp only[j6];exact fun _ _ h=>h)
 have hsub:∀ b o,tot (eT F d Fp.none) b o→tot F b o:=by
  rintro b o ⟨i,hi⟩
  cases i with
  |cell r c=>simp only[eT]at hi;split at hi;· exact hi.elim
             ·exact⟨_,hi⟩
  |hdr r=>simp only[eT]at hi;split at hi;· exact hi.elim
          ·exact⟨_,hi⟩
  |map m=>exact⟨_,hi⟩
  |x=>exact⟨_,hi⟩
 obtain⟨F',R2,_,_⟩:=Rel.fills (d:=d) (n:=cs.length) (o:=0) R1 hX (h.mono (fun ob h=>h.frame fun b o v hn hv=>⟨hv,fun hn'=>hn (hsub _ _ hn')⟩) (fun ob G _ _ h=>h))
  (by simp[St.cleared,Wr.ap,ba]) (by omega) (fun j _=>by simp[St.cleared,Wr.ap,bJ]) (St.abv _ _ _)
  (fun j hj=>by simp only[hd,ba];simp)
 exact⟨F',R2⟩
theorem Rel.newMem{F1:Fp}(R:Rel g (Fp.or X F1) st a w base mb F)(hX:Fp.dis (Fp.or g.X0 X) F1)(d:Nat)(hdn:d < g.nt){cs:List V}{ys:List Value}(h:Held w (tot F) cs ys F1)(e:TypeId) :
 ∃ F',Rel g X ((st.cleared d cs.length).fills d 0 cs) a (w.alloc (.cells ys.toArray e)) (upd base d (.mem w.heap.size 0)) mb F':=by
 have hl:=h.length
 have hs:∀ b o,b < w.heap.size→Same w (w.alloc (.cells ys.toArray e)) b o:=fun b o hb=>⟨World.cell?_alloc_lt _ _ _ hb,World.frozen?_alloc_old _ _ _ (by simp;omega)⟩
 have R1:=R.clear d cs.length hdn (.mem w.heap.size 0) (w.alloc (.cells ys.toArray e)) (region w.heap.size 0 cs.length) hs (by simp) (fun b hb=>by simp only[World.alloc];rw[Array.getElem?_push,if_neg (by omega)]) rfl rfl rfl
  (fun b o h=>by simp[h.1]) (by
   simp only[j6]
   refine⟨trivial,fun c hc=>?_⟩
   rw[World.cell?_alloc_new,World.frozen?_alloc_new]
   simp;omega)
 have hsub:∀ b o,b < w.heap.size→tot (eT F d (region w.heap.size 0 cs.length)) b o→tot F b o:=by
  rintro b o hb ⟨i,hi⟩
  cases i with
  |cell r c=>simp only[eT]at hi;split at hi;· exact hi.elim
             ·exact⟨_,hi⟩
  |hdr r=>simp only[eT]at hi;split at hi;· exact absurd hi.1 (by omega)
          ·exact⟨_,hi⟩
  |map m=>exact⟨_,hi⟩
  |x=>exact⟨_,hi⟩
 obtain⟨F',R2,_,_⟩:=Rel.fills (d:=d) (n:=cs.length) (o:=0) R1 hX
  (h.mono (fun ob h=>h.frame fun b o v hn hv=>⟨by rw[(hs b o (World.block_lt_of_cell? w _ hv)).1];exact hv,fun hn'=>hn (hsub _ _ (World.block_lt_of_cell? w _ hv) hn')⟩)
   (fun ob G hG hr h=>h.frame fun b o hbo=>by
    rcases hbo with hbo|hbo
    ·exact hs b o (R.ex b o ⟨.x,by rw[R.fx];exact .inr (.inr (hG b o hbo))⟩)
    ·exact(hr _ _ hbo).elim))
  (by simp[St.cleared,Wr.ap,ba]) (by omega) (fun j _=>by simp[St.cleared,Wr.ap,bJ]) (St.abv _ _ _)
  (fun j hj=>by
   simp only[hd,ba]
   rw[World.cell?_alloc_new];simp)
 exact⟨F',R2⟩
theorem Rel.put(R:Rel g X st a w base mb F){d:Nat}(hd:d < g.nt){v:V}{x:Value}(h:RepS w (tot F) base mb st v x):Rel g X ((Wr.sl d v).ap st) (a.put (some d) x) w base mb F:=by
 have hs:∀ i,RepS w (tot F) base mb ((Wr.sl d v).ap st) (((Wr.sl d v).ap st).sl i) ((a.put (some d) x).tmps.getD i Go.undef):=fun i=>by
  have key:∀ v x,RepS w (tot F) base mb st v x→RepS w (tot F) base mb ((Wr.sl d v).ap st) v x:=fun v x h=>RepS.rc (st:=st) v x rfl (fun r c k xs h=>⟨xs,h,rfl⟩) h
  by_cases hi:i = d
  ·subst hi
   have e1:((Wr.sl i v).ap st).sl i = v:=ba _ _ _
   have e2:(a.put (some i) x).tmps.getD i Go.undef = x:=by
    have:i < a.tmps.size:=by rw[R.nt];exact hd
    simp[Act.put,Array.getD,this]
   rw[e1,e2];exact RepS.rc (st:=st) v x rfl (fun r c k xs h=>⟨xs,h,rfl⟩) h
  ·have e1:((Wr.sl d v).ap st).sl i = st.sl i:=bH _ _ hi
   have e2:(a.put (some d) x).tmps.getD i Go.undef = a.tmps.getD i Go.undef:=by
    simp only[Act.put,Array.getD_eq_getD_getElem?]
    rw[Array.getElem?_setIfInBounds_ne (Ne.symm hi)]
   rw[e1,e2];exact RepS.rc (st:=st) _ _ rfl (fun r c k xs h=>⟨xs,h,rfl⟩) (R.slots i)
 exact{nt:=by simp[Act.put];exact R.nt,par:=R.par,df:=R.df,fx:=R.fx,cell:=R.cell,hdr:=R.hdr,map:=R.map,dis:=R.dis,fresh:=R.fresh,ex:=R.ex,live:=R.live,slots:=hs,frame:=R.frame,npar:=R.npar,al:=R.al}
def wrF(F:Ix→Fp)(r o:Nat)(F2 X:Fp):Ix→Fp:=du (du F (.cell r o) F2) .x X
theorem nY(w:World)(a:Addr)(u:Value)(k:Nat)(h:k≠a.block):(w.setCell a u).heap[k]? = w.heap[k]?:=by
 simp only[World.setCell,Array.getElem?_modify]
 rw[if_neg (by omega)]
theorem eu(w:World)(b0 q0:Nat)(y:Value){b q:Nat}(h:¬(b = b0∧q = q0)):Same w (w.setCell ⟨b0,q0,none⟩ y) b q :=
 ⟨World.cell?_setCell_other _ _ _ _ (by intro e;injection e with e1 e2;exact h ⟨e1.symm,e2.symm⟩),World.frozen?_setCell _ _ _ _⟩
theorem Rel.wrTot{F1 F2:Fp}(R:Rel g (Fp.or X F1) st a w base mb F){r o:Nat}(h2:∀ b q,F2 b q→F (.cell r o) b q∨F1 b q):∀ b q,tot (wrF F r o F2 (Fp.or g.X0 X)) b q→tot F b q:=by
 rintro b q ⟨i,hi⟩
 by_cases hix:i = .x
 ·subst hix;rw[wrF,aD]at hi
  exact⟨.x,by rw[R.fx];exact hi.imp id .inl⟩
 ·rw[wrF,az _ _ hix]at hi
  by_cases hic:i = .cell r o
  ·subst hic;rw[aD]at hi
   rcases h2 _ _ hi with h|h
   ·exact⟨_,h⟩
   ·exact⟨.x,by rw[R.fx];exact .inr (.inr h)⟩
  ·rw[az _ _ hic]at hi;exact⟨i,hi⟩
theorem Rel.wrI{F1 F2:Fp}(R:Rel g (Fp.or X F1) st a w base mb F){r o:Nat}(h2:∀ b q,F2 b q→F (.cell r o) b q∨F1 b q){b0 q0:Nat}(hD:tot F b0 q0)(y:Value) :
 ∀ ob,RepI w (tot F) ob→RepI (w.setCell ⟨b0,q0,none⟩ y) (tot (wrF F r o F2 (Fp.or g.X0 X))) ob:=fun ob h=>h.frame fun b q v hn' hv =>
 ⟨by rw[(eu w b0 q0 y (by rintro⟨rfl,rfl⟩;exact hn' hD)).1];exact hv,fun h'=>hn' (R.wrTot h2 _ _ h')⟩
theorem Rel.x0(R:Rel g X st a w base mb F){i:Ix}(hi:i≠.x){b o:Nat}(h:F i b o)(h0:g.X0 b o):False :=
 R.dis i .x hi b o h (by rw[R.fx];exact .inl h0)
theorem Rel.live'(R:Rel g X st a w base mb F){r c:Nat}(h:st.rc r c≠.undef):InR st r c :=
 Classical.byContradiction fun hc=>h (R.live r c fun m hm=>Nat.le_of_not_lt fun hlt=>hc ⟨m,hm,hlt⟩)
theorem Rel.hdrAt(R:Rel g X st a w base mb F){r c b o:Nat}(hi:InR st r c)(hb:base r = .mem b o):F (.hdr r) b (o+c):=by
 obtain⟨n,h1,h2⟩:=hi
 have:=R.hdr r
 rw[hb,h1]at this
 rw[this.1];exact⟨rfl,by omega,Nat.add_lt_add_left h2 o⟩
theorem Rel.hdWrite(R:Rel g X st a w base mb F){r o b0 q0:Nat}(y:Value)(hD:(F (.cell r o) b0 q0)∨(∃ o0,base r = .mem b0 o0∧q0 = o0+o∧F (.hdr r) b0 q0)){r' c':Nat}(hi:InR st r' c')(hne:¬(r' = r∧c' = o)) :
 hd (w.setCell ⟨b0,q0,none⟩ y) base r' c' = hd w base r' c':=by
 unfold hd
 split
 ·rename_i b1 o1 hb1
  refine(eu w b0 q0 y ?_).1
  rintro⟨rfl,he⟩
  have hA:=R.hdrAt hi hb1
  rw[he]at hA
  rcases hD with hD|⟨o0,h0,h1,hD⟩
  ·exact R.dis (.hdr r') (.cell r o) (by simp) _ _ hA hD
  ·by_cases hrr:r' = r
   ·subst hrr
    rw[h0]at hb1;injection hb1 with e1 e2
    exact hne ⟨rfl,by omega⟩
   ·exact R.dis (.hdr r') (.hdr r) (by simpa using hrr) _ _ hA hD
 ·rfl
 ·rfl
theorem Rel.write{F1 F2:Fp}(R:Rel g (Fp.or X F1) st a w base mb F)(hX:Fp.dis (Fp.or g.X0 X) F1){r o b0 q0:Nat}(hin:InR st r o)
 (hD:(F (.cell r o) b0 q0)∨(∃ o0,base r = .mem b0 o0∧q0 = o0+o∧F (.hdr r) b0 q0)) (hex:(w.cell? ⟨b0,q0,none⟩).isSome = true)
 (h2:∀ b q,F2 b q→F (.cell r o) b q∨F1 b q) (y:Value) (x:V)
 (hx:CellOk (w.setCell ⟨b0,q0,none⟩ y) (tot (wrF F r o F2 (Fp.or g.X0 X))) (hd (w.setCell ⟨b0,q0,none⟩ y) base r o) x F2)
 (hsl:∀ i,RepS (w.setCell ⟨b0,q0,none⟩ y) (tot (wrF F r o F2 (Fp.or g.X0 X))) base mb ((Wr.rc r o x).ap st) (st.sl i) (a.tmps.getD i Go.undef)) :
 Rel g X ((Wr.rc r o x).ap st) a (w.setCell ⟨b0,q0,none⟩ y) base mb (wrF F r o F2 (Fp.or g.X0 X)):=by
 have hDt:tot F b0 q0:=by rcases hD with h|⟨_,_,_,h⟩ <;> exact⟨_,h⟩
 have hnotD:∀ i,i≠.hdr r→i≠.cell r o→∀ b q,F i b q→¬(b = b0∧q = q0):=by
  rintro i hi hi' b q h ⟨rfl,rfl⟩
  rcases hD with hD|⟨_,_,_,hD⟩
  ·exact R.dis _ _ hi' _ _ h hD
  ·exact R.dis _ _ hi _ _ h hD
 obtain⟨y0,hy0⟩:=Option.isSome_iff_exists.1 hex
 have hI:=R.wrI h2 hDt y
 have hsome:∀ b q,(w.cell? ⟨b,q,none⟩).isSome = true→((w.setCell ⟨b0,q0,none⟩ y).cell? ⟨b,q,none⟩).isSome = true:=by
  intro b q h
  by_cases hq:b = b0∧q = q0
  ·obtain⟨rfl,rfl⟩:=hq;rw[World.cell?_setCell_same _ _ _ hy0];rfl
  ·rw[(eu w b0 q0 y hq).1];exact h
 have hxF:∀ {b q},(Fp.or g.X0 X) b q∨F1 b q→F .x b q:=fun h=>by
  rw[R.fx]
  rcases h with(h|h)|h
  ·exact .inl h
  ·exact .inr (.inl h)
  ·exact .inr (.inr h)
 refine{nt:=R.nt,par:=R.par,df:=R.df,fx:=aD _ _ _,cell:=fun r' c'=>?_,hdr:=fun r'=>?_,map:=fun m=>?_,dis:=?_,fresh:=fun b o h=>R.fresh b o (R.wrTot h2 _ _ h),ex:=fun b o h=>by rw[World.size_setCell];exact R.ex b o (R.wrTot h2 _ _ h),live:=fun r' c' h=>?_,slots:=hsl,frame:=?_,npar:=R.npar,al:=fun r' c'=>?_}
 ·by_cases hrc:r' = r∧c' = o
  ·obtain⟨rfl,rfl⟩:=hrc
   have e:wrF F r' c' F2 (Fp.or g.X0 X) (.cell r' c') = F2:=by rw[wrF,az _ _ (by simp),aD]
   rw[e]
   simp only[Wr.ap,aW]
   exact hx.un
  ·have e:wrF F r o F2 (Fp.or g.X0 X) (.cell r' c') = F (.cell r' c'):=by rw[wrF,az _ _ (by simp),az _ _ (by simpa using hrc)]
   rw[e]
   simp only[Wr.ap,aV _ _ hrc]
   by_cases hu:st.rc r' c' = .undef
   ·have:=R.cell r' c'
    rw[hu]at this ⊢
    exact this
   ·have:=R.cell r' c'
    rw[R.hdWrite y hD (R.live' hu) hrc]
    revert this
    unfold CellOk
    split
    ·rintro⟨⟨v,h,hi⟩,hf⟩;exact⟨⟨v,h,hI _ hi⟩,hf⟩
    ·rintro⟨v,h,ho⟩
     refine⟨v,h,ho.frame fun b q hbq=>?_⟩
     rcases hbq with hbq|hbq
     ·exact eu w b0 q0 y (hnotD _ (by simp) (by simpa using hrc) b q hbq)
     ·exact hbq.elim
    ·exact fun h=>h
    ·exact fun h=>h
 ·have e:wrF F r o F2 (Fp.or g.X0 X) (.hdr r') = F (.hdr r'):=by rw[wrF,az _ _ (by simp),az _ _ (by simp)]
  rw[e]
  have e':((Wr.rc r o x).ap st).rn r' = st.rn r':=rfl
  rw[e']
  have:=R.hdr r'
  revert this
  unfold j6
  split
  ·rintro⟨h,h'⟩
   exact⟨h,fun c hc=>⟨hsome _ _ (h' c hc).1,by rw[World.frozen?_setCell];exact(h' c hc).2⟩⟩
  ·exact fun h=>h
 ·have e:wrF F r o F2 (Fp.or g.X0 X) (.map m) = F (.map m):=by rw[wrF,az _ _ (by simp),az _ _ (by simp)]
  rw[e]
  have e':((Wr.rc r o x).ap st).mp m = st.mp m:=rfl
  rw[e']
  have:=R.map m
  revert this
  unfold I4
  split
  ·rintro⟨h,es,cl,h1,h2⟩
   refine⟨h,es,cl,?_,h2⟩
   rw[nY _ _ _ _ (fun e=>hnotD (.map m) (by simp) (by simp) b0 q0 (by rw[h];exact e.symm) ⟨rfl,rfl⟩)]
   exact h1
  ·exact fun h=>h
 ·have key:∀ i b q,wrF F r o F2 (Fp.or g.X0 X) i b q→(i = .x∧(Fp.or g.X0 X) b q)∨(i = .cell r o∧(F (.cell r o) b q∨F1 b q))∨(i≠.x∧i≠.cell r o∧F i b q):=by
   intro i b q hi
   by_cases hix:i = .x
   ·subst hix;rw[wrF,aD]at hi;exact .inl ⟨rfl,hi⟩
   ·rw[wrF,az _ _ hix]at hi
    by_cases hic:i = .cell r o
    ·subst hic;rw[aD]at hi;right;left;exact⟨rfl,h2 _ _ hi⟩
    ·rw[az _ _ hic]at hi;right;right;exact⟨hix,hic,hi⟩
  intro i j hij b q hi hj
  rcases key i b q hi with⟨rfl,h⟩|⟨rfl,h⟩|⟨hi1,hi',h⟩ <;> rcases key j b q hj with⟨rfl,h'⟩|⟨rfl,h'⟩|⟨hj1,hj',h'⟩
  ·exact hij rfl
  ·rcases h' with h'|h'
   ·exact R.dis _ _ (by simp) b q h' (hxF (.inl h))
   ·exact hX _ _ h h'
  ·exact R.dis _ _ hj1 b q h' (hxF (.inl h))
  ·rcases h with h|h
   ·exact R.dis _ _ (by simp) b q h (hxF (.inl h'))
   ·exact hX _ _ h' h
  ·exact hij rfl
  ·rcases h with h|h
   ·exact R.dis _ _ hj' b q h' h
   ·exact R.dis _ _ hj1 b q h' (hxF (.inr h))
  ·exact R.dis _ _ hi1 b q h (hxF (.inl h'))
  ·rcases h' with h'|h'
   ·exact R.dis _ _ hi' b q h h'
   ·exact R.dis _ _ hi1 b q h (hxF (.inr h'))
  ·exact R.dis _ _ hij b q h h'
 ·by_cases hrc:r' = r∧c' = o
  ·obtain⟨rfl,rfl⟩:=hrc
   obtain⟨n,h1,h3⟩:=hin
   exact absurd (h n h1) (by omega)
  ·simp only[Wr.ap,aV _ _ hrc];exact R.live r' c' h
 ·have f:=R.frame
  refine⟨f.os,f.tape,f.output,by rw[World.size_setCell];exact f.size,fun b q hb hn=>?_,fun b hb hn=>?_⟩
  ·have:=f.cell b q hb hn
   have hs:=eu w b0 q0 y (b:=b) (q:=q) (by
    rintro⟨rfl,rfl⟩
    rcases R.fresh _ _ hDt with h|h|h
    ·rcases hD with hD|⟨_,_,_,hD⟩
     ·exact(R.x0 (by simp) hD h).elim
     ·exact(R.x0 (by simp) hD h).elim
    ·exact hn h
    ·omega)
   exact⟨hs.1.trans this.1,hs.2.trans this.2⟩
  ·rw[nY _ _ _ _ (by
    rintro rfl
    rcases R.fresh _ _ hDt with h|h|h
    ·rcases hD with hD|⟨_,_,_,hD⟩
     ·exact(R.x0 (by simp) hD h).elim
     ·exact(R.x0 (by simp) hD h).elim
    ·exact hn _ h
    ·omega)]
   exact f.block b hb hn
 ·by_cases hrc:r' = r∧c' = o
  ·obtain⟨rfl,rfl⟩:=hrc
   simp only[Wr.ap,aW]
   exact hx.noal
  ·simp only[Wr.ap,aV _ _ hrc]
   by_cases hu:st.rc r' c' = .undef
   ·rw[hu];trivial
   ·rw[R.hdWrite y hD (R.live' hu) hrc];exact R.al r' c'
def fo(F:Ix→Fp)(d:Nat)(H Y:Fp):Ix→Fp
 |.cell r c=>if r = d then Fp.none else F (.cell r c)
 |.hdr r=>if r = d then H else F (.hdr r)
 |.map m=>F (.map m)
 |.x=>Y
theorem Rel.clear2(R:Rel g X st a w base mb F)(d n:Nat)(hdn:d < g.nt)(bs:Base)(H X':Fp)
 (hp:∀ b o,H b o∨X' b o→X b o∨F (.hdr d) b o) (hHX:Fp.dis (Fp.or g.X0 X') H) (hok:j6 w bs (some n) H) (hbs:∀ vs,bs≠.par vs:=by intro _ h;cases h) :
 Rel g X' (st.cleared d n) a w (upd base d bs) mb (fo F d H (Fp.or g.X0 X'))∧∀ b o,tot (fo F d H (Fp.or g.X0 X')) b o→tot F b o:=by
 have hXF:∀ b o,X b o→F .x b o:=fun b o h=>by rw[R.fx];exact .inr h
 have h0F:∀ b o,g.X0 b o→F .x b o:=fun b o h=>by rw[R.fx];exact .inl h
 have hN:∀ b o,tot (fo F d H (Fp.or g.X0 X')) b o→tot F b o:=by
  rintro b o ⟨i,hi⟩
  cases i with
  |cell r c =>
   simp only[fo]at hi
   split at hi
   ·exact hi.elim
   ·exact⟨_,hi⟩
  |hdr r =>
   simp only[fo]at hi
   split at hi
   ·rcases hp b o (.inl hi)with h|h
    ·exact⟨_,hXF _ _ h⟩
    ·exact⟨_,h⟩
   ·exact⟨_,hi⟩
  |map m=>exact⟨_,hi⟩
  |x =>
   simp only[fo]at hi
   rcases hi with hi|hi
   ·exact⟨_,h0F _ _ hi⟩
   ·rcases hp b o (.inr hi)with h|h
    ·exact⟨_,hXF _ _ h⟩
    ·exact⟨_,h⟩
 have hI:∀ ob,RepI w (tot F) ob→RepI w (tot (fo F d H (Fp.or g.X0 X'))) ob:=fun ob h=>h.frame fun b o v hn hv=>⟨hv,fun hn'=>hn (hN _ _ hn')⟩
 have hhd:∀ r c,r≠d→∀ y,hd w base r c = some y→hd w (upd base d bs) r c = some y:=by
  intro r c hr y
  unfold hd
  rw[bH _ _ hr]
  exact fun h=>h
 refine⟨{nt:=R.nt,par:=fun r hr=>by rw[bH _ _ (by omega)];exact R.par r hr,df:=R.df,fx:=rfl,cell:=fun r c=>?_,hdr:=fun r=>?_,map:=fun m=>?_,dis:=?_,fresh:=fun b o h=>R.fresh b o (hN _ _ h),ex:=fun b o h=>R.ex b o (hN _ _ h),live:=fun r c h=>?_,slots:=fun i=>?_,frame:=R.frame,npar:=fun r hr vs=>?_,al:=fun r c=>?_},hN⟩
 ·by_cases hr:r = d
  ·subst hr
   simp only[fo,if_true,St.cleared,Wr.ap,bJ]
   exact fun _ _ h=>h
  ·have h1:(fo F d H (Fp.or g.X0 X')) (.cell r c) = F (.cell r c):=by simp[fo,hr]
   have h2:(st.cleared d n).rc r c = st.rc r c:=by simp[St.cleared,Wr.ap,gw hr]
   rw[h1,h2]
   have:=R.cell r c
   revert this
   unfold CellOk
   split
   ·rintro⟨⟨v,h,hi⟩,hf⟩;exact⟨⟨v,hhd r c hr v h,hI _ hi⟩,hf⟩
   ·rintro⟨v,h,ho⟩;exact⟨v,hhd r c hr v h,ho⟩
   ·exact fun h=>h
   ·exact fun h=>h
 ·by_cases hr:r = d
  ·subst hr
   simp only[fo,if_true,St.cleared,Wr.ap,ba]
   exact hok
  ·have h1:(fo F d H (Fp.or g.X0 X')) (.hdr r) = F (.hdr r):=by simp[fo,hr]
   have h2:(st.cleared d n).rn r = st.rn r:=by simp[St.cleared,Wr.ap,bH _ _ hr]
   rw[h1,h2,bH _ _ hr]
   exact R.hdr r
 ·exact R.map m
 ·have key:∀ i b o,fo F d H (Fp.or g.X0 X') i b o→(i = .hdr d∧H b o)∨(i = .x∧(g.X0 b o∨X' b o))∨(i≠.hdr d∧i≠.x∧F i b o):=by
   intro i b o hi
   cases i with
   |cell r c =>
    simp only[fo]at hi
    split at hi
    ·exact hi.elim
    ·exact .inr (.inr ⟨by simp,by simp,hi⟩)
   |hdr r =>
    simp only[fo]at hi
    split at hi
    ·rename_i h;subst h;exact .inl ⟨rfl,hi⟩
    ·rename_i h;exact .inr (.inr ⟨by simpa using h,by simp,hi⟩)
   |map m=>exact .inr (.inr ⟨by simp,by simp,hi⟩)
   |x=>exact .inr (.inl ⟨rfl,hi⟩)
  have hsrc:∀ b o,H b o∨(g.X0 b o∨X' b o)→F .x b o∨F (.hdr d) b o:=fun b o h=>by
   rcases h with h|h|h
   ·exact(hp b o (.inl h)).imp (hXF b o) id
   ·exact .inl (h0F b o h)
   ·exact(hp b o (.inr h)).imp (hXF b o) id
  have off:∀ i b o,i≠.hdr d→i≠.x→F i b o→(H b o∨(g.X0 b o∨X' b o))→False:=fun i b o h1 h2 hi h=>by
   rcases hsrc b o h with h|h
   ·exact R.dis _ _ h2 b o hi h
   ·exact R.dis _ _ h1 b o hi h
  intro i j hij b o hi hj
  rcases key i b o hi with⟨rfl,h⟩|⟨rfl,h⟩|⟨i1,i2,h⟩ <;> rcases key j b o hj with⟨rfl,h'⟩|⟨rfl,h'⟩|⟨j1,j2,h'⟩
  ·exact hij rfl
  ·exact hHX b o h' h
  ·exact off _ b o j1 j2 h' (.inl h)
  ·exact hHX b o h h'
  ·exact hij rfl
  ·exact off _ b o j1 j2 h' (.inr h)
  ·exact off _ b o i1 i2 h (.inl h')
  ·exact off _ b o i1 i2 h (.inr h')
  ·exact R.dis i j hij b o h h'
 ·by_cases hr:r = d
  ·subst hr;simp[St.cleared,Wr.ap,bJ]
  ·have h2:(st.cleared d n).rc r c = st.rc r c:=by simp[St.cleared,Wr.ap,gw hr]
   rw[h2]
   refine R.live r c fun m hm=>h m ?_
   simp[St.cleared,Wr.ap,bH _ _ hr,hm]
 ·have hc:=St.abv st d n i
  have h0:=RepS.pois (.root d) _ _ (R.slots i)
  have hin:∀ r c,r≠d→InR st r c→InR (st.cleared d n) r c:=by
   rintro r c hr ⟨m,h1,h2⟩
   exact⟨m,by simp[St.cleared,Wr.ap,bH _ _ hr,h1],h2⟩
  have hpl:∀ p b o,p.root≠d→PlaceAt w base st p b o→PlaceAt w (upd base d bs) (st.cleared d n) p b o:=by
   intro p b o hp h
   rcases p with⟨r,s,o'⟩
   simp only at hp
   cases s with
   |none=>obtain⟨o0,h1,h2⟩:=h;exact⟨o0,by rw[bH _ _ hp];exact h1,h2⟩
   |some s=>obtain⟨c,i,s⟩:=s;obtain⟨h0,o1,l,cap,h1,h2⟩:=h;exact⟨hin r c hp h0,o1,l,cap,hhd r c hp _ h1,h2⟩
  refine RepS.move (st:=st) (fun _ p=>p.root≠d) (fun m=>m≠d) hI (fun p x hp h=>?_) (fun r c lo hi x hp h=>?_) (fun p b o hp h=>hpl p b o hp h) (fun _ _=>rfl) _ _ hc h0 (hb:=fun r c vs hp h=>by rw[bH _ _ hp];exact h)
  ·rcases p with⟨r,s,o⟩
   simp only at hp
   cases s with
   |none=>exact⟨hin r o hp h.1,hhd r o hp x h.2.1,h.2.2⟩
   |some s =>
    obtain⟨c,i,s⟩:=s
    intro k xs he
    have h2:(st.cleared d n).rc r c = st.rc r c:=by simp[St.cleared,Wr.ap,gw hp]
    rw[h2]at he
    obtain⟨e1,e2,e3,b,o',e4,e5⟩:=h k xs he
    exact⟨e1,e2,e3,b,o',hpl _ _ _ hp e4,e5⟩
  ·simp only at hp
   intro k xs he
   have h2:(st.cleared d n).rc r c = st.rc r c:=by simp[St.cleared,Wr.ap,gw hp]
   rw[h2]at he
   obtain⟨e1,e2,A,cap,e3,e4⟩:=h k xs he
   exact⟨e1,e2,A,cap,hhd r c hp _ e3,e4⟩
 ·by_cases hrd:r = d
  ·subst hrd;rw[ba];exact hbs vs
  ·rw[bH _ _ hrd];exact R.npar r hr vs
 ·by_cases hr:r = d
  ·subst hr
   simp only[St.cleared,Wr.ap,bJ]
   trivial
  ·have h2:(st.cleared d n).rc r c = st.rc r c:=by simp[St.cleared,Wr.ap,gw hr]
   rw[h2]
   have:=R.al r c
   cases hx:st.rc r c with
   |al r' c' =>
    rw[hx]at this
    obtain⟨vs,v,h3,h4,h5,h6⟩:=this
    have hne:r'≠d:=fun e=>by subst e;exact R.npar _ hdn vs h3
    exact⟨vs,v,by rw[bH _ _ hne];exact h3,h4,hhd r c hr v h5,h6⟩
   |_=>trivial
theorem Rel.adopt{F1:Fp}{b o:Nat}{cs:List V}{ys:List Value}(R:Rel g (Fp.or X (Fp.or F1 (region b o cs.length))) st a w base mb F)(hX:Fp.dis (Fp.or g.X0 X) (Fp.or F1 (region b o cs.length)))(hd1:Fp.dis F1 (region b o cs.length))(d:Nat)(hdn:d < g.nt)
 (h:Held w (tot F) cs ys F1) (hc:∀ j y,ys[j]? = some y→w.cell? ⟨b,o+j,.none⟩ = some y∧w.frozen? ⟨b,o+j,.none⟩ = false) :
 ∃ F',Rel g X ((st.cleared d cs.length).fills d 0 cs) a w (upd base d (.mem b o)) mb F':=by
 have hl:=h.length
 obtain⟨R1,hsub⟩:=R.clear2 d cs.length hdn (.mem b o) (region b o cs.length) (Fp.or X F1) (fun p q hpq=>.inl (by
  rcases hpq with h|h|h
  ·exact .inr (.inr h)
  ·exact .inl h
  ·exact .inr (.inl h)))
  (fun p q h1 h2=>by
   rcases h1 with h1|h1|h1
   ·exact hX p q (.inl h1) (.inr h2)
   ·exact hX p q (.inr h1) (.inr h2)
   ·exact hd1 p q h1 h2)
  ⟨rfl,fun c hcn=>by
   have hys:c < ys.length:=by omega
   obtain⟨e1,e2⟩:=hc c ys[c] (by simp[hys])
   exact⟨by rw[e1];rfl,e2⟩⟩
 obtain⟨F',R2,_,_⟩:=Rel.fills (d:=d) (n:=cs.length) (o:=0) R1 (fun p q h1 h2=>hX p q h1 (.inl h2))
  (h.mono (fun ob h=>h.frame fun b o v hn hv=>⟨hv,fun hn'=>hn (hsub _ _ hn')⟩) (fun ob G _ _ h=>h))
  (by simp[St.cleared,Wr.ap,ba]) (by omega) (fun j _=>by simp[St.cleared,Wr.ap,bJ]) (St.abv _ _ _)
  (fun j hj=>by
   have hys:j < ys.length:=by omega
   simp only[hd,ba,Nat.zero_add]
   rw[(hc j ys[j] (by simp[hys])).1];simp[hys])
 exact⟨F',R2⟩
theorem Rel.release(R:Rel g X st a w base mb F){r:Nat}(hr:r < g.nt):∃ F',Rel g (Fp.or X (F (.hdr r))) (st.cleared r 0) a w (upd base r (.tmp [])) mb F'∧∀ b o,tot F' b o→tot F b o:=by
 obtain⟨R1,hsub⟩:=R.clear2 r 0 hr (.tmp []) Fp.none (Fp.or X (F (.hdr r))) (fun b o h=>by
  rcases h with h|h
  ·exact h.elim
  ·exact h) (fun _ _ _ h=>h) (fun _ _ h=>h)
 exact⟨_,R1,hsub⟩
end Go.Tm
namespace Go.Tm
variable {g:G} {X:Fp} {st:St} {a:Act} {w:World} {base:Nat→Base} {mb:Nat→Nat} {F:Ix→Fp}
def mc(k:Kl)(st:St):Prop:=∀ i,V.all (fun ls p=>k.f ls p = false) (fun _=>True) (st.sl i)
theorem lx(st:St)(k:Kl):mc k ((Wr.kl k).ap st):=fun i=>V.abw (fun _ _ h=>h) (fun _ _=>trivial) _ (V.abA k (st.sl i))
theorem xU{r o r' c':Nat}(h:(Kl.cell r o).f true ⟨r',none,c'⟩ = false):¬(r' = r∧c' = o):=by
 rintro⟨rfl,rfl⟩
 simp[Kl.f,bJ]at h
theorem tT{r o r' c' i s off:Nat}{b:Bool}(h:(Kl.cell r o).f b ⟨r',some (c',i,s),off⟩ = false):¬(r' = r∧c' = o):=by
 rintro⟨rfl,rfl⟩
 simp[Kl.f,bJ]at h
theorem JE{r c o r' c' i s off:Nat}(h:(Kl.deep r c o).f true ⟨r',some (c',i,s),off⟩ = false):¬(r' = r∧c' = c∧off = o):=by
 rintro⟨rfl,rfl,rfl⟩
 simp[Kl.f,bJ]at h
theorem Rel.elemAt(R:Rel g X st a w base mb F){r c i s off b o:Nat}{k:List Bool}{xs:List (List T)}(he:st.rc r c = .own k xs)(hk:off < k.length)(hs:k.length = s)(hi:i < xs.length)
 (hp:PlaceAt w base st ⟨r,some (c,i,s),off⟩ b o):F (.cell r c) b o:=by
 have:=R.cell r c
 rw[he]at this
 obtain⟨y,hy,ho⟩:=this
 obtain⟨_,o',len,cap,h1,h2⟩:=hp
 rw[hy]at h1
 injection h1 with h1
 subst h1
 generalize hF:F (.cell r c) = Fc at ho
 generalize hz:(Value.slice (some ⟨b,o',none⟩) len cap) = z at ho
 cases ho with
 |@slc _ _ A cap' b' off' G ha hc hw h hd =>
  injection hz with e1 e2 e3
  subst e3
  have hpos:0 < cap * k.length:=Nat.mul_pos (by omega) (by omega)
  have:=ha hpos
  rw[this]at e1
  injection e1 with e1
  injection e1 with e4 e5
  subst e4;subst e5
  refine .inl ⟨rfl,by omega,?_⟩
  subst hs
  have h3:(i+1) * k.length≤cap * k.length:=Nat.mul_le_mul_right _ (by omega)
  rw[Nat.add_mul]at h3
  omega
theorem Rel.scalarHd(R:Rel g X st a w base mb F){r c:Nat}{u:Value}(he:st.rc r c = .t (.v u)){A:Option Addr}{l n:Nat}(h:hd w base r c = some (.slice A l n)):False:=by
 have:=R.cell r c
 rw[he]at this
 obtain⟨⟨v,h1,h2⟩,_⟩:=this
 rw[h]at h1
 injection h1 with h1
 subst h1
 cases h2 with
 |v h=>simp[sc]at h
theorem Rel.slotsHdr{F1:Fp}(R:Rel g (Fp.or X F1) st a w base mb F){r o b0 o0:Nat}(hb:base r = .mem b0 o0)(hin:InR st r o)(y:Value)(x:V)
 (hcl:mc (.cell r o) st∨∃ u u',st.rc r o = .t (.v u)∧x = .t (.v u')) (N':Fp)
 (hI:∀ ob,RepI w (tot F) ob→RepI (w.setCell ⟨b0,o0+o,none⟩ y) N' ob) (i:Nat) :
 RepS (w.setCell ⟨b0,o0+o,none⟩ y) N' base mb ((Wr.rc r o x).ap st) (st.sl i) (a.tmps.getD i Go.undef):=by
 have hD:F (.hdr r) b0 (o0+o):=R.hdrAt hin hb
 have hdw:∀ {r' c'},InR st r' c'→¬(r' = r∧c' = o)→hd (w.setCell ⟨b0,o0+o,none⟩ y) base r' c' = hd w base r' c':=fun h h'=>R.hdWrite y (.inr ⟨o0,hb,rfl,hD⟩) h h'
 have hpl:∀ (b:Bool) (p:Place) (b1 o1:Nat),(∀ c i s,p.step = some (c,i,s)→InR st p.root c→∀ A l n,hd w base p.root c = some (.slice A l n)→¬(p.root = r∧c = o))→
  PlaceAt w base st p b1 o1→PlaceAt (w.setCell ⟨b0,o0+o,none⟩ y) base ((Wr.rc r o x).ap st) p b1 o1:=by
  intro b p b1 o1 hne hp
  rcases p with⟨r',s,off⟩
  cases s with
  |none=>exact hp
  |some s =>
   obtain⟨c',j,s⟩:=s
   obtain⟨h0,o',len,cap,h1,h2⟩:=hp
   exact⟨h0,o',len,cap,by rw[hdw h0 (hne _ _ _ rfl h0 _ _ _ h1)];exact h1,h2⟩
 refine RepS.move (st:=st) (fun ls p=>(Kl.cell r o).f ls p = false∨∃ u u',st.rc r o = .t (.v u)∧x = .t (.v u')) (fun _=>True) hI (fun p x' hp h=>?_) (fun r1 c1 lo hi x' hp h=>?_) (fun p b1 o1 hp h=>?_) (fun _ _=>rfl) _ _ ?_ (R.slots i)
 ·rcases p with⟨r',s,off⟩
  cases s with
  |none =>
   obtain⟨h0,h1,h2⟩:=h
   refine⟨h0,?_,h2⟩
   rw[hdw h0 ?_];· exact h1
   rcases hp with hp|⟨u,u',e1,e2⟩
   ·exact xU hp
   ·rintro⟨rfl,rfl⟩
    obtain⟨A,l,n,rfl⟩:=h2
    exact R.scalarHd e1 h1
  |some s =>
   obtain⟨c',j,s⟩:=s
   intro k xs he
   have hne:¬(r' = r∧c' = o):=by
    rcases hp with hp|⟨u,u',e1,e2⟩
    ·exact tT hp
    ·rintro⟨rfl,rfl⟩
     simp only[Wr.ap,aW]at he
     rw[e2]at he;cases he
   simp only[Wr.ap,aV _ _ hne]at he
   obtain⟨e1,e2,e3,b1,o1,e4,e5⟩:=h k xs he
   have hlt:off < k.length:=(List.getElem?_eq_some_iff.1 e1).1
   refine⟨e1,e2,e3,b1,o1,hpl true _ _ _ (fun c i s hc h0 A l n h1=>by injection hc with hc;injection hc with hc;subst hc;exact hne) e4,?_⟩
   rw[(eu w b0 (o0+o) y ?_).1];· exact e5
   rintro⟨rfl,rfl⟩
   exact R.dis (.cell r' c') (.hdr r) (by simp) _ _ (R.elemAt he hlt e2 e3 e4) hD
 ·intro k xs he
  have hne:¬(r1 = r∧c1 = o):=by
   rcases hp with hp|⟨u,u',e1,e2⟩
   ·exact xU hp
   ·rintro⟨rfl,rfl⟩
    simp only[Wr.ap,aW]at he
    rw[e2]at he;cases he
  simp only[Wr.ap,aV _ _ hne]at he
  obtain⟨e1,e2,A,cap,e3,e4⟩:=h k xs he
  exact⟨e1,e2,A,cap,by rw[hdw (R.live' (by rw[he];simp)) hne];exact e3,e4⟩
 ·refine hpl false p b1 o1 (fun c i s hc h0 A l n h1=>?_) h
  rcases p with⟨r',s',off⟩
  simp only at hc
  subst hc
  rcases hp with hp|⟨u,u',e1,e2⟩
  ·exact tT hp
  ·rintro⟨rfl,rfl⟩
   exact R.scalarHd e1 h1
 ·rcases hcl with hcl|hcl
  ·exact V.abw (fun _ _ h=>.inl h) (fun _ h=>h) _ (hcl i)
  ·exact V.abw (fun _ _ _=>.inr hcl) (fun _ h=>h) _ (V.abu _)
theorem Rel.store{F1:Fp}(R:Rel g (Fp.or X F1) st a w base mb F)(hX:Fp.dis (Fp.or g.X0 X) F1){r o b0 o0:Nat}(hb:base r = .mem b0 o0)(hin:InR st r o)
 {y:Value} (x:V) (hx:CellOk w (tot F) (some y) x F1)
 (hcl:mc (.cell r o) st∨∃ u u',st.rc r o = .t (.v u)∧x = .t (.v u')) :
 Rel g X ((Wr.rc r o x).ap st) a (w.setCell ⟨b0,o0+o,none⟩ y) base mb (wrF F r o F1 (Fp.or g.X0 X)):=by
 have hD:F (.hdr r) b0 (o0+o):=R.hdrAt hin hb
 have hex:(w.cell? ⟨b0,o0+o,none⟩).isSome = true:=by
  obtain⟨n,h1,h2⟩:=hin
  have:=R.hdr r
  rw[hb,h1]at this
  exact(this.2 o h2).1
 obtain⟨y0,hy0⟩:=Option.isSome_iff_exists.1 hex
 have hI:=R.wrI (r:=r) (o:=o) (F2:=F1) (fun _ _ h=>.inr h) ⟨_,hD⟩ y
 refine R.write hX hin (.inr ⟨o0,hb,rfl,hD⟩) hex (fun _ _ h=>.inr h) y x ?_ (R.slotsHdr hb hin y x hcl _ hI)
 have e:hd (w.setCell ⟨b0,o0+o,none⟩ y) base r o = some y:=by unfold hd;rw[hb];exact World.cell?_setCell_same _ _ _ hy0
 rw[e]
 revert hx
 unfold CellOk
 split
 ·rintro⟨⟨v,h,hi⟩,hf⟩;exact⟨⟨v,h,hI _ hi⟩,hf⟩
 ·rintro⟨v,h,ho⟩
  refine⟨v,h,ho.frame fun b q hbq=>?_⟩
  rcases hbq with hbq|hbq
  ·refine eu w b0 (o0+o) y ?_
   rintro⟨rfl,rfl⟩
   exact R.dis (.hdr r) .x (by simp) _ _ hD (by rw[R.fx];exact .inr (.inr hbq))
  ·exact hbq.elim
 ·exact fun h=>h
 ·exact fun h=>h
theorem bP{w:World}{k:List Bool}{xs:List (List T)}{v:Value}{F:Fp}(h:RepO w (.tv (.slc k xs) v) F) :
 ∃ A cap b off G,v = .slice A xs.length cap∧xs.length≤cap∧(0 < cap * k.length→A = some ⟨b,off,none⟩)∧F = Fp.or (region b off (cap * k.length)) G∧RepO w (.elems k xs b off) G∧Fp.dis (region b off (cap * k.length)) G∧
  ∀ i,i < cap * k.length→(w.cell? ⟨b,off+i,none⟩).isSome = true∧w.frozen? ⟨b,off+i,none⟩ = false:=by
 cases h with
 |@slc _ _ A cap b off G ha hc hw h hd=>exact⟨A,cap,b,off,G,rfl,hc,ha,rfl,h,hd,hw⟩
theorem Rel.hdSame(R:Rel g X st a w base mb F){r o b0 q0:Nat}(y:Value)(hD:F (.cell r o) b0 q0){r' c':Nat}(hi:InR st r' c') :
 hd (w.setCell ⟨b0,q0,none⟩ y) base r' c' = hd w base r' c':=by
 unfold hd
 split
 ·rename_i b1 o1 hb1
  refine(eu w b0 q0 y ?_).1
  rintro⟨rfl,he⟩
  have hA:=R.hdrAt hi hb1
  rw[he]at hA
  exact R.dis (.hdr r') (.cell r o) (by simp) _ _ hA hD
 ·rfl
 ·rfl
theorem qG{i n s j:Nat}(hi:i < n)(hj:j < s):i * s+j < n * s:=by
 have h3:(i+1) * s≤n * s:=Nat.mul_le_mul_right _ hi
 rw[Nat.add_mul]at h3
 omega
theorem Qf{i i' s j j':Nat}(hj:j < s)(hj':j' < s)(h:i * s+j = i' * s+j'):i = i'∧j = j':=by
 rcases Nat.lt_trichotomy i i' with hl|rfl|hl
 ·have h3:(i+1) * s≤i' * s:=Nat.mul_le_mul_right _ hl
  rw[Nat.add_mul]at h3;omega
 ·exact⟨rfl,by omega⟩
 ·have h3:(i'+1) * s≤i * s:=Nat.mul_le_mul_right _ hl
  rw[Nat.add_mul]at h3;omega
theorem Rel.storeElem{F1:Fp}(R:Rel g (Fp.or X F1) st a w base mb F)(hX:Fp.dis (Fp.or g.X0 X) F1){r c i j:Nat}{k:List Bool}{xs:List (List T)}{el:List T}
 (he:st.rc r c = .own k xs) (hel:xs[i]? = some el) (hj:j < k.length) {y:Value} (t:T) (ht:RepO w (.tv t y) F1) (hk:bT k (el.set j t) = true)
 (hcl:mc (.deep r c j) st∨k[j]? = some false) {b o' len cap:Nat} (hh:hd w base r c = some (.slice (some ⟨b,o',none⟩) len cap)) :
 ∃ F',Rel g X ((Wr.rc r c (.own k (xs.set i (el.set j t)))).ap st) a (w.setCell ⟨b,o'+i * k.length+j,none⟩ y) base mb F'∧∀ b o,tot F' b o→tot F b o:=by
 have hin:InR st r c:=R.live' (by rw[he];simp)
 have hi:i < xs.length:=(List.getElem?_eq_some_iff.1 hel).1
 have hc:=R.cell r c
 rw[he]at hc
 obtain⟨v,hv,hO⟩:=hc
 obtain⟨A,cap',b',off,G0,rfl,hle,hA,hF,hE,hd0,hw⟩:=bP hO
 have hpos:0 < cap' * k.length:=Nat.mul_pos (by omega) (by omega)
 rw[hh]at hv
 injection hv with hv
 injection hv with e1 e2 e3
 subst e2;subst e3
 rw[hA hpos]at e1
 injection e1 with e1
 injection e1 with e4 e5
 subst e4;subst e5
 have hlt:o'+i * k.length+j < o'+cap * k.length:=by have:=qG (show i < cap by omega) hj;omega
 have hDr:region b o' (cap * k.length) b (o'+i * k.length+j):=⟨rfl,by omega,hlt⟩
 have hD:F (.cell r c) b (o'+i * k.length+j):=by rw[hF];exact .inl hDr
 have hex:(w.cell? ⟨b,o'+i * k.length+j,none⟩).isSome = true:=by
  have:=(hw (i * k.length+j) (by omega)).1
  rwa [show o'+ (i * k.length+j) = o'+i * k.length+j by omega]at this
 obtain⟨y0,hy0⟩:=Option.isSome_iff_exists.1 hex
 obtain⟨Fe,Fr,hcells,hdE,rfl,hkel,hwand⟩:=RepO.getElem hE hel
 have hell:=bz hkel
 obtain⟨t0,ht0⟩:∃ t0,el[j]? = some t0:=⟨_,List.getElem?_eq_getElem (by omega)⟩
 obtain⟨yo,Fo,Fc,hyo,hto,hdC,rfl,hwandC⟩:=RepO.getCell hcells ht0
 have h1x:∀ b q,F1 b q→F .x b q:=fun b q h=>by rw[R.fx];exact .inr (.inr h)
 have h1c:Fp.dis F1 (F (.cell r c)):=fun b q h h'=>R.dis .x (.cell r c) (by simp) b q (h1x _ _ h) h'
 have hG:∀ b1 q1,Fp.or (Fp.or Fo Fc) Fr b1 q1→F (.cell r c) b1 q1:=fun b1 q1 h=>by rw[hF];exact .inr h
 have hsame:∀ b1 q1,¬(b1 = b∧q1 = o'+i * k.length+j)→Same w (w.setCell ⟨b,o'+i * k.length+j,none⟩ y) b1 q1:=fun b1 q1 h=>eu w _ _ y h
 have hnG:∀ b1 q1,Fp.or (Fp.or Fo Fc) Fr b1 q1→¬(b1 = b∧q1 = o'+i * k.length+j):=by
  rintro b1 q1 h ⟨rfl,rfl⟩;exact hd0 _ _ hDr h
 have hn1:∀ b1 q1,F1 b1 q1→¬(b1 = b∧q1 = o'+i * k.length+j):=by
  rintro b1 q1 h ⟨rfl,rfl⟩;exact h1c _ _ h hD
 -- the content anew
 have hnew:RepO (w.setCell ⟨b,o'+i * k.length+j,none⟩ y) (.elems k (xs.set i (el.set j t)) b o') (Fp.or (Fp.or F1 Fc) Fr):=by
  refine hwand _ _ _ hk (hwandC _ _ y F1 (World.cell?_setCell_same _ _ _ hy0) (ht.frame fun b1 q1 h=>?_) (fun b1 q1 h h'=>?_) (fun b1 q1 h=>?_)) (fun b1 q1 h h'=>?_) (fun b1 q1 h=>?_)
  ·rcases h with h|h
   ·exact hsame _ _ (hn1 _ _ h)
   ·exact h.elim
  ·exact h1c _ _ h (hG _ _ (.inl (.inr h')))
  ·rcases h with h|⟨h,h'⟩
   ·exact hsame _ _ (hnG _ _ (.inl (.inr h)))
   ·exact hsame _ _ h'
  ·rcases h with h|h
   ·exact h1c _ _ h (hG _ _ (.inr h'))
   ·exact hdE _ _ (.inr h) h'
  ·rcases h with h|⟨h,h'⟩
   ·exact hsame _ _ (hnG _ _ (.inr h))
   ·exact hsame _ _ (by rintro⟨rfl,rfl⟩;exact h' ⟨rfl,by omega,by omega⟩)
 have h2:∀ b1 q1,Fp.or (region b o' (cap * k.length)) (Fp.or (Fp.or F1 Fc) Fr) b1 q1→F (.cell r c) b1 q1∨F1 b1 q1:=by
  rintro b1 q1 (h|(h|h)|h)
  ·left;rw[hF];exact .inl h
  ·exact .inr h
  ·exact .inl (hG _ _ (.inl (.inr h)))
  ·exact .inl (hG _ _ (.inr h))
 have hI:=R.wrI h2 ⟨_,hD⟩ y
 refine⟨_,R.write hX hin (.inl hD) hex h2 y _ ?_ (fun n=>?_),R.wrTot h2⟩
 ·refine⟨_,by rw[R.hdSame y hD hin];exact hh,?_⟩
  have:=RepO.slc (w:=w.setCell ⟨b,o'+i * k.length+j,none⟩ y) (k:=k) (xs:=xs.set i (el.set j t)) (A:=some ⟨b,o',none⟩) (cap:=cap) (b:=b) (off:=o') (F:=Fp.or (Fp.or F1 Fc) Fr) (fun _=>rfl) (by simpa using hle)
   (fun m hm=>?_) hnew (fun b1 q1 h h'=>?_)
  ·simpa using this
  ·refine⟨?_,by rw[World.frozen?_setCell];exact(hw m hm).2⟩
   by_cases hq:b = b∧o'+m = o'+i * k.length+j
   ·rw[hq.2,World.cell?_setCell_same _ _ _ hy0];rfl
   ·rw[(hsame b (o'+m) hq).1];exact(hw m hm).1
  ·rcases h' with(h'|h')|h'
   ·exact h1c _ _ h' (by rw[hF];exact .inl h)
   ·exact hd0 _ _ h (.inl (.inr h'))
   ·exact hd0 _ _ h (.inr h')
 ·have hpl:∀ (p:Place) (b1 o1:Nat),PlaceAt w base st p b1 o1→PlaceAt (w.setCell ⟨b,o'+i * k.length+j,none⟩ y) base ((Wr.rc r c (.own k (xs.set i (el.set j t)))).ap st) p b1 o1:=by
   intro p b1 o1 hp
   rcases p with⟨r',s,off⟩
   cases s with
   |none=>exact hp
   |some s =>
    obtain⟨c',j',s⟩:=s
    obtain⟨h0,o1,len,cap,h1,h2⟩:=hp
    exact⟨h0,o1,len,cap,by rw[R.hdSame y hD h0];exact h1,h2⟩
  refine RepS.move (st:=st) (fun ls p=>(Kl.deep r c j).f ls p = false∨k[j]? = some false) (fun _=>True) hI (fun p x' hp h=>?_) (fun r1 c1 lo hi x' hp h=>?_) (fun p b1 o1 hp h=>hpl p b1 o1 h) (fun _ _=>rfl) _ _ ?_ (R.slots n)
  ·rcases p with⟨r',s,off⟩
   cases s with
   |none =>
    obtain⟨h0,h1,h2⟩:=h
    exact⟨h0,by rw[R.hdSame y hD h0];exact h1,h2⟩
   |some s =>
    obtain⟨c',j',s⟩:=s
    intro k' xs' he'
    by_cases hrc:r' = r∧c' = c
    ·obtain⟨rfl,rfl⟩:=hrc
     simp only[Wr.ap,aW]at he'
     injection he' with e1 e2
     subst e1;subst e2
     obtain⟨e1,e2,e3,b1,o1,e4,e5⟩:=h k xs he
     refine⟨e1,e2,by simpa using e3,b1,o1,hpl _ _ _ e4,?_⟩
     rw[(hsame b1 o1 ?_).1];· exact e5
     rintro⟨rfl,hq⟩
     have hlt':off < k.length:=(List.getElem?_eq_some_iff.1 e1).1
     obtain⟨_,o2,len2,cap2,e6,e7⟩:=e4
     rw[hh]at e6
     injection e6 with e6;injection e6 with e6 _ _;injection e6 with e6;injection e6 with _ e6
     subst e6;subst e2
     obtain⟨rfl,rfl⟩:=Qf hlt' hj (show j' * k.length+off = i * k.length+j by omega)
     rcases hp with hp|hp
     ·exact JE hp ⟨rfl,rfl,rfl⟩
     ·rw[hp]at e1;cases e1
    ·simp only[Wr.ap,aV _ _ hrc]at he'
     obtain⟨e1,e2,e3,b1,o1,e4,e5⟩:=h k' xs' he'
     refine⟨e1,e2,e3,b1,o1,hpl _ _ _ e4,?_⟩
     rw[(hsame b1 o1 ?_).1];· exact e5
     rintro⟨rfl,rfl⟩
     exact R.dis (.cell r' c') (.cell r c) (by simpa using hrc) _ _ (R.elemAt he' (List.getElem?_eq_some_iff.1 e1).1 e2 e3 e4) hD
  ·intro k' xs' he'
   by_cases hrc:r1 = r∧c1 = c
   ·obtain⟨rfl,rfl⟩:=hrc
    simp only[Wr.ap,aW]at he'
    injection he' with e1 e2
    subst e1;subst e2
    obtain⟨e1,e2,A,cap,e3,e4⟩:=h k xs he
    refine⟨e1,by simpa using e2,A,cap,?_,e4⟩
    rw[R.hdSame y hD hin,e3];simp
   ·simp only[Wr.ap,aV _ _ hrc]at he'
    obtain⟨e1,e2,A,cap,e3,e4⟩:=h k' xs' he'
    exact⟨e1,e2,A,cap,by rw[R.hdSame y hD (R.live' (by rw[he'];simp))];exact e3,e4⟩
  ·rcases hcl with hcl|hcl
   ·exact V.abw (fun _ _ h=>.inl h) (fun _ h=>h) _ (hcl n)
   ·exact V.abw (fun _ _ _=>.inr hcl) (fun _ h=>h) _ (V.abu _)
end Go.Tm
namespace Go.Tm
variable {g:G} {X:Fp} {st:St} {a:Act} {w:World} {base:Nat→Base} {mb:Nat→Nat} {F:Ix→Fp}
def Aa:List V→Prop
 |[]=>True
 |.t (.v x) :: cs=>sc x = true∧Aa cs
 |.own _ [] :: cs=>Aa cs
 |_ :: _=>False
structure TyOk (P:Program) (t:TypeId) (ty:Ty):Prop where
 info:(P.info? t).map (fun i=>(i.zero,i.size,i.bytes)) = some (some ty.zval,ty.zc.length,ty.bytes)
 und:(P.underlying t).map D.of = some ty.d
 ne:ty.d≠.other
 zc:Aa ty.zc
 one:ty.agg = false→ty.zc.length = 1
 len:0 < ty.zc.length
 bytes:ty.bytes≤1048576
 pos:0 < ty.bytes
def EnvOk(P:Program)(E:Env):Prop:=∀ t ty,E.ty t = some ty→TyOk P t ty
theorem Cmd.run_bind{α β:Type}(x:Cmd α)(f:α→Cmd β)(s:St):(x.bind f).run s = (x.run s).bind fun r=>(f r.1).run r.2:=by
 induction x generalizing s with
 |ret a=>rfl
 |fail=>rfl
 |sl d k ih=>simp only[Cmd.b0,Cmd.b1,Cmd.b2,Cmd.b3,Cmd.b4,Cmd.b5,Cmd.b6,Cmd.run];exact ih _ s
 |rc r c k ih=>simp only[Cmd.b0,Cmd.b1,Cmd.b2,Cmd.b3,Cmd.b4,Cmd.b5,Cmd.b6,Cmd.run];exact ih _ s
 |mp m k ih=>simp only[Cmd.b0,Cmd.b1,Cmd.b2,Cmd.b3,Cmd.b4,Cmd.b5,Cmd.b6,Cmd.run];exact ih _ s
 |gn r k ih=>simp only[Cmd.b0,Cmd.b1,Cmd.b2,Cmd.b3,Cmd.b4,Cmd.b5,Cmd.b6,Cmd.run];exact ih _ s
 |wr w k ih=>simp only[Cmd.b0,Cmd.b1,Cmd.b2,Cmd.b3,Cmd.b4,Cmd.b5,Cmd.b6,Cmd.run];exact ih _
 |rh r c k ih=>simp only[Cmd.b7,Cmd.run];exact ih _ s
theorem Cmd.abt{α β:Type}{x:Cmd α}{f:α→Cmd β}{s s':St}{b:β}(h:(x.bind f).run s = some (b,s')):∃ a s1,x.run s = some (a,s1)∧(f a).run s1 = some (b,s'):=by
 rw[Cmd.run_bind]at h
 cases hx:x.run s with
 |none=>rw[hx]at h;cases h
 |some r=>rw[hx]at h;exact⟨r.1,r.2,rfl,h⟩
theorem bm{b:Bool}{s s':St}{u:Unit}(h:(ib b).run s = some (u,s')):b = true∧s' = s:=by
 cases b
 ·cases h
 ·injection h with h;injection h with _ h;exact⟨rfl,h.symm⟩
theorem oi{r n:Nat}{s s':St}{u:Unit}(h:(inR r n).run s = some (u,s')):s' = s∧∀ c,c < n→InR s r c:=by
 simp only[inR,Cmd.run]at h
 split at h
 ·rename_i m hm
  obtain⟨hb,rfl⟩:=bm h
  have:=Nat.le_of_ble_eq_true hb
  exact⟨rfl,fun c hc=>⟨m,hm,by omega⟩⟩
 ·cases h
theorem af{α:Type}{x y:α}{s s':St}(h:(Cmd.ret x).run s = some (y,s')):x = y∧s = s':=by
 injection h with h;injection h with h1 h2;exact⟨h1,h2⟩
/-! ### Types -/
section types
variable {P:Program} {t:TypeId} {ty:Ty}
theorem TyOk.underlying(h:TyOk P t ty):∃ d,P.underlying t = some d∧D.of d = ty.d:=by
 have:=h.und
 cases hq:P.underlying t with
 |none=>simp[hq]at this
 |some d=>exact⟨d,rfl,by simpa [hq]using this⟩
theorem TyOk.slice(h:TyOk P t ty){e:TypeId}(hd:ty.d = .slice e):P.underlying t = some (.slice e):=by
 obtain⟨d,h1,h2⟩:=h.underlying
 rw[hd]at h2
 cases d <;> simp_all[D.of]
theorem TyOk.str(h:TyOk P t ty)(hd:ty.d = .str):P.underlying t = some .string:=by
 obtain⟨d,h1,h2⟩:=h.underlying
 rw[hd]at h2
 cases d <;> simp_all[D.of]
theorem TyOk.int(h:TyOk P t ty){k:IntKind}(hd:ty.d = .int k):P.underlying t = some (.int k):=by
 obtain⟨d,h1,h2⟩:=h.underlying
 rw[hd]at h2
 cases d <;> simp_all[D.of]
theorem TyOk.bool(h:TyOk P t ty)(hd:ty.d = .bool):P.underlying t = some .bool:=by
 obtain⟨d,h1,h2⟩:=h.underlying
 rw[hd]at h2
 cases d <;> simp_all[D.of]
theorem TyOk.ptr(h:TyOk P t ty){e:TypeId}(hd:ty.d = .ptr e):P.underlying t = some (.pointer e):=by
 obtain⟨d,h1,h2⟩:=h.underlying
 rw[hd]at h2
 cases d <;> simp_all[D.of]
theorem TyOk.map(h:TyOk P t ty){k e:TypeId}(hd:ty.d = .map k e):P.underlying t = some (.map k e):=by
 obtain⟨d,h1,h2⟩:=h.underlying
 rw[hd]at h2
 cases d <;> simp_all[D.of]
theorem TyOk.struct(h:TyOk P t ty){fs:List (Nat×TypeId)}(hd:ty.d = .struct fs):∃ f,P.underlying t = some (.struct f)∧f.toList.map (fun f=>(f.offset,f.type)) = fs:=by
 obtain⟨d,h1,h2⟩:=h.underlying
 rw[hd]at h2
 cases d <;> simp_all[D.of]
theorem TyOk.infos(h:TyOk P t ty):∃ i,P.info? t = some i∧i.zero = some ty.zval∧i.size = ty.zc.length∧i.bytes = ty.bytes:=by
 have:=h.info
 cases hq:P.info? t with
 |none=>simp[hq]at this
 |some i=>simp[hq]at this;exact⟨i,rfl,this.1,this.2.1,this.2.2⟩
theorem TyOk.runUnderlying(h:TyOk P t ty)(w:World):∃ d,(Go.underlying t).run P w = .ok d w∧P.underlying t = some d∧D.of d = ty.d:=by
 obtain⟨d,h1,h2⟩:=h.underlying
 exact⟨d,run_underlying h1 w,h1,h2⟩
theorem TyOk.runSize(h:TyOk P t ty)(w:World):(sizeOf t).run P w = .ok ty.zc.length w:=by
 obtain⟨i,h1,_,h3,_⟩:=h.infos
 simp[sizeOf,typeInfo,h1,h3]
theorem TyOk.runZero(h:TyOk P t ty)(w:World):(zeroValue t).run P w = .ok ty.zval w:=by
 obtain⟨i,h1,h2,_,_⟩:=h.infos
 simp[zeroValue,typeInfo,h1,h2]
theorem TyOk.runAgg(h:TyOk P t ty)(w:World):(isAgg t).run P w = .ok ty.agg w:=by
 obtain⟨d,h1,h2⟩:=h.underlying
 have hne:=h.ne
 unfold isAgg
 rw[Sem.run_bind,run_underlying h1 w]
 simp only[Result.andThen_ok]
 obtain⟨dd,zc,by_⟩:=ty
 simp only at h2 hne
 subst h2
 cases d <;> simp_all[D.of,Ty.agg] <;> rfl
end types
/-! ### Operands -/
theorem Df(w:World)(N:Fp)(base:Nat→Base)(mb:Nat→Nat)(st:St)(x:Value):RepS w N base mb st (HZ x) x:=by
 unfold HZ
 split
 ·simp only[RepS]
 ·simp only[RepS];exact .v rfl
 ·simp only[RepS];exact .v rfl
 ·simp only[RepS];exact .v rfl
 ·simp only[RepS];exact .v rfl
 ·simp only[RepS]
theorem aP(R:Rel g X st a w base mb F){x:Operand}{v:V}{st':St}(h:(rdO x).run st = some (v,st')):st' = st∧RepS w (tot F) base mb st v (a.eval x):=by
 cases x with
 |tmp t=>simp only[rdO,Cmd.run]at h;injection h with h;injection h with h1 h2;subst h1;exact⟨h2.symm,R.slots t⟩
 |const x=>obtain⟨rfl,rfl⟩:=af h;exact⟨rfl,Df _ _ _ _ _ _⟩
 |global x=>obtain⟨rfl,rfl⟩:=af h;exact⟨rfl,by simp only[RepS]⟩
 |func x=>obtain⟨rfl,rfl⟩:=af h;exact⟨rfl,by simp only[RepS]⟩
theorem aB{N:Fp}{y x:Value}(h:RepS w N base mb st (.t (.v y)) x):x = y∧sc y = true:=by
 simp only[RepS]at h
 cases h with
 |v h=>exact⟨rfl,h⟩
theorem pu{N:Fp}{k:IntKind}{n:Int}{x:Value}(h:RepS w N base mb st (.t (.v (.int k n))) x):x = .int k n:=(aB h).1
theorem eL{N:Fp}{x:Value}(h:sc x = true):RepS w N base mb st (.t (.v x)) x:=by simp only[RepS];exact .v h
def ug(P:Program)(s:Sem Value)(w:World)(N:Fp)(base:Nat→Base)(mb:Nat→Nat)(st:St)(v:V):Prop:=∃ x,s.run P w = .ok x w∧RepS w N base mb st v x
theorem Vh:∀ {k k':IntKind},eqK k k' = true→k = k':=by intro k k' h;cases k <;> cases k' <;> simp_all[eqK]
theorem o6{P:Program}{N:Fp}{op:BinOp}{k:IntKind}{x y:Int}{ans a':List Ans}{v:V}{p:Prop}{st':St}(h:(MR op k x y ans).run st = some ((v,a',p),st'))(hp:p)(ty:TypeId) :
 st' = st∧ug P (binOp op ty (.int k x) (.int k y)) w N base mb st v:=by
 unfold MR at h
 have key:∀ {c:Bool},RepS w N base mb st (.b c) (.bool c):=eL rfl
 have keyi:∀ {r:Int},RepS w N base mb st (.t (.v (.int k r))) (.int k r):=eL rfl
 cases op <;> simp only at h
 case lss=>obtain⟨h1,h2⟩:=af h;injection h1 with h1 h3;subst h1;exact⟨h2.symm,_,by simp[binOp,Op.intCmp],key⟩
 case leq=>obtain⟨h1,h2⟩:=af h;injection h1 with h1 h3;subst h1;exact⟨h2.symm,_,by simp[binOp,Op.intCmp],key⟩
 case gtr=>obtain⟨h1,h2⟩:=af h;injection h1 with h1 h3;subst h1;exact⟨h2.symm,_,by simp[binOp,Op.intCmp],key⟩
 case geq=>obtain⟨h1,h2⟩:=af h;injection h1 with h1 h3;subst h1;exact⟨h2.symm,_,by simp[binOp,Op.intCmp],key⟩
 case eql=>obtain⟨h1,h2⟩:=af h;injection h1 with h1 h3;subst h1;exact⟨h2.symm,.bool (decide (x = y)),by simp[binOp,Op.intCmp];rfl,key⟩
 case neq=>obtain⟨h1,h2⟩:=af h;injection h1 with h1 h3;subst h1;exact⟨h2.symm,.bool (!decide (x = y)),by simp[binOp,Op.intCmp];rfl,key⟩
 case andNot=>cases h
 case add =>
  split at h
  ·obtain⟨h1,h2⟩:=af h
   injection h1 with h1 h3
   injection h3 with h3 h4
   subst h1;subst h4
   refine⟨h2.symm,_,?_,keyi⟩
   subst hp;simp[binOp,Op.intArith]
  ·cases h
 case sub =>
  split at h
  ·obtain⟨h1,h2⟩:=af h
   injection h1 with h1 h3
   injection h3 with h3 h4
   subst h1;subst h4
   refine⟨h2.symm,_,?_,keyi⟩
   subst hp;simp[binOp,Op.intArith]
  ·cases h
 case mul =>
  split at h
  ·obtain⟨h1,h2⟩:=af h
   injection h1 with h1 h3
   injection h3 with h3 h4
   subst h1;subst h4
   refine⟨h2.symm,_,?_,keyi⟩
   subst hp;simp[binOp,Op.intArith]
  ·cases h
 case quo =>
  split at h
  ·obtain⟨h1,h2⟩:=af h
   injection h1 with h1 h3
   injection h3 with h3 h4
   subst h1;subst h4
   refine⟨h2.symm,_,?_,keyi⟩
   obtain⟨hy,rfl⟩:=hp;simp[binOp,Op.intDiv,hy]
  ·cases h
 case rem =>
  split at h
  ·obtain⟨h1,h2⟩:=af h
   injection h1 with h1 h3
   injection h3 with h3 h4
   subst h1;subst h4
   refine⟨h2.symm,_,?_,keyi⟩
   obtain⟨hy,rfl⟩:=hp;simp[binOp,Op.intDiv,hy]
  ·cases h
 case and =>
  split at h
  ·obtain⟨h1,h2⟩:=af h
   injection h1 with h1 h3
   injection h3 with h3 h4
   subst h1;subst h4
   refine⟨h2.symm,_,?_,keyi⟩
   simp only[intBits,Option.some.injEq]at hp;subst hp;simp[binOp,Op.intBits]
  ·cases h
 case or =>
  split at h
  ·obtain⟨h1,h2⟩:=af h
   injection h1 with h1 h3
   injection h3 with h3 h4
   subst h1;subst h4
   refine⟨h2.symm,_,?_,keyi⟩
   simp only[intBits,Option.some.injEq]at hp;subst hp;simp[binOp,Op.intBits]
  ·cases h
 case xor =>
  split at h
  ·obtain⟨h1,h2⟩:=af h
   injection h1 with h1 h3
   injection h3 with h3 h4
   subst h1;subst h4
   refine⟨h2.symm,_,?_,keyi⟩
   simp only[intBits,Option.some.injEq]at hp;subst hp;simp[binOp,Op.intBits]
  ·cases h
 case shl =>
  split at h
  ·obtain⟨h1,h2⟩:=af h
   injection h1 with h1 h3
   injection h3 with h3 h4
   subst h1;subst h4
   refine⟨h2.symm,_,?_,keyi⟩
   obtain⟨hy,rfl⟩:=hp;simp[binOp,Op.shift,Int.not_lt.2 hy]
  ·cases h
 case shr =>
  split at h
  ·obtain⟨h1,h2⟩:=af h
   injection h1 with h1 h3
   injection h3 with h3 h4
   subst h1;subst h4
   refine⟨h2.symm,_,?_,keyi⟩
   obtain⟨hy,rfl⟩:=hp;simp[binOp,Op.shift,Int.not_lt.2 hy]
  ·cases h
theorem KI{N:Fp}{x y:Value}(h:x = y)(hs:sc y = true:=by rfl):RepS w N base mb st (.t (.v x)) y:=by subst h;exact eL hs
end Go.Tm
namespace Go.Tm
variable {g:G} {X:Fp} {st st':St} {a:Act} {w:World} {base:Nat→Base} {mb:Nat→Nat} {F:Ix→Fp} {N:Fp} {P:Program}
theorem GA(s u:ByteArray):(s.toList == u.toList) = decide (s = u):=by
 rw[ByteArray.toList_eq,ByteArray.toList_eq]
 by_cases h:s = u
 ·subst h;simp
 ·have:s.data.toList≠u.data.toList:=fun e=>h (by
   cases s;cases u;simp at e;simp[e])
  rw[decide_eq_false h];exact beq_eq_false_iff_ne.2 this
theorem Kd{E:Env}(hE:EnvOk P E){op:BinOp}{ty:TypeId}{vx vy v:V}{x y:Value}{ans a':List Ans}{p:Prop}(h:(WJ E op ty vx vy ans).run st = some ((v,a',p),st'))(hp:p)
 (hx:RepS w N base mb st vx x) (hy:RepS w N base mb st vy y) :
 st' = st∧ug P (Go.binOp op ty x y) w N base mb st v∧(∀ cs,x≠.agg cs)∧x≠.nilIface:=by
 have keyb:∀ {c:Bool},RepS w N base mb st (.b c) (.bool c):=eL rfl
 unfold WJ at h
 split at h
 ·obtain⟨rfl,_⟩:=aB hx
  obtain⟨rfl,_⟩:=aB hy
  have:=o6 (P:=P) (w:=w) (N:=N) (base:=base) (mb:=mb) h hp ty
  refine⟨this.1,?_,by simp⟩
  obtain⟨z,h1,h2⟩:=this.2
  exact⟨z,h1,h2⟩
 ·obtain⟨rfl,_⟩:=aB hx
  obtain⟨rfl,_⟩:=aB hy
  have:=o6 (P:=P) (w:=w) (N:=N) (base:=base) (mb:=mb) h hp ty
  refine⟨this.1,?_,by simp⟩
  obtain⟨z,h1,h2⟩:=this.2
  exact⟨z,h1,h2⟩
 ·obtain⟨rfl,_⟩:=aB hx
  obtain⟨rfl,_⟩:=aB hy
  split at h
  ·rename_i he
   obtain rfl:=Vh he
   have:=o6 (P:=P) (w:=w) (N:=N) (base:=base) (mb:=mb) h hp ty
   exact⟨this.1,this.2,by simp⟩
  ·cases h
 ·obtain⟨rfl,_⟩:=aB hx
  obtain⟨rfl,_⟩:=aB hy
  split at h
  ·obtain⟨h1,h2⟩:=af h
   injection h1 with h1 h3
   injection h3 with h3 h4
   subst h1;subst h4
   obtain⟨rfl,hs⟩:=hp
   refine⟨h2.symm,⟨_,?_,eL rfl⟩,by simp⟩
   simp only[Go.binOp,Op.stringOp]
   rw[if_neg (by simp[IntKind.max,IntKind.signed,IntKind.bits];omega)]
   rfl
  ·cases h
 ·obtain⟨rfl,_⟩:=aB hx
  obtain⟨rfl,_⟩:=aB hy
  obtain⟨h1,h2⟩:=af h
  injection h1 with h1 h3
  subst h1
  exact⟨h2.symm,⟨_,by simp only[Go.binOp,Op.stringOp,GA];rfl,keyb⟩,by simp⟩
 ·obtain⟨rfl,_⟩:=aB hx
  obtain⟨rfl,_⟩:=aB hy
  obtain⟨h1,h2⟩:=af h
  injection h1 with h1 h3
  subst h1
  exact⟨h2.symm,⟨_,by simp only[Go.binOp,Op.stringOp,GA];rfl,keyb⟩,by simp⟩
 ·obtain⟨rfl,_⟩:=aB hx
  obtain⟨rfl,_⟩:=aB hy
  split at h
  ·rename_i ht
   obtain⟨h1,h2⟩:=af h
   injection h1 with h1 h3
   subst h1
   have hu:=(hE _ _ ht).bool rfl
   refine⟨h2.symm,⟨_,?_,keyb⟩,by simp⟩
   exact run_eql_bool w ty _ _ hu
  ·cases h
 ·obtain⟨rfl,_⟩:=aB hx
  obtain⟨rfl,_⟩:=aB hy
  split at h
  ·rename_i ht
   obtain⟨h1,h2⟩:=af h
   injection h1 with h1 h3
   subst h1
   have hu:=(hE _ _ ht).bool rfl
   refine⟨h2.symm,⟨_,?_,keyb⟩,by simp⟩
   exact run_neq_bool w ty _ _ hu
  ·cases h
 ·obtain⟨rfl,_⟩:=aB hy
  simp only[RepS]at hx
  obtain⟨b,o,_,rfl⟩:=hx
  split at h
  ·rename_i ht
   obtain⟨h1,h2⟩:=af h
   injection h1 with h1 h3
   subst h1
   have hu:=(hE _ _ ht).ptr rfl
   refine⟨h2.symm,⟨_,?_,keyb⟩,by simp⟩
   exact run_neq_pointer_nil w ty _ (by simp[Program.pointee,hu])
  ·cases h
 ·obtain⟨rfl,_⟩:=aB hx
  obtain⟨rfl,_⟩:=aB hy
  split at h
  ·rename_i ht
   obtain⟨h1,h2⟩:=af h
   injection h1 with h1 h3
   subst h1
   have hu:=(hE _ _ ht).ptr rfl
   refine⟨h2.symm,⟨_,?_,keyb⟩,by simp⟩
   exact run_neq_pointer_nil w ty _ (by simp[Program.pointee,hu])
  ·cases h
 ·cases h
theorem Mh{op:UnOp}{vx v:V}{x:Value}{ans a':List Ans}{p:Prop}(h:(aaq op vx ans).run st = some ((v,a',p),st'))(hp:p)
 (hx:RepS w N base mb st vx x):st' = st∧ug P (Op.unary op x) w N base mb st v:=by
 unfold aaq at h
 split at h
 ·obtain⟨rfl,_⟩:=aB hx
  obtain⟨h1,h2⟩:=af h
  injection h1 with h1 h3
  subst h1
  exact⟨h2.symm,_,rfl,eL rfl⟩
 ·obtain⟨rfl,_⟩:=aB hx
  split at h
  ·obtain⟨h1,h2⟩:=af h
   injection h1 with h1 h3
   injection h3 with h3 h4
   subst h1;subst h4;subst hp
   exact⟨h2.symm,_,rfl,eL rfl⟩
  ·cases h
 ·cases h
theorem o5{A:Option Addr}{b off n:Nat}(h:A = some ⟨b,off,none⟩):A.map (·.add n) = some ⟨b,off+n,none⟩:=by
 subst h;simp[Addr.add_mid]
theorem dH(R:Rel g X st a w base mb F){r c:Nat}{k:List Bool}{xs:List (List T)}(h:st.rc r c = .own k xs):∃ y,hd w base r c = some y∧RepO w (.tv (.slc k xs) y) (F (.cell r c)):=by
 have:=R.cell r c
 rw[h]at this
 exact this
theorem eY{r c:Nat}{kx:Kx}(h:(Ab r c).run st = some (kx,st')):st' = st∧st.rc r c = .own kx.1 kx.2:=by
 simp only[Ab,Cmd.run]at h
 split at h
 ·rename_i k xs hq
  obtain⟨rfl,rfl⟩:=af h
  exact⟨rfl,hq⟩
 ·cases h
theorem RepI.part{N':Fp}{k:List Bool}{xs:List (List T)}{A:Option Addr}{cap lo hi:Nat}(h:RepI w N' (.tv (.slc k xs) (.slice A xs.length cap)))(h1:lo≤hi)(h2:hi≤xs.length) :
 RepI w N' (.tv (.slc k ((xs.take hi).drop lo)) (.slice (if cap = lo then A else A.map (·.add (lo * k.length))) (hi - lo) (cap - lo))):=by
 generalize hz:Value.slice A xs.length cap = z at h
 cases h with
 |@slc _ _ A' cap' b off ha hc h =>
  injection hz with e1 e2 e3
  subst e1;subst e3
  have hl:((xs.take hi).drop lo).length = hi - lo:=by simp;omega
  have:=RepI.slc (w:=w) (N:=N') (k:=k) (xs:=(xs.take hi).drop lo) (A:=if cap = lo then A else A.map (·.add (lo * k.length))) (cap:=cap - lo) (b:=b) (off:=off+lo * k.length) (fun h0=>?_) (by rw[hl];omega) (RepI.dropElems lo (RepI.takeElems hi h))
  ·rwa [hl]at this
  ·rw[hl]at h0
   have hpos:0 < hi - lo:=Nat.pos_of_mul_pos_right h0
   have hk:0 < k.length:=Nat.pos_of_mul_pos_left h0
   rw[if_neg (by omega)]
   exact o5 (ha (Nat.mul_pos (by omega) hk))
theorem tK(R:Rel g X st a w base mb F){v:V}{ans a':List Ans}{kx:Kx}{p:Prop}{x:Value}(h:(BA v ans).run st = some ((kx,a',p),st'))(hp:p)(hv:RepS w (tot F) base mb st v x)
 (N':Fp) (hN:∀ b o,N' b o→tot F b o) (hN2:∀ r c,kA r c v = true→∀ b o,N' b o→¬F (.cell r c) b o):st' = st∧RepI w N' (.tv (.slc kx.1 kx.2) x):=by
 have hI:∀ ob,RepI w (tot F) ob→RepI w N' ob:=fun ob h=>h.frame fun b o v hn hv=>⟨hv,fun h'=>hn (hN _ _ h')⟩
 have hO:∀ {r c ob G},kA r c v = true→RepO w ob G→(∀ b o,G b o→F (.cell r c) b o)→(∀ b o,ob.reg b o→False)→RepI w N' ob:=fun ht h hG hr=>h.toI fun b o hbo h'=>by
  rcases hbo with hbo|hbo
  ·exact hN2 _ _ ht b o h' (hG _ _ hbo)
  ·exact hr _ _ hbo
 unfold BA at h
 split at h
 ·obtain⟨h1,h2⟩:=af h
  injection h1 with h1 h3;subst h1
  simp only[RepS]at hv
  exact⟨h2.symm,hI _ hv⟩
 ·obtain⟨h1,h2⟩:=af h
  injection h1 with h1 h3;subst h1
  simp only[RepS]at hv
  subst hv
  exact⟨h2.symm,RepI.slc (xs:=[]) (b:=0) (off:=0) (fun h=>by simp at h) (Nat.le_refl _) .enil⟩
 ·obtain⟨kx',s1,h1,h2⟩:=Cmd.abt h
  obtain⟨rfl,he⟩:=eY h1
  obtain⟨h2,h3⟩:=af h2
  injection h2 with h2 _;subst h2
  simp only[RepS]at hv
  obtain⟨y,hy,ho⟩:=dH R he
  rw[hv.2.1]at hy
  injection hy with hy;subst hy
  exact⟨h3.symm,hO (by simp[kA,bJ]) ho (fun _ _ h=>h) (fun _ _ h=>h)⟩
 ·obtain⟨kx',s1,h1,h2⟩:=Cmd.abt h
  obtain⟨rfl,he⟩:=eY h1
  obtain⟨h2,h3⟩:=af h2
  injection h2 with h2 _;subst h2
  simp only[RepS]at hv
  obtain⟨e1,e2,A,cap,e3,rfl⟩:=hv _ _ he
  obtain⟨y,hy,ho⟩:=dH R he
  rw[e3]at hy
  injection hy with hy;subst hy
  exact⟨h3.symm,(hO (by simp[kA,bJ]) ho (fun _ _ h=>h) (fun _ _ h=>h)).part e1 e2⟩
 ·obtain⟨kx',s1,h1,h2⟩:=Cmd.abt h
  obtain⟨rfl,he⟩:=eY h1
  obtain⟨k9,x9⟩:=kx'
  simp only at h2 he
  split at h2
  ·rename_i r c i s o el a0 _ k ys hel
   obtain⟨h2,h3⟩:=af h2
   injection h2 with h2 h4;injection h4 with _ h4;subst h2;subst h4
   simp only[RepS]at hv
   obtain⟨e1,e2,e3,b,q,e4,e5⟩:=hv _ _ he
   obtain⟨y,hy,ho⟩:=dH R he
   obtain⟨A,cap,b',off,G0,rfl,hle,hA,hF,hE,hd0,hw⟩:=bP ho
   obtain⟨_,o',len,cap',e6,e7⟩:=e4
   rw[hy]at e6
   injection e6 with e6;injection e6 with e6 e8 e9
   have hlt:o < k9.length:=(List.getElem?_eq_some_iff.1 e1).1
   rw[hA (Nat.mul_pos (by omega) (by omega))]at e6
   injection e6 with e6;injection e6 with e6 e10
   subst e6;subst e10
   obtain⟨Fe,Fr,hcells,hdE,rfl,hkel,_⟩:=RepO.getElem hE hp
   obtain⟨yo,Fo,Fc,hyo,hto,hdC,rfl,_⟩:=RepO.getCell hcells hel
   subst e2
   rw[show off+i * k9.length+o = q from e7.symm,e5]at hyo
   injection hyo with hyo;subst hyo
   exact⟨h3.symm,hO (r:=r) (c:=c) (by simp[kA,bJ]) hto (fun b o h=>by rw[hF];exact .inr (.inl (.inl h))) (fun _ _ h=>h)⟩
  ·cases h2
 ·cases h
theorem oV(R:Rel g X st a w base mb F){v:V}{ans a':List Ans}{kx:Kx}{p:Prop}{x:Value}(h:(BA v ans).run st = some ((kx,a',p),st'))(hp:p)(hv:RepS w (tot F) base mb st v x)
 (N':Fp) (hN:∀ b o,N' b o→F .x b o):st' = st∧RepI w N' (.tv (.slc kx.1 kx.2) x) :=
 tK R h hp hv N' (fun b o h=>⟨_,hN b o h⟩) (fun r c _ b o h h'=>R.dis _ _ (by simp) b o h' (hN b o h))
end Go.Tm
namespace Go.Tm
variable {g:G} {X:Fp} {st st':St} {a:Act} {w:World} {base:Nat→Base} {mb:Nat→Nat} {F:Ix→Fp} {N:Fp} {P:Program}
theorem xJ(k:IntKind)(n:Int):(asIntOf (.int k n)).run P w = .ok (k,n) w:=rfl
theorem sf:∀ {cs:List V} {xs:List Value} (n:Nat),RepSs w N base mb st cs xs→RepSs w N base mb st (cs.drop n) (xs.drop n)
 |cs,xs,0,h=>by simpa using h
 |[],[],n+1,h=>by simpa using h
 |c :: cs,x :: xs,n+1,h=>by simp only[RepSs]at h;simpa using sf n h.2
 |[],_ :: _,n+1,h=>by simp only[RepSs]at h
 |_ :: _,[],n+1,h=>by simp only[RepSs]at h
theorem se:∀ {cs:List V} {xs:List Value} (n:Nat),RepSs w N base mb st cs xs→RepSs w N base mb st (cs.take n) (xs.take n)
 |cs,xs,0,h=>by simp[RepSs]
 |[],[],n+1,h=>by simpa using h
 |c :: cs,x :: xs,n+1,h=>by simp only[RepSs]at h;simp only[List.take_succ_cons,RepSs];exact⟨h.1,se n h.2⟩
 |[],_ :: _,n+1,h=>by simp only[RepSs]at h
 |_ :: _,[],n+1,h=>by simp only[RepSs]at h
theorem hZ:∀ {cs:List V} {xs:List Value},RepSs w N base mb st cs xs→cs.length = xs.length
 |[],[],h=>rfl
 |c :: cs,x :: xs,h=>by simp only[RepSs]at h;simp[hZ h.2]
 |[],_ :: _,h=>by simp only[RepSs]at h
 |_ :: _,[],h=>by simp only[RepSs]at h
theorem jm:∀ {cs:List V} {xs:List Value} {i:Nat} {c:V},RepSs w N base mb st cs xs→cs[i]? = some c→∃ x,xs[i]? = some x∧RepS w N base mb st c x
 |c :: cs,x :: xs,0,c',h,e=>by simp only[RepSs]at h;simp at e;subst e;exact⟨x,rfl,h.1⟩
 |c :: cs,x :: xs,i+1,c',h,e=>by simp only[RepSs]at h;simp at e;simpa using jm h.2 e
 |[],_,_,_,_,e=>by simp at e
 |_ :: _,[],_,_,h,_=>by simp only[RepSs]at h
def qv(agg:Bool)(xs:List Value):Value:=match agg with|true=>.agg xs.toArray|false=>match xs with|x :: _=>x|[]=>Go.undef
theorem nR{agg:Bool}{cs:List V}{xs:List Value}{v:V}(h:(Uy agg cs).run st = some (v,st'))(hc:RepSs w N base mb st cs xs):st' = st∧RepS w N base mb st v (qv agg xs):=by
 unfold Uy at h
 split at h
 ·obtain⟨rfl,rfl⟩:=af h
  exact⟨rfl,by simp only[RepS];exact⟨xs,rfl,hc⟩⟩
 ·obtain⟨rfl,rfl⟩:=af h
  cases xs with
  |nil=>simp only[RepSs]at hc
  |cons x xs=>simp only[RepSs]at hc;exact⟨rfl,hc.1⟩
 ·cases h
theorem MH{vc vx vy v:V}{c x y:Value}{ans a':List Ans}{p:Prop}(h:(WE vc vx vy ans).run st = some ((v,a',p),st'))(hp:p)
 (hc:RepS w N base mb st vc c) (hx:RepS w N base mb st vx x) (hy:RepS w N base mb st vy y) :
 st' = st∧ug P (do pure (if ←asBool c then x else y)) w N base mb st v:=by
 unfold WE at h
 split at h
 ·obtain⟨rfl,_⟩:=aB hc
  obtain⟨h1,h2⟩:=af h
  injection h1 with h1 h3
  injection h3 with h3 h4
  subst h4;subst hp
  refine⟨h2.symm,_,rfl,?_⟩
  subst h1
  rename_i c' _ _
  cases c'
  ·exact hy
  ·exact hx
 ·cases h
theorem Ah{vx v:V}{x:Value}{ans a':List Ans}{p:Prop}(h:(xf vx ans).run st = some ((v,a',p),st'))(hx:RepS w N base mb st vx x) :
 st' = st∧RepS w N base mb st v x∧∃ ad,x = .pointer (some ad):=by
 unfold xf at h
 split at h
 ·obtain⟨h1,h2⟩:=af h
  injection h1 with h1 h3
  subst h1
  refine⟨h2.symm,hx,?_⟩
  simp only[RepS]at hx
  obtain⟨b,o,_,rfl⟩:=hx
  exact⟨_,rfl⟩
 ·cases h
theorem EE{vx v:V}{x:Value}{i:Nat}{ans a':List Ans}{p:Prop}(h:(CU vx i ans).run st = some ((v,a',p),st'))(hx:RepS w N base mb st vx x) :
 st' = st∧ug P (Instr.extract x i) w N base mb st v:=by
 unfold CU at h
 split at h
 ·split at h
  ·rename_i hq
   obtain⟨h1,h2⟩:=af h
   injection h1 with h1 h3
   subst h1
   simp only[RepS]at hx
   obtain⟨xs,rfl,hxs⟩:=hx
   obtain⟨y,hy,hr⟩:=jm hxs hq
   exact⟨h2.symm,y,by simp[Instr.extract,hy],hr⟩
  ·cases h
 ·cases h
theorem tR{mx:Bool}{vx vy v:V}{x y:Value}{ans a':List Ans}{p:Prop}(h:(B0 mx vx vy ans).run st = some ((v,a',p),st'))(hp:p)
 (hx:RepS w N base mb st vx x) (hy:RepS w N base mb st vy y) (ts:Array TypeId) (t:TypeId) :
 st' = st∧(mx = true→ug P (Builtin.max_ ts t #[x,y]) w N base mb st v)∧(mx = false→ug P (Builtin.min_ ts t #[x,y]) w N base mb st v):=by
 unfold B0 at h
 split at h
 ·obtain⟨rfl,_⟩:=aB hx
  obtain⟨rfl,_⟩:=aB hy
  obtain⟨h1,h2⟩:=af h
  injection h1 with h1 h3
  injection h3 with h3 h4
  subst h1;subst h4;subst hp
  refine⟨h2.symm,fun e=>?_,fun e=>?_⟩
  ·subst e
   refine⟨_,by simp[Builtin.max_,Builtin.max2];rfl,KI ?_⟩
   simp only[Value.int.injEq,true_and]
   rename_i n m _ _ _
   rcases Int.le_total n m with h|h
   ·rw[Int.max_eq_right h];split <;> omega
   ·rw[Int.max_eq_left h];split <;> omega
  ·subst e
   refine⟨_,by simp[Builtin.min_,Builtin.min2];rfl,KI ?_⟩
   simp only[Value.int.injEq,true_and]
   rename_i n m _ _ _
   rcases Int.le_total n m with h|h
   ·rw[Int.min_eq_left h];split <;> omega
   ·rw[Int.min_eq_right h];split <;> omega
 ·cases h
theorem Qp(R:Rel g X st a w base mb F){t:TypeId}{ty:Ty}(hT:TyOk P t ty){vx v:V}{x:Value}{ans a':List Ans}{p:Prop}(h:(aat ty vx ans).run st = some ((v,a',p),st'))(hp:p)
 (hx:RepS w (tot F) base mb st vx x) (ty':TypeId):st' = st∧ug P (Builtin.len_ #[t] ty' #[x]) w (tot F) base mb st v:=by
 unfold aat at h
 split at h
 ·rename_i hd
  obtain⟨rfl,_⟩:=aB hx
  obtain⟨h1,h2⟩:=af h
  injection h1 with h1 h3
  subst h1
  exact⟨h2.symm,_,by simp[Builtin.len_,run_underlying (hT.str hd),goInt],eL rfl⟩
 ·rename_i hd
  obtain⟨⟨kx,a1,p1⟩,s1,h1,h2⟩:=Cmd.abt h
  obtain⟨h2,h3⟩:=af h2
  injection h2 with h2 h4
  injection h4 with _ h4
  subst h2;subst h4
  obtain⟨rfl,hI⟩:=oV R h1 hp hx Fp.none (fun _ _ h=>h.elim)
  refine⟨h3.symm,_,?_,eL rfl⟩
  cases hI with
  |slc ha hc h=>simp[Builtin.len_,run_underlying (hT.slice hd),goInt]
 ·cases h
theorem JG{t:TypeId}{ty:Ty}(hT:TyOk P t ty){vx vi v:V}{x i:Value}{ans a':List Ans}{p:Prop}(h:(NO ty vx vi ans).run st = some ((v,a',p),st'))(hp:p)
 (hx:RepS w N base mb st vx x) (hi:RepS w N base mb st vi i):st' = st∧ug P (Instr.index t x i) w N base mb st v:=by
 unfold NO at h
 split at h
 ·rename_i hd
  obtain⟨rfl,_⟩:=aB hx
  obtain⟨rfl,_⟩:=aB hi
  obtain⟨h1,h2⟩:=af h
  injection h1 with h1 h3
  injection h3 with h3 h4
  subst h1;subst h4
  obtain⟨h0,hb⟩:=hp
  obtain⟨c,hc,rfl⟩:=Option.map_eq_some_iff.1 hb
  exact⟨h2.symm,_,by simp[Instr.index,run_underlying (hT.str hd),xJ,h0,hc],eL rfl⟩
 ·cases h
theorem GR{r:Nat}{s:Option (Nat×Nat×Nat)}{o off:Nat}{x:Value}(h:RepS w N base mb st (.ptr ⟨r,s,o⟩) x):∃ b q,x = .pointer (some ⟨b,q,none⟩)∧RepS w N base mb st (.ptr ⟨r,s,o+off⟩) (.pointer (some ⟨b,q+off,none⟩)):=by
 simp only[RepS]at *
 obtain⟨b,q,h1,rfl⟩:=h
 refine⟨b,q,rfl,b,q+off,?_,rfl⟩
 cases s with
 |none=>obtain⟨o0,h1,h2⟩:=h1;exact⟨o0,h1,by omega⟩
 |some s=>obtain⟨c,i,s⟩:=s;obtain⟨h0,o',len,cap,h1,h2⟩:=h1;exact⟨h0,o',len,cap,h1,by omega⟩
theorem TyOk.field{t:TypeId}{ty:Ty}(hT:TyOk P t ty){fs:List (Nat×TypeId)}(hd:ty.d = .struct fs){f off:Nat}{ft:TypeId}(hf:fs[f]? = some (off,ft)) :
 ∃ fields fd,P.underlying t = some (.struct fields)∧fields[f]? = some fd∧fd.offset = off∧fd.type = ft:=by
 obtain⟨fields,h1,h2⟩:=hT.struct hd
 rw[←h2]at hf
 simp only[List.getElem?_map,Option.map_eq_some_iff]at hf
 obtain⟨fd,h3,h4⟩:=hf
 injection h4 with h4 h5
 exact⟨fields,fd,h1,by simpa using h3,h4,h5⟩
theorem zr{E:Env}(hE:EnvOk P E){t:TypeId}{ty:Ty}(hT:TyOk P t ty){vx v:V}{x:Value}{f:Nat}{ans a':List Ans}{p:Prop}(h:(sG E ty vx f ans).run st = some ((v,a',p),st'))
 (hx:RepS w N base mb st vx x):st' = st∧ug P (Instr.fieldAt t x f) w N base mb st v:=by
 unfold sG at h
 split at h
 ·rename_i fs hd
  split at h
  ·rename_i off ft hf
   split at h
   ·rename_i fty hft
    obtain⟨_,s1,h1,h2⟩:=Cmd.abt h
    obtain⟨hb,rfl⟩:=bm h1
    have hsz:fty.zc.length≠0:=by simp only[Nat.ble_eq,Ty.size]at hb;omega
    obtain⟨fields,fd,hu,hfd,rfl,rfl⟩:=hT.field hd hf
    have hrs:=(hE _ _ hft).runSize w
    have key:∀ b q,(Instr.fieldAt t (.pointer (some ⟨b,q,none⟩)) f).run P w = .ok (.pointer (some ⟨b,q+fd.offset,none⟩)) w:=by
     intro b q
     simp[Instr.fieldAt,run_underlying hu,hfd,Instr.sureAddr,fieldPlace,hrs,hsz,Addr.add_mid]
    split at h2
    ·obtain⟨h2,h3⟩:=af h2
     injection h2 with h2 h4
     subst h2
     obtain⟨b,q,rfl,hr⟩:=GR (off:=fd.offset) hx
     exact⟨h3.symm,_,key b q,hr⟩
    ·obtain⟨h2,h3⟩:=af h2
     injection h2 with h2 h4
     subst h2
     simp only[RepS]at hx
     obtain⟨b,q,rfl,hr⟩:=hx
     refine⟨h3.symm,_,key b q,?_⟩
     simp only[RepS]
     exact⟨b,q+fd.offset,rfl,RepI.dropCells _ hr⟩
    ·cases h2
   ·cases h
  ·cases h
 ·cases h
theorem KS{t:TypeId}{ty:Ty}(hT:TyOk P t ty){xs:List Value}{off:Nat}(h:off+ty.zc.length≤xs.length)(hz:ty.agg = false→ty.zc.length = 1) :
 (part t xs.toArray off).run P w = .ok (qv ty.agg ((xs.drop off).take ty.zc.length)) w:=by
 unfold part
 rw[Sem.run_bind,hT.runAgg]
 simp only[Result.andThen_ok]
 cases ha:ty.agg with
 |true =>
  simp only[if_true,qv,Sem.run_bind,hT.runSize,Result.andThen_ok,Sem.run_pure]
  congr 1
  simp[List.extract_toArray,List.take_drop]
 |false =>
  have h1:=hz ha
  rw[h1]at h ⊢
  have hlt:off < xs.length:=by omega
  simp only[Bool.false_eq_true,if_false,qv]
  have:(xs.drop off).take 1 = [xs[off]]:=by rw[List.drop_eq_getElem_cons hlt];rfl
  rw[this]
  simp[hlt]
theorem JU{E:Env}(hE:EnvOk P E){t:TypeId}{ty:Ty}(hT:TyOk P t ty){vx v:V}{x:Value}{f:Nat}{ans a':List Ans}{p:Prop}(h:(NR E ty vx f ans).run st = some ((v,a',p),st'))
 (hx:RepS w N base mb st vx x):st' = st∧ug P (Instr.field t x f) w N base mb st v:=by
 unfold NR at h
 split at h
 ·rename_i fs cs hd
  split at h
  ·rename_i off ft hf
   split at h
   ·rename_i fty hft
    obtain⟨_,s1,h1,h2⟩:=Cmd.abt h
    obtain⟨hb,rfl⟩:=bm h1
    obtain⟨v1,s2,h3,h4⟩:=Cmd.abt h2
    obtain⟨h4,h5⟩:=af h4
    injection h4 with h4 _
    subst h4
    simp only[RepS]at hx
    obtain⟨xs,rfl,hxs⟩:=hx
    have hl:=hZ hxs
    obtain⟨fields,fd,hu,hfd,rfl,rfl⟩:=hT.field hd hf
    obtain⟨rfl,hr⟩:=nR h3 (se fty.size (sf fd.offset hxs))
    refine⟨h5.symm,_,?_,hr⟩
    have:=KS (w:=w) (hE _ _ hft) (xs:=xs) (off:=fd.offset) (by simp only[Nat.ble_eq,Ty.size]at hb;omega) (hE _ _ hft).one
    simp[Instr.field,run_underlying hu,hfd,asAgg,this,Ty.size]
   ·cases h
  ·cases h
 ·cases h
theorem gY:∀ {a b:List Bool},Ck a b = true→a = b
 |[],[],_=>rfl
 |true :: a,true :: b,h=>by simp only[Ck]at h;rw[gY h]
 |false :: a,false :: b,h=>by simp only[Ck]at h;rw[gY h]
theorem Ty.abx(ty:Ty):ty.kd.length = ty.zc.length:=by simp[Ty.kd]
theorem yW{E:Env}(hE:EnvOk P E)(R:Rel g X st a w base mb F){t:TypeId}{ty:Ty}(hT:TyOk P t ty){vx vi v:V}{x i:Value}{ans a':List Ans}{p:Prop}
 (h:(sE E ty vx vi ans).run st = some ((v,a',p),st')) (hp:p) (hx:RepS w (tot F) base mb st vx x) (hi:RepS w (tot F) base mb st vi i) :
 st' = st∧ug P (Instr.indexAt t x i) w (tot F) base mb st v:=by
 unfold sE at h
 split at h
 ·rename_i e n hd
  obtain⟨rfl,_⟩:=aB hi
  split at h
  ·rename_i ety hety
   have hu:=hT.slice hd
   have hsz:=(hE _ _ hety).runSize w
   have key:∀ (b q len cap m:Nat),n = m→m < len→(Instr.indexAt t (.slice (some ⟨b,q,none⟩) len cap) (.int .i64 n)).run P w = .ok (.pointer (some ⟨b,q+m * ety.zc.length,none⟩)) w:=by
    intro b q len cap m hm hlt
    subst hm
    simp[Instr.indexAt,xJ,run_underlying hu,hsz,Addr.add_mid,hlt]
   split at h
   ·rename_i k xs el a0
    obtain⟨_,s1,h1,h2⟩:=Cmd.abt h
    obtain⟨hb,rfl⟩:=bm h1
    obtain⟨h2,h3⟩:=af h2
    injection h2 with h2 h4
    injection h4 with h4 h5
    subst h2;subst h5
    obtain⟨h0,hel⟩:=hp
    obtain rfl:=gY hb
    simp only[RepS]at hx
    cases hx with
    |@slc _ _ A cap b off ha hc hE' =>
     have hlt:n.toNat < xs.length:=(List.getElem?_eq_some_iff.1 hel).1
     obtain⟨hcells,hconf⟩:=RepI.getElem hE' hel
     rw[Ty.abx]at hcells
     by_cases hk:0 < ety.zc.length
     ·rw[Ty.abx]at ha
      have hA:=ha (Nat.mul_pos (by omega) hk)
      subst hA
      exact⟨h3.symm,_,key b off xs.length cap n.toNat (by omega) hlt,by simp only[RepS];exact⟨b,_,rfl,hcells⟩⟩
     ·exact absurd (hE _ _ hety).len hk
   ·rename_i r c m a0
    obtain⟨kx,s1,h1,h2⟩:=Cmd.abt h
    obtain⟨rfl,he⟩:=eY h1
    obtain⟨_,s2,h7,h8⟩:=Cmd.abt h2
    obtain⟨hb,rfl⟩:=bm h7
    obtain⟨h2,h3⟩:=af h8
    injection h2 with h2 h4
    injection h4 with h4 h5
    subst h2;subst h5
    obtain⟨h0,hlt⟩:=hp
    have hk:=gY hb
    simp only[RepS]at hx
    obtain⟨hin,hh,_⟩:=hx
    obtain⟨y,hy,ho⟩:=dH R he
    rw[hh]at hy
    injection hy with hy;subst hy
    obtain⟨A,cap,b,off,G0,rfl,hle,hA,hF,hE',hd0,hw⟩:=bP ho
    have hpos:=(hE _ _ hety).len
    have hA:=hA (Nat.mul_pos (by omega) (by rw[hk,Ty.abx];exact hpos))
    subst hA
    exact⟨h3.symm,_,key b off kx.2.length cap m h0 hlt,by simp only[RepS];exact⟨b,_,⟨hin,off,_,_,hh,rfl⟩,rfl⟩⟩
   ·rename_i r c lo hi m a0
    obtain⟨kx,s1,h1,h2⟩:=Cmd.abt h
    obtain⟨rfl,he⟩:=eY h1
    obtain⟨_,s2,h7,h8⟩:=Cmd.abt h2
    obtain⟨hb,rfl⟩:=bm h7
    obtain⟨h2,h3⟩:=af h8
    injection h2 with h2 h4
    injection h4 with h4 h5
    subst h2;subst h5
    obtain⟨h0,hlt,hle'⟩:=hp
    have hk:=gY hb
    simp only[RepS]at hx
    obtain⟨e1,e2,A,cap,e3,rfl⟩:=hx _ _ he
    obtain⟨y,hy,ho⟩:=dH R he
    rw[e3]at hy
    injection hy with hy;subst hy
    obtain⟨A',cap',b,off,G0,hz,hle,hA,hF,hE',hd0,hw⟩:=bP ho
    injection hz with e4 e5 e6
    subst e4;subst e6
    have hpos:=(hE _ _ hety).len
    have hA:=hA (Nat.mul_pos (by omega) (by rw[hk,Ty.abx];exact hpos))
    subst hA
    rw[if_neg (by omega),o5 rfl]
    refine⟨h3.symm,_,key b _ _ _ m h0 (by omega),?_⟩
    simp only[RepS]
    exact⟨b,_,⟨R.live' (by rw[he];simp),off,_,_,e3,by rw[hk,Ty.abx,Ty.size,Nat.add_mul];omega⟩,rfl⟩
   ·cases h
  ·cases h
 ·cases h
end Go.Tm
namespace Go.Tm
variable {g:G} {X:Fp} {st st':St} {a:Act} {w:World} {base:Nat→Base} {mb:Nat→Nat} {F:Ix→Fp} {N:Fp} {P:Program}
theorem JB{t:TypeId}{ty:Ty}(hT:TyOk P t ty){b o:Nat}{ys:List Value}(hl:ys.length = ty.zc.length)(hc:∀ j y,ys[j]? = some y→w.cell? ⟨b,o+j,none⟩ = some y) :
 (loadVar t ⟨b,o,none⟩).run P w = .ok (qv ty.agg ys) w:=by
 unfold loadVar
 rw[Sem.run_bind,hT.runAgg]
 simp only[Result.andThen_ok]
 cases ha:ty.agg with
 |true =>
  have:=run_loadCells_list (P:=P) w ⟨b,o,none⟩ ys (fun j v hv=>by rw[Addr.add_mid];exact hc j v hv)
  simp only[if_true,Sem.run_bind,hT.runSize,Result.andThen_ok,←hl,this,Sem.run_pure,qv]
 |false =>
  have h1:=hT.one ha
  rw[h1]at hl
  match ys,hl with
  |[y],_ =>
   have:=hc 0 y rfl
   simp only[Nat.add_zero]at this
   simp[qv,this]
theorem qt(R:Rel g X st a w base mb F){r b0 o0:Nat}(hb:base r = .mem b0 o0):∀ {n o:Nat} {cs:List V} {st':St},(mh r o n).run st = some (cs,st')→
 st' = st∧∃ ys,ys.length = n∧RepSs w (tot F) base mb st cs ys∧∀ j y,ys[j]? = some y→w.cell? ⟨b0,o0+o+j,none⟩ = some y
 |0,o,cs,st',h=>by obtain⟨rfl,rfl⟩:=af h;exact⟨rfl,[],rfl,by simp only[RepSs],by simp⟩
 |n+1,o,cs,st',h=>by
  simp only[mh,Cmd.run]at h
  have fin:∀ {c:V} {y:Value},hd w base r o = some y→RepS w (tot F) base mb st c y→((mh r (o+1) n).bind fun cs=>Cmd.ret (c :: cs)).run st = some (cs,st')→
   st' = st∧∃ ys,ys.length = n+1∧RepSs w (tot F) base mb st cs ys∧∀ j y,ys[j]? = some y→w.cell? ⟨b0,o0+o+j,none⟩ = some y:=by
   intro c y hy hc h
   obtain⟨cs1,s1,h1,h2⟩:=Cmd.abt h
   obtain⟨rfl,ys,hl,hs,hm⟩:=qt R hb h1
   obtain⟨rfl,rfl⟩:=af h2
   refine⟨rfl,y :: ys,by simp[hl],by simp only[RepSs];exact⟨hc,hs⟩,fun j z hz=>?_⟩
   cases j with
   |zero =>
    simp at hz;subst hz
    unfold hd at hy
    rw[hb]at hy
    exact hy
   |succ j =>
    have:=hm j z (by simpa using hz)
    rwa [show o0+ (o+1) +j = o0+o+ (j+1) by omega]at this
  cases he:st.rc r o <;> rw[he]at h <;> simp only[iJ]at h
  all_goals (try (cases h;done))
  rotate_left
  ·rename_i k xs
   obtain⟨y,hy,ho⟩:=dH R he
   obtain⟨A,cap,b,off,G0,rfl,_⟩:=bP ho
   exact fin hy (by simp only[RepS];exact⟨R.live' (by rw[he];simp),hy,_,_,_,rfl⟩) h
  rotate_left
  ·rename_i x
   have:=R.cell r o
   rw[he]at this
   obtain⟨⟨y,hy,hi⟩,_⟩:=this
   exact fin hy (by simp only[RepS];exact hi) h
  ·rename_i r' c'
   have h:((inR r' (c'+1)).bind fun _=>(mh r (o+1) n).bind fun cs=>Cmd.ret (V.ref ⟨r',none,c'⟩ :: cs)).run st = some (cs,st'):=h
   obtain⟨_,s1,h1,h2⟩:=Cmd.abt h
   obtain⟨rfl,hin⟩:=oi h1
   have:=R.al r o
   rw[he]at this
   obtain⟨vs,v,k1,k2,k3,A,l,m,rfl⟩:=this
   exact fin k3 (by simp only[RepS];exact⟨hin c' (by omega),by unfold hd;rw[k1];exact k2,_,_,_,rfl⟩) h2
theorem RepI.vals{N:Fp}:∀ {cs:List T} {b o:Nat},RepI w N (.cells cs b o)→∃ ys:List Value,ys.length = cs.length∧(∀ j y,ys[j]? = some y→w.cell? ⟨b,o+j,none⟩ = some y)∧∀ base mb st,RepSs w N base mb st (cs.map .t) ys
 |[],b,o,_=>⟨[],rfl,by simp,fun _ _ _=>by simp[RepSs]⟩
 |c :: cs,b,o,h=>by
  cases h with
  |@cons _ _ _ _ y hy hn h t =>
   obtain⟨ys,hl,hm,hs⟩:=RepI.vals t
   refine⟨y :: ys,by simp[hl],fun j z hz=>?_,fun base mb st=>by simp only[List.map_cons,RepSs];exact⟨by simp only[RepS];exact h,hs base mb st⟩⟩
   cases j with
   |zero=>simp at hz;subst hz;exact hy
   |succ j =>
    have:=hm j z (by simpa using hz)
    rwa [show o+1+j = o+ (j+1) by omega]at this
theorem uS:∀ {k:List Bool} {x:List T} {j:Nat} {kk:List Bool} {ys:List (List T)},bT k x = true→x[j]? = some (.slc kk ys)→k[j]? = some true
 |false :: k,.v _ :: x,0,_,_,_,h=>by simp at h
 |false :: k,.v _ :: x,j+1,_,_,hc,h=>by simp only[bT]at hc;simpa using uS hc (by simpa using h)
 |true :: k,.slc _ _ :: x,0,_,_,_,_=>rfl
 |true :: k,.slc _ _ :: x,j+1,_,_,hc,h=>by simp only[bT]at hc;simpa using uS hc (by simpa using h)
 |true :: k,.hole :: x,0,_,_,_,h=>by simp at h
 |true :: k,.hole :: x,j+1,_,_,hc,h=>by simp only[bT]at hc;simpa using uS hc (by simpa using h)
 |[],[],j,_,_,_,h=>by simp at h
theorem tJ{r c i s b q0:Nat}{k:List Bool}{xs:List (List T)}{len cap:Nat}(he:st.rc r c = .own k xs)(hs:k.length = s)(hi:i < xs.length)(hin:InR st r c)
 (hh:hd w base r c = some (.slice (some ⟨b,q0,none⟩) len cap)):∀ {cs:List T} {o:Nat} {G:Fp},(∀ j kk ys,cs[j]? = some (.slc kk ys)→k[o+j]? = some true)→RepO w (.cells cs b (q0+i * s+o)) G→
 ∃ ys,ys.length = cs.length∧RepSs w N base mb st (C8 r (c,i,s) o cs) ys∧∀ j y,ys[j]? = some y→w.cell? ⟨b,q0+i * s+o+j,none⟩ = some y
 |[],o,G,_,_=>⟨[],rfl,by simp only[C8,RepSs],by simp⟩
 |e :: cs,o,G,hk,h=>by
  cases h with
  |@cons _ _ _ _ y F1 F2 hy h t hd' =>
   obtain⟨ys,hl,hs',hm⟩:=tJ he hs hi hin hh (cs:=cs) (o:=o+1) (fun j kk ys hj=>by
    have:=hk (j+1) kk ys (by simpa using hj)
    rwa [show o+ (j+1) = o+1+j by omega]at this) (by rwa [show q0+i * s+o+1 = q0+i * s+ (o+1) by omega]at t)
   refine⟨y :: ys,by simp[hl],?_,fun j z hz=>?_⟩
   ·simp only[C8,RepSs]
    refine⟨?_,hs'⟩
    cases e with
    |v x=>cases h with|v h=>simp only[Ra,RepS];exact .v h
    |hole=>simp only[Ra,RepS]
    |slc kk zs =>
     simp only[Ra,RepS]
     intro k' xs' he'
     rw[he]at he'
     injection he' with e1 e2
     subst e1;subst e2
     exact⟨by simpa using hk 0 kk zs rfl,hs,hi,b,_,⟨hin,q0,len,cap,hh,rfl⟩,hy⟩
   ·cases j with
    |zero=>simp at hz;subst hz;exact hy
    |succ j =>
     have:=hm j z (by simpa using hz)
     rwa [show q0+i * s+ (o+1) +j = q0+i * s+o+ (j+1) by omega]at this
theorem RepO.dropCells:∀ {cs:List T} {b o:Nat} {F:Fp} (n:Nat),RepO w (.cells cs b o) F→∃ G,RepO w (.cells (cs.drop n) b (o+n)) G
 |cs,b,o,F,0,h=>⟨F,by simpa using h⟩
 |[],b,o,F,n+1,h=>⟨_,by simpa using RepO.nil⟩
 |c :: cs,b,o,F,n+1,h=>by
  cases h with
  |cons hy h t hd =>
   obtain⟨G,hG⟩:=RepO.dropCells n t
   rw[show o+1+n = o+ (n+1) by omega]at hG
   exact⟨G,by simpa using hG⟩
theorem RepO.takeCells:∀ {cs:List T} {b o:Nat} {F:Fp} (n:Nat),RepO w (.cells cs b o) F→∃ G,RepO w (.cells (cs.take n) b o) G∧∀ p q,G p q→F p q
 |cs,b,o,F,0,h=>⟨Fp.none,by simpa using RepO.nil,fun _ _ h=>h.elim⟩
 |[],b,o,F,n+1,h=>⟨Fp.none,by simpa using RepO.nil,fun _ _ h=>h.elim⟩
 |c :: cs,b,o,F,n+1,h=>by
  cases h with
  |@cons _ _ _ _ _ F1 F2 hy h t hd =>
   obtain⟨G,hG,hs⟩:=RepO.takeCells n t
   exact⟨Fp.or F1 G,by simpa using RepO.cons hy h hG (fun p q a b=>hd p q a (hs p q b)),fun p q h=>h.imp id (hs p q)⟩
theorem Tg(R:Rel g X st a w base mb F){r c i:Nat}{k:List Bool}{xs:List (List T)}{el:List T}(he:st.rc r c = .own k xs)(hel:xs[i]? = some el)(hk:0 < k.length) :
 ∃ b q len cap G,hd w base r c = some (.slice (some ⟨b,q,none⟩) len cap)∧RepO w (.cells el b (q+i * k.length)) G∧bT k el = true∧InR st r c∧i < xs.length:=by
 obtain⟨y,hy,ho⟩:=dH R he
 obtain⟨A,cap,b,off,G0,rfl,hle,hA,hF,hE',hd0,hw⟩:=bP ho
 have hi:i < xs.length:=(List.getElem?_eq_some_iff.1 hel).1
 have hA:=hA (Nat.mul_pos (by omega) hk)
 subst hA
 obtain⟨F1,F2,h1,_,_,h2,_⟩:=RepO.getElem hE' hel
 exact⟨b,off,_,_,F1,hy,h1,h2,R.live' (by rw[he];simp),hi⟩
theorem B4(R:Rel g X st a w base mb F){t:TypeId}{ty:Ty}(hT:TyOk P t ty){vx v:V}{x:Value}{ans a':List Ans}{p:Prop}(h:(IH ty vx ans).run st = some ((v,a',p),st'))(hp:p)
 (hx:RepS w (tot F) base mb st vx x):st' = st∧ug P (Instr.loadAt t x) w (tot F) base mb st v:=by
 have key:∀ b q:Nat,∀ ys,ys.length = ty.zc.length→(∀ j y,ys[j]? = some y→w.cell? ⟨b,q+j,none⟩ = some y)→(Instr.loadAt t (.pointer (some ⟨b,q,none⟩))).run P w = .ok (qv ty.agg ys) w:=by
  intro b q ys hl hm
  simp only[Instr.loadAt,Instr.sureAddr,Sem.run_bind,Sem.run_pure,Result.andThen_ok]
  exact JB hT hl hm
 unfold IH at h
 split at h
 ·rename_i r o
  simp only[RepS]at hx
  obtain⟨b,q,⟨o0,hb,rfl⟩,rfl⟩:=hx
  obtain⟨cs,s1,h1,h2⟩:=Cmd.abt h
  obtain⟨rfl,ys,hl,hs,hm⟩:=qt R hb h1
  obtain⟨v1,s2,h3,h4⟩:=Cmd.abt h2
  obtain⟨rfl,hr⟩:=nR h3 hs
  obtain⟨h4,h5⟩:=af h4
  injection h4 with h4 _
  subst h4
  exact⟨h5.symm,_,key b (o0+o) ys hl hm,hr⟩
 ·rename_i r c i s o
  split at h
  ·rename_i el a0
   obtain⟨kx,s1,h1,h2⟩:=Cmd.abt h
   obtain⟨rfl,he⟩:=eY h1
   obtain⟨_,s2,h3,h4⟩:=Cmd.abt h2
   obtain⟨hb,rfl⟩:=bm h3
   obtain⟨v1,s3,h5,h6⟩:=Cmd.abt h4
   obtain⟨h6,h7⟩:=af h6
   injection h6 with h6 h8
   injection h8 with _ h8
   subst h6;subst h8
   simp only[RepS]at hx
   obtain⟨b,q,⟨hin,q0,len,cap,hh,rfl⟩,rfl⟩:=hx
   try simp only at hp he hb h5
   have hlen:=hT.len
   have hkl:el.length = kx.1.length:=by
    obtain⟨y,hy,ho⟩:=dH R he
    obtain⟨A,cap,b,off,G0,rfl,hle,hA,hF,hE',hd0,hw⟩:=bP ho
    obtain⟨F1,F2,h1,_,_,h2,_⟩:=RepO.getElem hE' hp
    exact bz h2
   obtain⟨b',q',len',cap',G,hh',hcells,hconf,_,hi⟩:=Tg R he hp (by
    obtain⟨hb,hs⟩:=Bool.and_eq_true_iff.1 hb
    simp only[Nat.ble_eq,Ty.size]at hb;omega)
   rw[hh]at hh'
   injection hh' with hh';injection hh' with e1 e2 e3;injection e1 with e1;injection e1 with e1 e4
   subst e1;subst e4
   ·obtain⟨hb1,hs⟩:=Bool.and_eq_true_iff.1 hb
    obtain rfl:=Nat.eq_of_beq_eq_true hs
    have hb2:=Nat.le_of_ble_eq_true hb1
    simp only[Ty.size]at hb2
    obtain⟨G1,hG1⟩:=RepO.dropCells o hcells
    obtain⟨G2,hG2,_⟩:=RepO.takeCells ty.zc.length hG1
    obtain⟨ys,hl,hsl,hm⟩:=tJ (N:=tot F) (mb:=mb) he rfl hi hin hh (cs:=(el.drop o).take ty.zc.length) (o:=o) (fun j kk zs hj=>by
     rw[List.getElem?_take]at hj
     split at hj
     ·rw[List.getElem?_drop]at hj;exact uS hconf hj
     ·cases hj) hG2
    obtain⟨rfl,hr⟩:=nR h5 hsl
    have hll:ys.length = ty.zc.length:=by rw[hl];simp;omega
    exact⟨h7.symm,_,key b _ ys hll hm,hr⟩
  ·cases h
 ·rename_i cs
  obtain⟨_,s2,h3,h4⟩:=Cmd.abt h
  obtain⟨hb,rfl⟩:=bm h3
  obtain⟨v1,s3,h5,h6⟩:=Cmd.abt h4
  obtain⟨h6,h7⟩:=af h6
  injection h6 with h6 h8
  subst h6
  simp only[RepS]at hx
  obtain⟨b,q,rfl,hi⟩:=hx
  obtain⟨ys,hl,hm,hs⟩:=(RepI.takeCells ty.size hi).vals
  obtain⟨rfl,hr⟩:=nR h5 (hs base mb s2)
  simp only[Nat.ble_eq,Ty.size]at hb
  exact⟨h7.symm,_,key b q ys (by rw[hl];simp[Ty.size];omega) hm,hr⟩
 ·cases h
end Go.Tm
namespace Go.Tm
variable {g:G} {X:Fp} {st st':St} {a:Act} {w:World} {base:Nat→Base} {mb:Nat→Nat} {F:Ix→Fp} {N:Fp} {P:Program}
theorem Rel.extW{Fp0 Fq W:Fp}(R:Rel g (Fp.or X Fp0) st a w base mb F)(hX:Fp.dis (Fp.or g.X0 X) Fp0)(w':World)(hos:w'.os = w.os)(htp:w'.tape = w.tape)(hop:w'.output = w.output)(hsz:w.heap.size≤w'.heap.size)
 (hs:∀ b o,b < w.heap.size→¬Fp0 b o→Same w w' b o) (hW:∀ b o,W b o→∃ i,i≠.x∧(∀ m,i≠.map m)∧F i b o) (hbl:∀ b,b < w.heap.size→(∀ o,¬Fp0 b o)→(∀ o,¬W b o)→w'.heap[b]? = w.heap[b]?)
 (hq:∀ b o,Fq b o→Fp0 b o∨(w.heap.size≤b∧b < w'.heap.size)) :
 Rel g (Fp.or X Fq) st a w' base mb (du F .x (Fp.or g.X0 (Fp.or X Fq)))∧
  (∀ b o,tot (du F .x (Fp.or g.X0 (Fp.or X Fq))) b o→tot F b o∨w.heap.size≤b)∧Fp.dis (Fp.or g.X0 X) Fq∧
  (∀ ob,RepI w (tot F) ob→RepI w' (tot (du F .x (Fp.or g.X0 (Fp.or X Fq)))) ob)∧
  (∀ v x,RepS w (tot F) base mb st v x→RepS w' (tot (du F .x (Fp.or g.X0 (Fp.or X Fq)))) base mb st v x):=by
 have hxF:∀ {b o},Fp.or g.X0 X b o∨Fp0 b o→F .x b o:=fun h=>by
  rw[R.fx]
  rcases h with(h|h)|h
  ·exact .inl h
  ·exact .inr (.inl h)
  ·exact .inr (.inr h)
 have hN:∀ b o,tot (du F .x (Fp.or g.X0 (Fp.or X Fq))) b o→tot F b o∨w.heap.size≤b:=by
  rintro b o ⟨i,hi⟩
  by_cases hix:i = .x
  ·subst hix;rw[aD]at hi
   rcases hi with hi|hi|hi
   ·exact .inl ⟨.x,hxF (.inl (.inl hi))⟩
   ·exact .inl ⟨.x,hxF (.inl (.inr hi))⟩
   ·rcases hq b o hi with h|h
    ·exact .inl ⟨.x,hxF (.inr h)⟩
    ·exact .inr h.1
  ·rw[az _ _ hix]at hi;exact .inl ⟨i,hi⟩
 have hI:∀ ob,RepI w (tot F) ob→RepI w' (tot (du F .x (Fp.or g.X0 (Fp.or X Fq)))) ob:=fun ob h=>h.frame fun b o v hn hv=>by
  have hlt:=World.block_lt_of_cell? w _ hv
  refine⟨by rw[(hs b o hlt (fun h'=>hn ⟨.x,hxF (.inr h')⟩)).1];exact hv,fun hn'=>?_⟩
  rcases hN _ _ hn' with h|h
  ·exact hn h
  ·exact absurd hlt (by simpa using h)
 have hnot:∀ i,i≠.x→∀ b o,F i b o→¬Fp0 b o:=fun i hi b o h h'=>R.dis i .x hi b o h (hxF (.inr h'))
 have hhd:∀ r c y,InR st r c→hd w base r c = some y→hd w' base r c = some y:=by
  intro r c y hin h
  unfold hd at h ⊢
  split at h
  ·rename_i b o hb
   have:=R.hdrAt hin hb
   rw[(hs b _ (R.ex _ _ ⟨_,this⟩) (hnot _ (by simp) _ _ this)).1];exact h
  ·exact h
  ·exact h
 have hdq:Fp.dis (Fp.or g.X0 X) Fq:=fun b o h h'=>by
  rcases hq b o h' with h1|h1
  ·exact hX b o h h1
  ·have:=R.ex b o ⟨.x,hxF (.inl h)⟩;omega
 have hS:∀ v x,RepS w (tot F) base mb st v x→RepS w' (tot (du F .x (Fp.or g.X0 (Fp.or X Fq)))) base mb st v x:=by
  intro v x hr
  have hpl:∀ p b o,PlaceAt w base st p b o→PlaceAt w' base st p b o:=by
   intro p b o h
   rcases p with⟨r,s,off⟩
   cases s with
   |none=>exact h
   |some s=>obtain⟨c,i,s⟩:=s;obtain⟨h0,o1,l,cap,h1,h2⟩:=h;exact⟨h0,o1,l,cap,hhd r c _ h0 h1,h2⟩
  refine RepS.move (st:=st) (st':=st) (fun _ _=>True) (fun _=>True) hI (fun p x _ h=>?_) (fun r c lo hi x _ h=>?_) (fun p b o _ h=>hpl p b o h) (fun _ _=>rfl) _ _ (V.abu _) hr
  ·rcases p with⟨r,s,o⟩
   cases s with
   |none=>exact⟨h.1,hhd r o x h.1 h.2.1,h.2.2⟩
   |some s =>
    obtain⟨c,i,s⟩:=s
    intro k xs he
    obtain⟨e1,e2,e3,b,o',e4,e5⟩:=h k xs he
    have hF:=R.elemAt he (List.getElem?_eq_some_iff.1 e1).1 e2 e3 e4
    exact⟨e1,e2,e3,b,o',hpl _ _ _ e4,by rw[(hs _ _ (World.block_lt_of_cell? w _ e5) (hnot _ (by simp) _ _ hF)).1];exact e5⟩
  ·intro k xs he
   obtain⟨e1,e2,A,cap,e3,e4⟩:=h k xs he
   exact⟨e1,e2,A,cap,hhd r c _ (R.live' (by rw[he];simp)) e3,e4⟩
 have hal:∀ r c,Sb base (hd w' base r c) (st.rc r c):=fun r c=>by
  have:=R.al r c
  cases hx:st.rc r c with
  |al r' c' =>
   rw[hx]at this
   obtain⟨vs,v,k1,k2,k3,k4⟩:=this
   exact⟨vs,v,k1,k2,hhd r c v (R.live' (by rw[hx];simp)) k3,k4⟩
  |_=>trivial
 refine⟨{nt:=R.nt,par:=R.par,df:=R.df,fx:=aD _ _ _,cell:=fun r c=>?_,hdr:=fun r=>?_,map:=fun m=>?_,dis:=?_,fresh:=fun b o h=>?_,ex:=fun b o h=>?_,live:=R.live,slots:=fun i=>hS _ _ (R.slots i),frame:=?_,npar:=R.npar,al:=hal},hN,hdq,hI,hS⟩
 ·rw[az _ _ (by simp)]
  have:=R.cell r c
  by_cases hu:st.rc r c = .undef
  ·rw[hu]at this ⊢;exact this
  ·have hin:=R.live' hu
   revert this
   unfold CellOk
   split
   ·rintro⟨⟨v,h,hi⟩,hf⟩;exact⟨⟨v,hhd r c v hin h,hI _ hi⟩,hf⟩
   ·rintro⟨v,h,ho⟩
    refine⟨v,hhd r c v hin h,ho.frame fun b o hbo=>?_⟩
    rcases hbo with hbo|hbo
    ·exact hs b o (R.ex b o ⟨_,hbo⟩) (hnot _ (by simp) b o hbo)
    ·exact hbo.elim
   ·exact fun h=>h
   ·exact fun h=>h
 ·rw[az _ _ (by simp)]
  have:=R.hdr r
  revert this
  unfold j6
  split
  ·rename_i b1 o1 n1 _ _
   rintro⟨h,h'⟩
   refine⟨h,fun c hc=>?_⟩
   have hF:F (.hdr r) b1 (o1+c):=by rw[h];exact⟨rfl,by omega,by omega⟩
   have:=hs b1 (o1+c) (R.ex _ _ ⟨_,hF⟩) (hnot _ (by simp) _ _ hF)
   rw[this.1,this.2];exact h' c hc
  ·exact fun h=>h
 ·rw[az _ _ (by simp)]
  have:=R.map m
  revert this
  unfold I4
  split
  ·rintro⟨h,es,cl,h1,h2⟩
   have hF:∀ o,F (.map m) (mb m) o:=fun o=>by rw[h]
   exact⟨h,es,cl,by rw[hbl _ (R.ex (mb m) 0 ⟨_,hF 0⟩) (fun o=>hnot _ (by simp) _ _ (hF o)) (fun o h'=>by
    obtain⟨i,i1,i2,i3⟩:=hW _ _ h'
    exact R.dis _ _ (i2 m) _ _ i3 (hF o))];exact h1,h2⟩
  ·exact fun h=>h
 ·have key:∀ i b o,du F .x (Fp.or g.X0 (Fp.or X Fq)) i b o→(F i b o)∨(i = .x∧w.heap.size≤b)∨(i = .x∧F .x b o):=by
   intro i b o hi
   by_cases hix:i = .x
   ·subst hix;rw[aD]at hi
    rcases hi with hi|hi|hi
    ·exact .inl (hxF (.inl (.inl hi)))
    ·exact .inl (hxF (.inl (.inr hi)))
    ·rcases hq b o hi with h|h
     ·exact .inl (hxF (.inr h))
     ·exact .inr (.inl ⟨rfl,h.1⟩)
   ·rw[az _ _ hix]at hi;exact .inl hi
  intro i j hij b o hi hj
  rcases key i b o hi with h|⟨rfl,h⟩|⟨rfl,h⟩ <;> rcases key j b o hj with h'|⟨rfl,h'⟩|⟨rfl,h'⟩
  ·exact R.dis i j hij b o h h'
  ·have:=R.ex b o ⟨_,h⟩;omega
  ·exact R.dis i .x hij b o h h'
  ·have:=R.ex b o ⟨_,h'⟩;omega
  ·exact hij rfl
  ·exact hij rfl
  ·exact R.dis .x j hij b o h h'
  ·exact hij rfl
  ·exact hij rfl
 ·rcases hN _ _ h with h|h
  ·exact R.fresh b o h
  ·exact .inr (.inr (Nat.le_trans R.frame.size h))
 ·obtain⟨i,hi⟩:=h
  by_cases hix:i = .x
  ·subst hix;rw[aD]at hi
   rcases hi with hi|hi|hi
   ·exact Nat.lt_of_lt_of_le (R.ex b o ⟨.x,hxF (.inl (.inl hi))⟩) hsz
   ·exact Nat.lt_of_lt_of_le (R.ex b o ⟨.x,hxF (.inl (.inr hi))⟩) hsz
   ·rcases hq b o hi with h|h
    ·exact Nat.lt_of_lt_of_le (R.ex b o ⟨.x,hxF (.inr h)⟩) hsz
    ·exact h.2
  ·rw[az _ _ hix]at hi;exact Nat.lt_of_lt_of_le (R.ex b o ⟨i,hi⟩) hsz
 ·have f:=R.frame
  refine⟨hos.trans f.os,htp.trans f.tape,hop.trans f.output,Nat.le_trans f.size hsz,fun b o hbo hn=>?_,fun b hbo hn=>?_⟩
  ·have h0:¬Fp0 b o:=fun h=>by
    rcases R.fresh b o ⟨.x,hxF (.inr h)⟩with h'|h'|h'
    ·exact hX b o (.inl h') h
    ·exact hn h'
    ·omega
   have:=hs b o (Nat.lt_of_lt_of_le hbo f.size) h0
   have k:=f.cell b o hbo hn
   exact⟨this.1.trans k.1,this.2.trans k.2⟩
  ·have h0:∀ o,¬Fp0 b o:=fun o h=>by
    rcases R.fresh b o ⟨.x,hxF (.inr h)⟩with h'|h'|h'
    ·exact hX b o (.inl h') h
    ·exact hn o h'
    ·omega
   have h1:∀ o,¬W b o:=fun o h=>by
    obtain⟨i,i1,i2,i3⟩:=hW _ _ h
    rcases R.fresh b o ⟨i,i3⟩with h'|h'|h'
    ·exact R.dis i .x i1 b o i3 (by rw[R.fx];exact .inl h')
    ·exact hn o h'
    ·omega
   exact(hbl b (Nat.lt_of_lt_of_le hbo f.size) h0 h1).trans (f.block b hbo hn)
theorem Rel.ext{Fp0 Fq:Fp}(R:Rel g (Fp.or X Fp0) st a w base mb F)(hX:Fp.dis (Fp.or g.X0 X) Fp0)(w':World)(hos:w'.os = w.os)(htp:w'.tape = w.tape)(hop:w'.output = w.output)(hsz:w.heap.size≤w'.heap.size)
 (hs:∀ b o,b < w.heap.size→¬Fp0 b o→Same w w' b o) (hbl:∀ b,b < w.heap.size→(∀ o,¬Fp0 b o)→w'.heap[b]? = w.heap[b]?)
 (hq:∀ b o,Fq b o→Fp0 b o∨(w.heap.size≤b∧b < w'.heap.size)) :
 Rel g (Fp.or X Fq) st a w' base mb (du F .x (Fp.or g.X0 (Fp.or X Fq)))∧
  (∀ b o,tot (du F .x (Fp.or g.X0 (Fp.or X Fq))) b o→tot F b o∨w.heap.size≤b)∧Fp.dis (Fp.or g.X0 X) Fq∧
  (∀ ob,RepI w (tot F) ob→RepI w' (tot (du F .x (Fp.or g.X0 (Fp.or X Fq)))) ob)∧
  (∀ v x,RepS w (tot F) base mb st v x→RepS w' (tot (du F .x (Fp.or g.X0 (Fp.or X Fq)))) base mb st v x) :=
 R.extW hX w' hos htp hop hsz hs (W:=Fp.none) (fun _ _ h=>h.elim) (fun b h1 h2 _=>hbl b h1 h2) hq
theorem ja:∀ {k:List Bool} {x:List T} {j:Nat},bT k x = true→k[j]? = some true→bT k (x.set j .hole) = true
 |false :: k,.v _ :: x,0,_,h=>by simp at h
 |false :: k,.v _ :: x,j+1,hc,h=>by simp only[bT]at hc;simpa [bT]using ja hc (by simpa using h)
 |true :: k,.slc _ _ :: x,0,hc,_=>by simp only[bT]at hc;simpa [bT]using hc
 |true :: k,.slc _ _ :: x,j+1,hc,h=>by simp only[bT]at hc;simpa [bT]using ja hc (by simpa using h)
 |true :: k,.hole :: x,0,hc,_=>by simp only[bT]at hc;simpa [bT]using hc
 |true :: k,.hole :: x,j+1,hc,h=>by simp only[bT]at hc;simpa [bT]using ja hc (by simpa using h)
 |[],[],j,_,h=>by simp at h
theorem RepO.part{k:List Bool}{xs:List (List T)}{A:Option Addr}{cap lo hi:Nat}{F:Fp}(h:RepO w (.tv (.slc k xs) (.slice A xs.length cap)) F)(h1:lo≤hi)(h2:hi≤xs.length) :
 ∃ G,RepO w (.tv (.slc k ((xs.take hi).drop lo)) (.slice (if cap = lo then A else A.map (·.add (lo * k.length))) (hi - lo) (cap - lo))) G∧∀ p q,G p q→F p q:=by
 obtain⟨A',cap',b,off,G0,hz,hle,hA,hF,hE',hd0,hw⟩:=bP h
 injection hz with e1 e2 e3
 subst e1;subst e3
 have e:xs = xs.take lo++ ((xs.take hi).drop lo++xs.drop hi):=by
  have:(xs.take hi).drop lo++xs.drop hi = xs.drop lo:=by
   rw[←List.drop_append_of_le_length (by simp;omega),List.take_append_drop]
  rw[this,List.take_append_drop]
 rw[e]at hE'
 obtain⟨F1,F2,s1,s2,d1,rfl⟩:=RepO.splitElems hE'
 obtain⟨F3,F4,s3,s4,d2,rfl⟩:=RepO.splitElems s2
 have hl1:(xs.take lo).length = lo:=by simp;omega
 rw[hl1]at s3
 have hl:((xs.take hi).drop lo).length = hi - lo:=by simp;omega
 refine⟨Fp.or (region b (off+lo * k.length) ((cap - lo) * k.length)) F3,?_,fun p q hpq=>?_⟩
 ·have:=RepO.slc (w:=w) (k:=k) (xs:=(xs.take hi).drop lo) (A:=if cap = lo then A else A.map (·.add (lo * k.length))) (cap:=cap - lo) (b:=b) (off:=off+lo * k.length) (F:=F3) (fun h0=>?_) (by rw[hl];omega)
   (fun i hi'=>?_) s3 (fun p q a b'=>?_)
  ·rwa [hl]at this
  ·have hpos:0 < cap - lo:=Nat.pos_of_mul_pos_right h0
   have hk:0 < k.length:=Nat.pos_of_mul_pos_left h0
   rw[if_neg (by omega)]
   exact o5 (hA (Nat.mul_pos (by omega) hk))
  ·have h3:lo * k.length+ (cap - lo) * k.length = cap * k.length:=by rw[←Nat.add_mul];congr 1;omega
   have:=hw (lo * k.length+i) (by omega)
   rwa [show off+ (lo * k.length+i) = off+lo * k.length+i by omega]at this
  ·have h3:lo * k.length+ (cap - lo) * k.length = cap * k.length:=by rw[←Nat.add_mul];congr 1;omega
   exact hd0 p q ⟨a.1,by have:=a.2.1;omega,by have:=a.2.2;omega⟩ (.inr (.inl b'))
 ·rw[hF]
  rcases hpq with hpq|hpq
  ·have h3:lo * k.length+ (cap - lo) * k.length = cap * k.length:=by rw[←Nat.add_mul];congr 1;omega
   exact .inl ⟨hpq.1,by have:=hpq.2.1;omega,by have:=hpq.2.2;omega⟩
  ·exact .inr (.inr (.inl hpq))
def od(w:World)(N:Fp)(base:Nat→Base)(mb:Nat→Nat)(st:St)(w':World)(N':Fp)(base':Nat→Base)(st':St):Prop:=∀ v x,RepS w N base mb st v x→RepS w' N' base' mb st' v x
theorem Rel.aby(R:Rel g X st a w base mb F)
 {r c:Nat} {k:List Bool} {xs:List (List T)} (he:st.rc r c = .own k xs) (x':V) (F1 F2:Fp)
 (h1:∀ b o,F1 b o→F (.cell r c) b o) (h2:∀ b o,F2 b o→F (.cell r c) b o)
 (hx:x' = .undef∨∃ xs',x' = .own k xs'∧xs'.length = xs.length) :
 (∀ b o,tot (du (du F (.cell r c) F2) .x (Fp.or g.X0 (Fp.or X F1))) b o→tot F b o)∧od w (tot F) base mb st w (tot (du (du F (.cell r c) F2) .x (Fp.or g.X0 (Fp.or X F1)))) base ((Wr.rc r c x').ap st):=by
 have hN:∀ b o,tot (du (du F (.cell r c) F2) .x (Fp.or g.X0 (Fp.or X F1))) b o→tot F b o:=by
  rintro b o ⟨i,hi⟩
  by_cases hix:i = .x
  ·subst hix;rw[aD]at hi
   rcases hi with hi|hi|hi
   ·exact⟨.x,by rw[R.fx];exact .inl hi⟩
   ·exact⟨.x,by rw[R.fx];exact .inr hi⟩
   ·exact⟨_,h1 _ _ hi⟩
  ·rw[az _ _ hix]at hi
   by_cases hic:i = .cell r c
   ·subst hic;rw[aD]at hi;exact⟨_,h2 _ _ hi⟩
   ·rw[az _ _ hic]at hi;exact⟨i,hi⟩
 refine⟨hN,fun v x hr=>?_⟩
 have hI:∀ ob,RepI w (tot F) ob→RepI w (tot (du (du F (.cell r c) F2) .x (Fp.or g.X0 (Fp.or X F1)))) ob:=fun ob h=>h.frame fun b o v hn hv=>⟨hv,fun hn'=>hn (hN _ _ hn')⟩
 refine RepS.rc (st:=st) _ _ rfl (fun r' c' k' xs' h=>?_) (RepS.move (st:=st) (st':=st) (fun _ _=>True) (fun _=>True) hI (fun _ _ _ h=>h) (fun _ _ _ _ _ _ h=>h) (fun _ _ _ _ h=>h) (fun _ _=>rfl) _ _ (V.abu _) hr)
 by_cases hrc:r' = r∧c' = c
 ·obtain⟨rfl,rfl⟩:=hrc
  simp only[Wr.ap,aW]at h
  rcases hx with rfl|⟨xs'',rfl,hl⟩
  ·cases h
  ·injection h with h1 h2
   subst h1;subst h2
   exact⟨xs,he,hl.symm⟩
 ·simp only[Wr.ap,aV _ _ hrc]at h
  exact⟨xs',h,rfl⟩
theorem gv(R:Rel g X st a w base mb F){v:V}{ans a':List Ans}{kx:Kx}{p:Prop}{x:Value}(h:(kO v ans).run st = some ((kx,a',p),st'))(hp:p)(hv:RepS w (tot F) base mb st v x) :
 ∃ F1 F',Rel g (Fp.or X F1) st' a w base mb F'∧Fp.dis (Fp.or g.X0 X) F1∧RepO w (.tv (.slc kx.1 kx.2) x) F1∧(∀ b o,tot F' b o→tot F b o)∧od w (tot F) base mb st w (tot F') base st'∧st'.rn = st.rn:=by
 have hdx:∀ {r c G},(∀ b o,G b o→F (.cell r c) b o)→Fp.dis (Fp.or g.X0 X) G:=fun hG b o h h'=>R.dis .x _ (by simp) b o (by rw[R.fx];exact h) (hG b o h')
 unfold kO at h
 split at h
 ·obtain⟨kx',s1,h1,h2⟩:=Cmd.abt h
  obtain⟨rfl,he⟩:=eY h1
  obtain⟨h2,h3⟩:=af (show(Cmd.ret _).run _ = some ((kx,a',p),st')from h2)
  injection h2 with h2 _;subst h2
  simp only[RepS]at hv
  obtain⟨y,hy,ho⟩:=dH R he
  rw[hv.2.1]at hy
  injection hy with hy;subst hy
  subst h3
  have R':=R.ghost he .undef (F (.cell _ _)) Fp.none (fun _ _ h=>h) (fun _ _ h=>h.elim) (fun _ _ _ h=>h) (.inl ⟨rfl,rfl⟩)
  obtain⟨k1,k2⟩:=R.aby he .undef (F (.cell _ _)) Fp.none (fun _ _ h=>h) (fun _ _ h=>h.elim) (.inl rfl)
  exact⟨_,_,R',hdx (fun _ _ h=>h),ho,k1,k2,rfl⟩
 ·rename_i r c lo hi a0
  obtain⟨kx',s1,h1,h2⟩:=Cmd.abt h
  obtain⟨rfl,he⟩:=eY h1
  obtain⟨h2,h3⟩:=af (show(Cmd.ret _).run _ = some ((kx,a',p),st')from h2)
  injection h2 with h2 _;subst h2
  simp only[RepS]at hv
  obtain⟨e1,e2,A,cap,e3,rfl⟩:=hv _ _ he
  obtain⟨y,hy,ho⟩:=dH R he
  rw[e3]at hy
  injection hy with hy;subst hy
  subst h3
  obtain⟨G,hG,hs⟩:=ho.part e1 e2
  have R':=R.ghost he .undef G Fp.none hs (fun _ _ h=>h.elim) (fun _ _ _ h=>h) (.inl ⟨rfl,rfl⟩)
  obtain⟨k1,k2⟩:=R.aby he .undef G Fp.none hs (fun _ _ h=>h.elim) (.inl rfl)
  exact⟨_,_,R',hdx hs,hG,k1,k2,rfl⟩
 ·obtain⟨kx',s1,h1,h2⟩:=Cmd.abt h
  obtain⟨rfl,he⟩:=eY h1
  obtain⟨k9,x9⟩:=kx'
  simp only at h2 he
  split at h2
  ·rename_i r c i s o el a0 _ k ys hel
   obtain⟨h2,h3⟩:=af (show(Cmd.ret _).run _ = some ((kx,a',p),st')from h2)
   injection h2 with h2 h4;injection h4 with _ h4;subst h2;subst h4
   simp only[RepS]at hv
   obtain⟨e1,e2,e3,b,q,e4,e5⟩:=hv _ _ he
   obtain⟨y,hy,ho⟩:=dH R he
   obtain⟨A,cap,b',off,G0,rfl,hle,hA,hF,hE,hd0,hw⟩:=bP ho
   obtain⟨_,o',len,cap',e6,e7⟩:=e4
   rw[hy]at e6
   injection e6 with e6;injection e6 with e6 e8 e9
   have hlt:o < k9.length:=(List.getElem?_eq_some_iff.1 e1).1
   rw[hA (Nat.mul_pos (by omega) (by omega))]at e6
   injection e6 with e6;injection e6 with e6 e10
   subst e6;subst e10
   obtain⟨Fe,Fr,hcells,hdE,rfl,hkel,hwE⟩:=RepO.getElem hE hp
   obtain⟨yo,Fo,Fc,hyo,hto,hdC,rfl,hwC⟩:=RepO.getCell hcells hel
   subst e2
   rw[show off+i * k9.length+o = q from e7.symm,e5]at hyo
   injection hyo with hyo;subst hyo
   subst h3
   have hnew:RepO w (.elems k9 (x9.set i (el.set o .hole)) b' off) (Fp.or (Fp.or Fp.none Fc) Fr):=by
    refine hwE w _ _ (ja hkel e1) (hwC w .hole x Fp.none (by rw[show off+i * k9.length+o = q from e7.symm];exact e5) (.hole hto.oneCell) (fun _ _ h=>h.elim) (fun _ _ _=>Same.refl _ _ _)) (fun p q h h'=>?_) (fun _ _ _=>Same.refl _ _ _)
    rcases h with h|h
    ·exact h.elim
    ·exact hdE p q (.inr h) h'
   have hO2:RepO w (.tv (.slc k9 (x9.set i (el.set o .hole))) (.slice A x9.length cap)) (Fp.or (region b' off (cap * k9.length)) (Fp.or (Fp.or Fp.none Fc) Fr)):=by
    have:=RepO.slc (w:=w) (k:=k9) (xs:=x9.set i (el.set o .hole)) (A:=A) (cap:=cap) (b:=b') (off:=off) hA (by simpa using hle) hw hnew (fun p q h h'=>by
     rcases h' with(h'|h')|h'
     ·exact h'.elim
     ·exact hd0 p q h (.inl (.inr h'))
     ·exact hd0 p q h (.inr h'))
    simpa using this
   have hs1:∀ p q,Fo p q→F (.cell r c) p q:=fun p q h=>by rw[hF];exact .inr (.inl (.inl h))
   have hs2:∀ p q,Fp.or (region b' off (cap * k9.length)) (Fp.or (Fp.or Fp.none Fc) Fr) p q→F (.cell r c) p q:=fun p q h=>by
    rw[hF]
    rcases h with h|(h|h)|h
    ·exact .inl h
    ·exact h.elim
    ·exact .inr (.inl (.inr h))
    ·exact .inr (.inr h)
   have hd12:Fp.dis Fo (Fp.or (region b' off (cap * k9.length)) (Fp.or (Fp.or Fp.none Fc) Fr)):=fun p q h h'=>by
    rcases h' with h'|(h'|h')|h'
    ·exact hd0 p q h' (.inl (.inl h))
    ·exact h'.elim
    ·exact hdC p q h h'
    ·exact hdE p q (.inl h) h'
   have R':=R.ghost he (.own k9 (x9.set i (el.set o .hole))) Fo _ hs1 hs2 hd12 (.inr ⟨_,rfl,by simp,_,hy,hO2⟩)
   obtain⟨k1,k2⟩:=R.aby he (.own k9 (x9.set i (el.set o .hole))) Fo _ hs1 hs2 (.inr ⟨_,rfl,by simp⟩)
   exact⟨_,_,R',hdx hs1,hto,k1,k2,rfl⟩
  ·cases h2
 ·cases h
end Go.Tm
namespace Go.Tm
variable {g:G} {X:Fp} {st st':St} {a:Act} {w:World} {base:Nat→Base} {mb:Nat→Nat} {F:Ix→Fp} {N:Fp} {P:Program}
theorem xO(b o:Nat):region b o 0 = Fp.none:=Fp.ext fun p q=>by simp[region,Fp.none]
theorem ns(w:World)(k:List Bool):RepO w (.tv (.slc k []) (.slice none 0 0)) Fp.none:=by
 have:=RepO.slc (w:=w) (k:=k) (xs:=[]) (A:=none) (cap:=0) (b:=0) (off:=0) (F:=Fp.none) (fun h=>by simp at h) (Nat.le_refl _) (fun i h=>by simp at h) .enil (fun _ _ _ h=>h)
 rwa [Nat.zero_mul,xO,Fp.or_none]at this
theorem Gx{y:Value}(h:y.oneCell' = true):y.cells.toList = [y]:=by cases y <;> first|rfl|cases h
theorem CellOk.sub{w:World}{N N':Fp}{h:Option Value}{x:V}{F:Fp}(hc:CellOk w N h x F)(hs:∀ b o,N' b o→N b o):CellOk w N' h x F :=
 hc.mono (fun ob h=>h.frame fun b o v hn hv=>⟨hv,fun h'=>hn (hs _ _ h')⟩) (fun _ h=>h)
theorem Held.sub{w:World}{N N':Fp}{xs:List V}{ys:List Value}{F:Fp}(h:Held w N xs ys F)(hs:∀ b o,N' b o→N b o):Held w N' xs ys F :=
 h.mono (fun ob h=>h.frame fun b o v hn hv=>⟨hv,fun h'=>hn (hs _ _ h')⟩) (fun _ _ _ _ h=>h)
theorem nB(R:Rel g X st a w base mb F){z v x:V}{ans a':List Ans}{p:Prop}{y:Value}(h:(ov z v ans).run st = some ((x,a',p),st'))(hp:p)(hv:RepS w (tot F) base mb st v y) :
 ∃ F1 F',Rel g (Fp.or X F1) st' a w base mb F'∧Fp.dis (Fp.or g.X0 X) F1∧CellOk w (tot F') (some y) x F1∧y.oneCell' = true∧(∀ b o,tot F' b o→tot F b o)∧od w (tot F) base mb st w (tot F') base st'∧st'.rn = st.rn:=by
 have taken:∀ {kx:Kx},((kO v ans).bind fun(kx,a,p)=>Cmd.ret (V.own kx.1 kx.2,a,p)).run st = some ((x,a',p),st')→
  ∃ F1 F',Rel g (Fp.or X F1) st' a w base mb F'∧Fp.dis (Fp.or g.X0 X) F1∧CellOk w (tot F') (some y) x F1∧y.oneCell' = true∧(∀ b o,tot F' b o→tot F b o)∧od w (tot F) base mb st w (tot F') base st'∧st'.rn = st.rn:=by
  intro _ h
  obtain⟨⟨kx,a1,p1⟩,s1,h1,h2⟩:=Cmd.abt h
  obtain⟨h2,h3⟩:=af h2
  injection h2 with h2 h4
  injection h4 with _ h4
  subst h2;subst h4;subst h3
  obtain⟨F1,F',e1,e2,e3,e4,e5,e6⟩:=gv R h1 hp hv
  exact⟨F1,F',e1,e2,⟨y,rfl,e3⟩,e3.oneCell,e4,e5,e6⟩
 unfold ov at h
 split at h
 ·obtain⟨h1,h2⟩:=af h
  injection h1 with h1 h3
  subst h1;subst h2
  simp only[RepS]at hv
  exact⟨Fp.none,F,by rw[Fp.or_none];exact R,fun _ _ _ h=>h,⟨⟨y,rfl,hv⟩,fun _ _ h=>h⟩,hv.oneCell,fun _ _ h=>h,fun _ _ h=>h,rfl⟩
 ·split at h
  ·obtain⟨h1,h2⟩:=af h
   injection h1 with h1 h3
   subst h1;subst h2
   simp only[RepS]at hv
   subst hv
   exact⟨Fp.none,F,by rw[Fp.or_none];exact R,fun _ _ _ h=>h,⟨_,rfl,ns w _⟩,rfl,fun _ _ h=>h,fun _ _ h=>h,rfl⟩
  ·cases h
 ·exact taken (kx:=([],[])) h
theorem lF:∀ {vs:List V} {X:Fp} {F:Ix→Fp} {st st':St} {zs xs:List V} {ans a':List Ans} {p:Prop} {ys:List Value},Rel g X st a w base mb F→(boxV.toCells zs vs ans).run st = some ((xs,a',p),st')→p→RepSs w (tot F) base mb st vs ys→
 ∃ F1 F',Rel g (Fp.or X F1) st' a w base mb F'∧Fp.dis (Fp.or g.X0 X) F1∧Held w (tot F') xs ys F1∧(∀ b o,tot F' b o→tot F b o)∧od w (tot F) base mb st w (tot F') base st'∧st'.rn = st.rn
 |[],X,F,st,st',zs,xs,ans,a',p,ys,R,h,hp,hv=>by
  simp only[boxV.toCells]at h
  obtain⟨h1,h2⟩:=af h
  injection h1 with h1 h3
  subst h1;subst h2
  cases ys with
  |nil=>exact⟨Fp.none,F,by rw[Fp.or_none];exact R,fun _ _ _ h=>h,.nil,fun _ _ h=>h,fun _ _ h=>h,rfl⟩
  |cons=>simp only[RepSs]at hv
 |v :: vs,X,F,st,st',zs,xs,ans,a',p,ys,R,h,hp,hv=>by
  cases ys with
  |nil=>simp only[RepSs]at hv
  |cons y ys =>
   cases zs with
   |nil=>cases h
   |cons z zs =>
    simp only[boxV.toCells]at h
    simp only[RepSs]at hv
    obtain⟨⟨x,a1,p1⟩,s1,h1,h2⟩:=Cmd.abt h
    obtain⟨⟨xs1,a2,p2⟩,s2,h3,h4⟩:=Cmd.abt h2
    obtain⟨h4,h5⟩:=af h4
    injection h4 with h4 h6
    injection h6 with _ h6
    subst h4;subst h6;subst h5
    obtain⟨F1,F',e1,e2,e3,e4,e5,e6,e7⟩:=nB R h1 hp.1 hv.1
    have hv2:RepSs w (tot F') base mb s1 vs ys:=by
     have:∀ {vs:List V} {ys:List Value},RepSs w (tot F) base mb st vs ys→RepSs w (tot F') base mb s1 vs ys:=by
      intro vs
      induction vs with
      |nil=>intro ys h;cases ys with
       |nil=>trivial
       |cons=>simp only[RepSs]at h
      |cons c cs ih=>intro ys h;cases ys with
       |nil=>simp only[RepSs]at h
       |cons y ys=>simp only[RepSs]at *;exact⟨e6 _ _ h.1,ih h.2⟩
     exact this hv.2
    obtain⟨F2,F'',k1,k2,k3,k4,k5,k6⟩:=lF e1 h3 hp.2 hv2
    refine⟨Fp.or F1 F2,F'',by rw[←Fp.or_assoc];exact k1,fun b o h h'=>?_,.cons (e3.sub k4) e4 k3 (fun b o h h'=>k2 b o (.inr (.inr h)) h'),fun b o h=>e5 b o (k4 b o h),fun v x h=>k5 v x (e6 v x h),k6.trans e7⟩
    rcases h' with h'|h'
    ·exact e2 b o h h'
    ·exact k2 b o (h.imp id .inl) h'
theorem kj:∀ {vs:List V} {X:Fp} {F:Ix→Fp} {st st':St} {zs xs:List V} {ans a':List Ans} {p:Prop} {ys:List Value},Rel g X st a w base mb F→(boxV.toCellsB zs vs ans).run st = some ((xs,a',p),st')→p→RepSs w (tot F) base mb st vs ys→
 ∃ F1 F',Rel g (Fp.or X F1) st' a w base mb F'∧Fp.dis (Fp.or g.X0 X) F1∧Held w (tot F') xs ys F1∧(∀ b o,tot F' b o→tot F b o)∧od w (tot F) base mb st w (tot F') base st'∧st'.rn = st.rn
 |[],X,F,st,st',zs,xs,ans,a',p,ys,R,h,hp,hv=>by
  simp only[boxV.toCellsB]at h
  obtain⟨h1,h2⟩:=af h
  injection h1 with h1 h3
  subst h1;subst h2
  cases ys with
  |nil=>exact⟨Fp.none,F,by rw[Fp.or_none];exact R,fun _ _ _ h=>h,.nil,fun _ _ h=>h,fun _ _ h=>h,rfl⟩
  |cons=>simp only[RepSs]at hv
 |v :: vs,X,F,st,st',zs,xs,ans,a',p,ys,R,h,hp,hv=>by
  cases ys with
  |nil=>simp only[RepSs]at hv
  |cons y ys =>
   cases zs with
   |nil=>cases v <;> cases h
   |cons z zs =>
    simp only[RepSs]at hv
    have main:((ov z v ans).bind fun(x,a,p)=>(boxV.toCellsB zs vs a).bind fun(xs,a,p')=>Cmd.ret (x :: xs,a,p∧p')).run st = some ((xs,a',p),st')→
     ∃ F1 F',Rel g (Fp.or X F1) st' a w base mb F'∧Fp.dis (Fp.or g.X0 X) F1∧Held w (tot F') xs (y :: ys) F1∧(∀ b o,tot F' b o→tot F b o)∧od w (tot F) base mb st w (tot F') base st'∧st'.rn = st.rn:=by
     intro h
     obtain⟨⟨x,a1,p1⟩,s1,h1,h2⟩:=Cmd.abt h
     obtain⟨⟨xs1,a2,p2⟩,s2,h3,h4⟩:=Cmd.abt h2
     obtain⟨h4,h5⟩:=af h4
     injection h4 with h4 h6
     injection h6 with _ h6
     subst h4;subst h6;subst h5
     obtain⟨F1,F',e1,e2,e3,e4,e5,e6,e7⟩:=nB R h1 hp.1 hv.1
     have hv2:RepSs w (tot F') base mb s1 vs ys:=by
      have:∀ {vs:List V} {ys:List Value},RepSs w (tot F) base mb st vs ys→RepSs w (tot F') base mb s1 vs ys:=by
       intro vs
       induction vs with
       |nil=>intro ys h;cases ys with
        |nil=>trivial
        |cons=>simp only[RepSs]at h
       |cons c cs ih=>intro ys h;cases ys with
        |nil=>simp only[RepSs]at h
        |cons y ys=>simp only[RepSs]at *;exact⟨e6 _ _ h.1,ih h.2⟩
      exact this hv.2
     obtain⟨F2,F'',k1,k2,k3,k4,k5,k6⟩:=kj e1 h3 hp.2 hv2
     refine⟨Fp.or F1 F2,F'',by rw[←Fp.or_assoc];exact k1,fun b o h h'=>?_,.cons (e3.sub k4) e4 k3 (fun b o h h'=>k2 b o (.inr (.inr h)) h'),fun b o h=>e5 b o (k4 b o h),fun v x h=>k5 v x (e6 v x h),k6.trans e7⟩
     rcases h' with h'|h'
     ·exact e2 b o h h'
     ·exact k2 b o (h.imp id .inl) h'
    cases v with
    |al r c =>
     simp only[boxV.toCellsB]at h
     obtain⟨⟨xs1,a2,p2⟩,s2,h3,h4⟩:=Cmd.abt h
     obtain⟨h4,h5⟩:=af h4
     injection h4 with h4 h6
     injection h6 with _ h6
     subst h4;subst h6;subst h5
     obtain⟨F2,F'',k1,k2,k3,k4,k5,k6⟩:=kj R h3 hp hv.2
     have hy:y.oneCell' = true:=by
      have:=hv.1
      simp only[RepS]at this
      obtain⟨_,_,_,A,l,n,rfl⟩:=this
      rfl
     exact⟨Fp.or Fp.none F2,F'',by rw[Fp.none_or];exact k1,by rw[Fp.none_or];exact k2,.cons (fun _ _ h=>h) hy k3 (fun _ _ h=>h.elim),k4,k5,k6⟩
    |t _=>exact main h
    |own _ _=>exact main h
    |nils=>exact main h
    |ref _=>exact main h
    |sub _ _ _=>exact main h
    |ptr _=>exact main h
    |iptr _=>exact main h
    |agg _=>exact main h
    |tup _=>exact main h
    |mref _=>exact main h
    |undef=>exact main h
theorem Rel.alias(R:Rel g X st a w base mb F){d o r c:Nat}(he:st.rc d o = .undef)(hin:InR st d o)(hal:Sb base (hd w base d o) (.al r c)):Rel g X ((Wr.rc d o (.al r c)).ap st) a w base mb F :=
 {nt:=R.nt,par:=R.par,df:=R.df,fx:=R.fx,hdr:=R.hdr,map:=R.map,dis:=R.dis,fresh:=R.fresh,ex:=R.ex,frame:=R.frame,npar:=R.npar,
  cell:=fun r' c'=>by
   by_cases h:r' = d∧c' = o
   ·obtain⟨rfl,rfl⟩:=h
    have:=R.cell r' c'
    rw[he]at this
    simp only[Wr.ap,aW];exact this
   ·simp only[Wr.ap,aV _ _ h];exact R.cell r' c'
  live:=fun r' c' h=>by
   by_cases hh:r' = d∧c' = o
   ·obtain⟨rfl,rfl⟩:=hh
    obtain⟨n,h1,h2⟩:=hin
    exact absurd (h n h1) (by omega)
   ·simp only[Wr.ap,aV _ _ hh];exact R.live r' c' h
  al:=fun r' c'=>by
   by_cases h:r' = d∧c' = o
   ·obtain⟨rfl,rfl⟩:=h
    simp only[Wr.ap,aW];exact hal
   ·simp only[Wr.ap,aV _ _ h];exact R.al r' c'
  slots:=fun i=>RepS.rc (st:=st) _ _ rfl (fun r' c' k xs h=>by
   by_cases hh:r' = d∧c' = o
   ·obtain⟨rfl,rfl⟩:=hh
    simp only[Wr.ap,aW]at h;cases h
   ·simp only[Wr.ap,aV _ _ hh]at h;exact⟨xs,h,rfl⟩) (R.slots i)}
theorem sX{d:Nat}:∀ {vs:List V} {o:Nat} {st st':St},Rel g X st a w base mb F→(Wy d o vs).run st = some ((),st')→(∀ (j r c:Nat),vs[j]? = some (V.al r c)→st.rc d (o+j) = .undef∧InR st d (o+j)∧Sb base (hd w base d (o+j)) (.al r c))→
 Rel g X st' a w base mb F∧st'.sl = st.sl
 |[],o,st,st',R,h,hv=>by obtain⟨_,rfl⟩:=af h;exact⟨R,rfl⟩
 |v :: vs,o,st,st',R,h,hv=>by
  have rest:(Wy d (o+1) vs).run st = some ((),st')→Rel g X st' a w base mb F∧st'.sl = st.sl:=fun h =>
   sX R h fun j r c hj=>by
    have:=hv (j+1) r c (by simpa using hj)
    rwa [show o+ (j+1) = o+1+j by omega]at this
  cases v with
  |al r c =>
   have h:(Wy d (o+1) vs).run ((Wr.rc d o (.al r c)).ap st) = some ((),st'):=h
   obtain⟨k1,k2,k3⟩:=hv 0 r c rfl
   obtain⟨R',hs⟩:=sX (R.alias k1 k2 k3) h fun j r' c' hj=>by
    obtain⟨q1,q2,q3⟩:=hv (j+1) r' c' (by simpa using hj)
    rw[show o+ (j+1) = o+1+j by omega]at q1 q2 q3
    exact⟨by simp only[Wr.ap];rw[aV _ _ (by omega)];exact q1,q2,q3⟩
   exact⟨R',hs⟩
  |t _=>exact rest h
  |own _ _=>exact rest h
  |nils=>exact rest h
  |ref _=>exact rest h
  |sub _ _ _=>exact rest h
  |ptr _=>exact rest h
  |iptr _=>exact rest h
  |agg _=>exact rest h
  |tup _=>exact rest h
  |mref _=>exact rest h
  |undef=>exact rest h
theorem oQ:∀ {vs zs xs:List V} {ans a':List Ans} {p:Prop} {st st':St},(boxV.toCellsB zs vs ans).run st = some ((xs,a',p),st')→∀ (j r c:Nat),vs[j]? = some (V.al r c)→xs[j]? = some V.undef
 |[],zs,xs,ans,a',p,st,st',h,j,r,c,hj=>by simp at hj
 |v :: vs,zs,xs,ans,a',p,st,st',h,j,r,c,hj=>by
  cases zs with
  |nil=>cases v <;> cases h
  |cons z zs =>
   have main:((ov z v ans).bind fun(x,a,p)=>(boxV.toCellsB zs vs a).bind fun(xs,a,p')=>Cmd.ret (x :: xs,a,p∧p')).run st = some ((xs,a',p),st')→(∀ r c,v≠.al r c)→xs[j]? = some .undef:=by
    intro h hne
    obtain⟨⟨x,a1,p1⟩,s1,h1,h2⟩:=Cmd.abt h
    obtain⟨⟨xs1,a2,p2⟩,s2,h3,h4⟩:=Cmd.abt h2
    obtain⟨h4,h5⟩:=af h4
    injection h4 with h4 h6
    subst h4
    cases j with
    |zero=>simp at hj;exact absurd hj (hne r c)
    |succ j=>simp only[List.getElem?_cons_succ]at hj ⊢;exact oQ h3 j r c hj
   cases v with
   |al r' c' =>
    simp only[boxV.toCellsB]at h
    obtain⟨⟨xs1,a2,p2⟩,s2,h3,h4⟩:=Cmd.abt h
    obtain⟨h4,h5⟩:=af h4
    injection h4 with h4 h6
    subst h4
    cases j with
    |zero=>rfl
    |succ j=>simp only[List.getElem?_cons_succ]at hj ⊢;exact oQ h3 j r c hj
   |t _=>exact main h (by simp)
   |own _ _=>exact main h (by simp)
   |nils=>exact main h (by simp)
   |ref _=>exact main h (by simp)
   |sub _ _ _=>exact main h (by simp)
   |ptr _=>exact main h (by simp)
   |iptr _=>exact main h (by simp)
   |agg _=>exact main h (by simp)
   |tup _=>exact main h (by simp)
   |mref _=>exact main h (by simp)
   |undef=>exact main h (by simp)
theorem HR(w:World)(N:Fp):∀ {zc:List V},Aa zc→Held w N zc (zc.map zv) Fp.none
 |[],_=>.nil
 |.t (.v x) :: cs,h=>by
  simp only[Aa]at h
  have:=Held.cons (w:=w) (N:=N) (x:=.t (.v x)) (y:=x) (F1:=Fp.none) ⟨⟨x,rfl,.v h.1⟩,fun _ _ h=>h⟩ (RepI.v (w:=w) (N:=N) h.1).oneCell (HR w N h.2) (fun _ _ h=>h.elim)
  rw[Fp.or_none]at this
  exact this
 |.own k [] :: cs,h=>by
  simp only[Aa]at h
  have:=Held.cons (w:=w) (N:=N) (x:=.own k []) (y:=.slice none 0 0) (F1:=Fp.none) ⟨_,rfl,ns w k⟩ rfl (HR w N h) (fun _ _ h=>h.elim)
  rw[Fp.or_none]at this
  exact this
 |.t (.slc _ _) :: _,h=>h.elim
 |.t .hole :: _,h=>h.elim
 |.own _ (_ :: _) :: _,h=>h.elim
 |.nils :: _,h|.ref _ :: _,h|.sub _ _ _ :: _,h|.ptr _ :: _,h|.iptr _ :: _,h|.agg _ :: _,h|.tup _ :: _,h|.mref _ :: _,h|.al _ _ :: _,h|.undef :: _,h=>h.elim
theorem TyOk.zcells{t:TypeId}{ty:Ty}(hT:TyOk P t ty):ty.zval.cells = (ty.zc.map zv).toArray:=by
 unfold Ty.zval
 split
 ·rfl
 ·rename_i ha
  have h1:=hT.one ha
  match hz:ty.zc,h1 with
  |[c],_ =>
   have:=hT.zc
   rw[hz]at this
   cases c with
   |t x=>cases x with
    |v x=>simp only[Aa]at this;cases x <;> simp_all[zv,Value.cells,sc]
    |_=>exact this.elim
   |own k xs=>simp[zv,Value.cells]
   |_=>exact this.elim
theorem Kf(R:Rel g X st a w base mb F){t:TypeId}{ty:Ty}(hT:TyOk P t ty){d:Option Nat}{v:V}{ans a':List Ans}{p:Prop}(hdn:∀ d',d = some d'→d' < g.nt)(h:(NX ty d ans).run st = some ((v,a',p),st')) :
 ∃ x w' base' F',(Instr.alloc t true (.tuple #[])).run P w = .ok x w'∧Rel g X st' a w' base' mb F'∧RepS w' (tot F') base' mb st' v x:=by
 unfold NX at h
 split at h
 ·rename_i d
  obtain⟨_,s1,h1,h2⟩:=Cmd.abt h
  rw[dA]at h1
  injection h1 with h1;injection h1 with _ h1
  obtain⟨h2,h3⟩:=af h2
  injection h2 with h2 _
  subst h2;subst h3;subst h1
  have hh:=HR w (tot F) hT.zc
  obtain⟨F',R'⟩:=Rel.newMem (X:=X) (F1:=Fp.none) (by rw[Fp.or_none];exact R) (fun _ _ _ h=>h) d (hdn d rfl) hh t
  refine⟨_,_,_,F',?_,R',by simp only[RepS];exact⟨_,_,⟨0,by rw[ba],rfl⟩,rfl⟩⟩
  simp[Instr.alloc,hT.runZero,newVar,newRow,hT.zcells]
 ·cases h
theorem OV(d:Nat):∀ (cs:List V) (o:Nat) (st:St),(st.fills d o cs).rn = st.rn
 |[],_,_=>rfl
 |c :: cs,o,st=>by simp only[St.fills];rw[OV d cs];rfl
theorem xX(d:Nat):∀ (cs:List V) (o j:Nat) (st:St),j < o→(st.fills d o cs).rc d j = st.rc d j
 |[],_,_,_,_=>rfl
 |c :: cs,o,j,st,h=>by
  simp only[St.fills]
  rw[xX d cs (o+1) j _ (by omega)]
  simp only[Wr.ap]
  rw[aV _ _ (by omega)]
theorem OW(d:Nat):∀ (cs:List V) (o j:Nat) (st:St) (c:V),cs[j]? = some c→(st.fills d o cs).rc d (o+j) = c
 |[],_,_,_,_,h=>by simp at h
 |x :: cs,o,j,st,c,h=>by
  simp only[St.fills]
  cases j with
  |zero =>
   simp at h;subst h
   show(St.fills ((Wr.rc d o x).ap st) d (o+1) cs).rc d o = x
   rw[xX d cs (o+1) o _ (by omega)]
   simp only[Wr.ap,aW]
  |succ j =>
   have:=OW d cs (o+1) j ((Wr.rc d o x).ap st) c (by simpa using h)
   rwa [show o+ (j+1) = o+1+j by omega]
theorem QW(R:Rel g X st a w base mb F){t:TypeId}{ty:Ty}{d:Option Nat}{vx v:V}{y:Value}{ans a':List Ans}{p:Prop}(hdn:∀ d',d = some d'→d' < g.nt)(h:(boxV ty vx d ans).run st = some ((v,a',p),st'))(hp:p)
 (hv:RepS w (tot F) base mb st vx y) :
 ∃ x w' base' F',(Instr.box t y).run P w = .ok x w'∧Rel g X st' a w' base' mb F'∧RepS w' (tot F') base' mb st' v x:=by
 unfold boxV at h
 split at h
 ·rename_i d
  obtain⟨_,s1,h1,h2⟩:=Cmd.abt h
  obtain⟨_,rfl⟩:=bm h1
  obtain⟨⟨cs,a1,p1⟩,s2,h3,h4⟩:=Cmd.abt h2
  obtain⟨_,s3,h5,h6⟩:=Cmd.abt h4
  rw[dA]at h5
  injection h5 with h5;injection h5 with _ h5
  obtain⟨_,s4,h9,h10⟩:=Cmd.abt h6
  obtain⟨h6,h7⟩:=af h10
  injection h6 with h6 h8
  injection h8 with _ h8
  subst h6;subst h7;subst h5;subst h8
  have fin:∀ {ys:List Value},RepSs w (tot F) base mb s1 (cellsOf vx) ys→((∀ y∈ys,y.oneCell' = true)→y.cells.toList = ys)→
   ∃ x w' base' F',(Instr.box t y).run P w = .ok x w'∧Rel g X s4 a w' base' mb F'∧RepS w' (tot F') base' mb s4 (.ptr ⟨d,none,0⟩) x:=by
   intro ys hys hcells
   obtain⟨F1,F',e1,e2,e3,e4,e5,e6⟩:=kj R h3 hp hys
   have hc:=hcells e3.oneCell
   obtain⟨F'',R'⟩:=Rel.newMem e1 e2 d (hdn d rfl) e3 t
   have hlen:=e3.length
   obtain⟨R'',_⟩:=sX R' h9 (fun j r c hj=>by
    have hxs:=oQ h3 j r c hj
    have hjl:j < cs.length:=(List.getElem?_eq_some_iff.1 hxs).1
    have hrn:((s2.cleared d cs.length).fills d 0 cs).rn d = some cs.length:=by
     rw[OV];simp[St.cleared,Wr.ap,ba]
    refine⟨?_,⟨cs.length,hrn,by omega⟩,?_⟩
    ·exact OW d cs 0 j _ _ hxs
    ·obtain⟨z,hz,hr⟩:=jm hys hj
     simp only[RepS]at hr
     obtain⟨⟨vs,k1⟩,k2,k3,A,l,n,rfl⟩:=hr
     have hne:r≠d:=fun e=>by subst e;exact R.npar _ (hdn _ rfl) _ k1
     refine⟨vs,_,by rw[bH _ _ hne];exact k1,?_,?_,A,l,n,rfl⟩
     ·unfold hd at k3;rw[k1]at k3;exact k3
     ·unfold hd
      rw[ba]
      simp only[Nat.zero_add]
      rw[World.cell?_alloc_new]
      simp[hz])
   refine⟨_,_,_,F'',?_,R'',by simp only[RepS];exact⟨_,_,⟨0,by rw[ba],rfl⟩,rfl⟩⟩
   have:y.cells = ys.toArray:=by rw[←hc]
   simp[Instr.box,newVar,newRow,this]
  cases vx with
  |agg cs0 =>
   simp only[RepS]at hv
   obtain⟨ys,rfl,hys⟩:=hv
   exact fin (ys:=ys) hys (fun _=>rfl)
  |_=>exact fin (ys:=[y]) (by simp only[cellsOf,RepSs];exact⟨hv,trivial⟩) (fun h=>Gx (h y (by simp)))
 ·cases h
end Go.Tm
