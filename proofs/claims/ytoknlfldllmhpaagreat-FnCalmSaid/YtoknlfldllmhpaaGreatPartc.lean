/- The tree machine, a library of this claim: the program's steps over closed value trees, and that they are sound. -/
import Derived.Test.YtoknlfldllmhpaaGreatPartb
import Derived.Laws.StructEq
import Derived.ChangeArms
import Derived.ChangeReads
import Derived.ReadAgain
import Derived.ChangeOld
import Derived.ChangeBears
import Derived.Below
set_option maxHeartbeats 8000000
set_option maxRecDepth 20000
set_option linter.unusedVariables false
set_option linter.unusedSimpArgs false
namespace Go.Tm
variable {g:G} {X:Fp} {st st':St} {a:Act} {w:World} {base:Nat→Base} {mb:Nat→Nat} {F:Ix→Fp} {N:Fp} {P:Program}
def Enters (P : Program) (f : FuncId) : Prop := ∃ fn, P.funcs[f]? = some fn ∧ (fn.name == "runtime.NumGoroutine") = false ∧ fn.body.isNone = false
theorem Enters.run{f:FuncId}(h:Enters P f)(args:Array Value)(w:World):(callFunc f args).run P w = .ok (.enter f args) w:=by
 obtain⟨fn,h1,h2,h3⟩:=h
 simp only[callFunc,Sem.run_bind,run_program,Result.andThen_ok,h1,h2,h3,Bool.false_eq_true,if_false,Sem.run_pure]
structure SqOk (P:Program) (t:TypeId):Prop where
 und:P.underlying t = some (.struct (P.fieldsOf t))
 held:P.stoodInHeld t = false
 guard:P.eqGuardType P.depth t = false
 names : (P.fieldsOf t).toList.all (fun f => f.name != "_") = true
structure CxOk (P:Program) (C:Cx):Prop where
 env:EnvOk P C.E
 sq:∀ t,C.sq t = true→SqOk P t
 fn:∀ f as res outs,C.F f as res outs→Enters P f∧Fn P f as res outs
theorem iL(R:Rel g X st a w base mb F):∀ {xs:List Operand} {vs:List V} {st':St},(Oj xs).run st = some (vs,st')→st' = st∧RepSs w (tot F) base mb st vs (xs.map a.eval)
 |[],vs,st',h=>by obtain⟨rfl,rfl⟩:=af h;exact⟨rfl,by simp only[List.map_nil,RepSs]⟩
 |x :: xs,vs,st',h=>by
  simp only[Oj]at h
  obtain⟨v,s1,h1,h2⟩:=Cmd.abt h
  obtain⟨vs1,s2,h3,h4⟩:=Cmd.abt h2
  obtain⟨rfl,q⟩:=af h4
  obtain⟨e1,e2⟩:=aP R h1
  rw[e1]at h3
  obtain⟨k1,k2⟩:=iL R h3
  refine⟨by rw[←q,k1],?_⟩
  simp only[List.map_cons,RepSs]
  exact⟨e2,k2⟩
theorem sk(R:Rel g X st a w base mb F):∀ {xs:List (Nat×Operand)} {vs:List (Nat×V)} {st':St},(XH xs).run st = some (vs,st')→st' = st∧Parts w (tot F) base mb st vs (xs.map fun(i,x)=>(i,a.eval x))
 |[],vs,st',h=>by obtain⟨rfl,rfl⟩:=af h;exact⟨rfl,.nil⟩
 |(i,x) :: xs,vs,st',h=>by
  simp only[XH]at h
  obtain⟨v,s1,h1,h2⟩:=Cmd.abt h
  obtain⟨vs1,s2,h3,h4⟩:=Cmd.abt h2
  obtain⟨rfl,q⟩:=af h4
  obtain⟨e1,e2⟩:=aP R h1
  rw[e1]at h3
  obtain⟨k1,k2⟩:=sk R h3
  exact⟨by rw[←q,k1],.cons e2 k2⟩
theorem oY(R:Rel g X st a w base mb F){x:Option Operand}{v:Option V}{st':St}(h:(MD x).run st = some (v,st')):st' = st∧Ft w (tot F) base mb st v (x.map a.eval):=by
 cases x with
 |none=>obtain⟨rfl,rfl⟩:=af h;exact⟨rfl,trivial⟩
 |some x =>
  simp only[MD]at h
  obtain⟨y,s1,h1,h2⟩:=Cmd.abt h
  obtain⟨rfl,q⟩:=af h2
  obtain⟨e1,e2⟩:=aP R h1
  exact⟨by rw[←q,e1],e2⟩
theorem cC{α:Type}{C:Env}{t:TypeId}{k:Ty→Cmd α}{x:α}(h:(eb C t k).run st = some (x,st')):∃ ty,C.ty t = some ty∧(k ty).run st = some (x,st'):=by
 unfold eb at h
 split at h
 ·rename_i ty hty;exact⟨ty,hty,h⟩
 ·cases h
theorem ni{o:Oper}{next:Act→World→Prop}{Q:Exit→Act→World→Prop}{x:Value}{w':World}(h:(execOp a.eval o).run P w = .ok (.value x) w')(hn:next (a.put o.dst x) w'):o.wp P a w next Q:=by
 unfold Oper.wp
 rw[h]
 exact hn
theorem Km{o:Oper}{next:Act→World→Prop}{Q:Exit→Act→World→Prop}{w':World}(h:(execOp a.eval o).run P w = .ok .skip w')(hn:next (a.put o.dst Go.undef) w'):o.wp P a w next Q:=by
 unfold Oper.wp
 rw[h]
 exact hn
theorem JW{op:BinOp}{t:TypeId}{X Y:Operand}{x y:Value}(h1:∀ cs,x≠.agg cs)(h2:x≠.nilIface):(eqGuard op t X Y x y).run P w = .ok () w:=by
 unfold eqGuard
 cases x <;> first|exact absurd rfl (h1 _)|exact absurd rfl h2|(cases op <;> simp)
theorem nr{cs:List V}{xs:List Value}{i:Nat}{y:Value}(h:RepSs w N base mb st cs xs)(hc:cs[i]? = some (.t (.v y))):xs[i]? = some y:=by
 obtain⟨x,h1,h2⟩:=jm h hc
 rw[h1,(aB h2).1]
theorem Ol{t:TypeId}{ty:Ty}(hT:TyOk P t ty)(ha:ty.agg = false){xs:List Value}{i:Nat}{y:Value}(h:xs[i]? = some y):(part t xs.toArray i).run P w = .ok y w:=by
 obtain⟨hi,hy⟩:=List.getElem?_eq_some_iff.1 h
 rw[KS hT (by rw[hT.one ha];omega) (hT.one)]
 rw[hT.one ha,ha]
 have:(xs.drop i).take 1 = [xs[i]]:=by rw[List.drop_eq_getElem_cons hi];rfl
 rw[this,hy];rfl
theorem TR(a b:ByteArray):(a.toList == b.toList) = decide (a = b):=by
 rw[ByteArray.toList_eq,ByteArray.toList_eq]
 obtain⟨⟨x⟩⟩:=a
 obtain⟨⟨y⟩⟩:=b
 by_cases h:x = y
 ·subst h;simp
 ·have:(ByteArray.mk ⟨x⟩)≠⟨⟨y⟩⟩:=fun e=>h (by injection e with e;injection e)
  simp[h,this]
theorem n7 {E : Env} (hE : EnvOk P E) {d : Nat} {cs ds : List V} {xs ys : List Value} (hx : RepSs w N base mb st cs xs) (hy : RepSs w N base mb st ds ys) : ∀ {fs : List Field} {r : Bool}, O7 E (fs.map fun f => (f.offset, f.type)) cs ds = some r → fs.all (fun f => f.name != "_") = true →
 (Op.eqFields (d+1) xs.toArray ys.toArray fs).run P w = .ok r w
 |[],r,h,_=>by simp only[List.map_nil,O7,Option.some.injEq]at h;subst h;rfl
 |f :: fs,r,h,hn=>by
  simp only[List.all_cons,Bool.and_eq_true_iff]at hn
  have hne : f.name ≠ "_" := by simpa using hn.1
  have key:∀ {z:Nat} {a b:Value} {c r':Bool} {ty:Ty},E.ty f.type = some ty→ty.agg = false→xs[f.offset]? = some a→ys[f.offset]? = some b→(Op.equalIn (d+1) f.type a b).run P w = .ok c w→(Op.eqFields (d+1) xs.toArray ys.toArray fs).run P w = .ok r' w→
   (Op.eqFields (d+1) xs.toArray ys.toArray (f :: fs)).run P w = .ok (c && r') w:=fun{_ a b c r' ty} hty ha h1 h2 h3 h4=>by
   simp only[Op.eqFields,hne,ne_eq,not_false_eq_true,if_true,Sem.run_bind,Ol (hE _ _ hty) ha h1,Ol (hE _ _ hty) ha h2,Result.andThen_ok,h3]
   cases c with
   |true=>simpa using h4
   |false=>simp
  simp only[List.map_cons,O7]at h
  split at h
  ·rename_i hty hc hd
   rename_i k zc bt k1 a k2 b
   split at h
   ·rename_i r' hk hr
    cases h
    have:=Vh hk;subst this
    exact key (z:=0) hty rfl (nr hx hc) (nr hy hd) (by rw[run_equalIn_int w d f.type _ k _ _ ((hE _ _ hty).int rfl)];rfl) (n7 hE hx hy hr hn.2)
   ·cases h
  ·rename_i hty hc hd
   split at h
   ·rename_i r' hr
    cases h
    exact key (z:=0) hty rfl (nr hx hc) (nr hy hd) (by rw[run_equalIn_string w d f.type _ _ ((hE _ _ hty).str rfl),TR]) (n7 hE hx hy hr hn.2)
   ·cases h
  ·rename_i hty hc hd
   split at h
   ·rename_i r' hr
    cases h
    exact key (z:=0) hty rfl (nr hx hc) (nr hy hd) (run_equalIn_bool' w d f.type _ _ ((hE _ _ hty).bool rfl)) (n7 hE hx hy hr hn.2)
   ·cases h
  ·cases h
theorem TyOk.fieldsOf{t:TypeId}{ty:Ty}(hT:TyOk P t ty){fs:List (Nat×TypeId)}(hd:ty.d = .struct fs):fs = (P.fieldsOf t).toList.map fun f=>(f.offset,f.type):=by
 have h:=hT.und
 unfold Program.fieldsOf
 cases hu:P.underlying t with
 |none=>rw[hu]at h;simp at h
 |some u =>
  rw[hu]at h
  simp only[Option.map_some,Option.some.injEq]at h
  rw[hd]at h
  cases u <;> simp only[D.of]at h <;> try cases h
  rfl
theorem A0{E:Env}(hE:EnvOk P E){sq:TypeId→Bool}(hq:∀ t,sq t = true→SqOk P t){op:BinOp}{t:TypeId}{xs ys:List V}{x y:Value}{X Y:Operand}{ans a':List Ans}{v:V}{p:Prop}(h:(xx E sq op t xs ys ans).run st = some ((v,a',p),st'))(hp:p)
 (hx:RepS w N base mb st (.agg xs) x) (hy:RepS w N base mb st (.agg ys) y):st' = st∧(eqGuard op t X Y x y).run P w = .ok () w∧ug P (Go.binOp op t x y) w N base mb st v:=by
 simp only[RepS]at hx hy
 obtain⟨cs,rfl,hx⟩:=hx
 obtain⟨ds,rfl,hy⟩:=hy
 unfold xx at h
 split at h
 ·rename_i fs zc bt hsq hty
  have hs:=hq _ hsq
  have hf:=(hE _ _ hty).fieldsOf rfl
  have hg:=run_eqGuard_agg (P:=P) w op t X Y cs.toArray ds.toArray hs.guard
  have heq:∀ {r:Bool},O7 E fs xs ys = some r→(Op.equalIn 10000 t (.agg cs.toArray) (.agg ds.toArray)).run P w = .ok r w:=fun hr=>by
   rw[run_equalIn_struct w 9999 t _ _ hs.und hs.held]
   rw[hf]at hr
   exact n7 hE hx hy hr hs.names
  split at h
  ·rename_i r b a hr
   obtain⟨q,rfl⟩:=af h
   simp only[Prod.mk.injEq]at q
   obtain⟨rfl,_,rfl⟩:=q
   refine⟨rfl,hg,.bool b,?_,eL rfl⟩
   rw[run_eql_struct,heq hr,hp];rfl
  ·rename_i r b a hr
   obtain⟨q,rfl⟩:=af h
   simp only[Prod.mk.injEq]at q
   obtain⟨rfl,_,rfl⟩:=q
   refine⟨rfl,hg,.bool (!b),?_,eL rfl⟩
   rw[run_neq_struct,heq hr,hp];rfl
  ·cases h
 ·cases h
theorem Ji{t:TypeId}{ty:Ty}(hT:TyOk P t ty)(hd:ty.d = .str∨∃ e,ty.d = .slice e)(x:Value)(lo hi mx:Option Value):(Instr.sliceAt t x lo hi mx).run P w = (Instr.slice t x lo hi mx).run P w:=by
 rcases hd with hd|⟨e,hd⟩
 ·simp[Instr.sliceAt,run_underlying (hT.str hd)]
 ·simp[Instr.sliceAt,run_underlying (hT.slice hd)]
theorem Jh{E:Env}{ty:Ty}{vx v:V}{lo hi mx:Option V}{ans a':List Ans}{p:Prop}(h:(Da E ty vx lo hi mx ans).run st = some ((v,a',p),st')):ty.d = .str∨∃ e,ty.d = .slice e:=by
 unfold Da at h
 split at h
 ·cases h
 ·cases hd:ty.d with
  |str=>exact .inl rfl
  |slice e=>exact .inr ⟨e,rfl⟩
  |_=>rw[hd]at h;cases h
theorem ZS{d:Option Nat}{x:Out}{v:V}{a':List Ans}{p:Prop}(h:(MX d x).run st = some ((v,a',p),st'))(hp:p):x.2.2:=by
 unfold MX at h
 split at h
 ·split at h
  ·obtain⟨⟨⟨k,xs⟩,a1,q⟩,s1,h1,h2⟩:=Cmd.abt h
   obtain⟨_,s2,h3,h4⟩:=Cmd.abt h2
   obtain⟨e,_⟩:=af h4
   simp only[Prod.mk.injEq]at e
   obtain⟨_,_,rfl⟩:=e
   exact hp.1
  ·cases h
 ·obtain⟨e,_⟩:=af h
  subst e
  exact hp
theorem MW(R:Rel g X st a w base mb F){d:Option Nat}(hdn:∀ d',d = some d'→d' < g.nt){x:Out}{v:V}{a':List Ans}{p:Prop}(h:(MX d x).run st = some ((v,a',p),st'))(hp:p){y:Value}(hv:RepS w (tot F) base mb st x.1 y) :
 ∃ base' F',Rel g X st' a w base' mb F'∧RepS w (tot F') base' mb st' v y:=by
 unfold MX at h
 split at h
 ·split at h
  ·obtain⟨⟨⟨k,xs⟩,a1,q⟩,s1,h1,h2⟩:=Cmd.abt h
   obtain⟨_,s2,h3,h4⟩:=Cmd.abt h2
   obtain⟨e,rfl⟩:=af h4
   simp only[Prod.mk.injEq]at e
   obtain⟨rfl,_,rfl⟩:=e
   obtain⟨F1,F2,R1,hX,hO,_,_,_⟩:=gv R h1 hp.2 hv
   rw[dA]at h3
   injection h3 with h3;injection h3 with _ h3
   subst h3
   obtain⟨F3,base3,R3,k3⟩:=R1.tmpSlice hX _ (hdn _ rfl) hO
   exact⟨base3,F3,R3,k3⟩
  ·cases h
 ·obtain⟨e,rfl⟩:=af h
  subst e
  exact⟨base,F,R,hv⟩
theorem Cj{C:Cx}(hC:CxOk P C)(R:Rel g X st a w base mb F){o:Oper}{ans a':List Ans}{v:V}{p:Prop}(hdn:∀ d',o.dst = some d'→d' < g.nt)(h:(fz C o ans).run st = some ((v,a',p),st'))(hp:p){next:Act→World→Prop}{Q:Exit→Act→World→Prop}
 (hn:∀ x w' base' mb' F',Rel g X st' a w' base' mb' F'→RepS w' (tot F') base' mb' st' v x→next (a.put o.dst x) w'):o.wp P a w next Q:=by
 have pur:∀ {s:Sem Value},(execOp a.eval o).run P w = (s.run P w).andThen (fun x w'=>.ok (.value x) w')→st' = st∧ug P s w (tot F) base mb st v→o.wp P a w next Q:=by
  rintro s hs ⟨rfl,x,h1,h2⟩
  refine ni (x:=x) (w':=w) (by rw[hs,h1];rfl) (hn _ _ _ _ _ R h2)
 have val:∀ {s:Sem Value},(execOp a.eval o).run P w = (s.run P w).andThen (fun x w'=>.ok (.value x) w')→(∃ x w' base' F',s.run P w = .ok x w'∧Rel g X st' a w' base' mb F'∧RepS w' (tot F') base' mb st' v x)→o.wp P a w next Q:=by
  rintro s hs ⟨x,w',base',F',h1,h2,h3⟩
  exact ni (x:=x) (w':=w') (by rw[hs,h1];rfl) (hn _ _ _ _ _ h2 h3)
 cases hop:o.op with
 |move x =>
  simp only[fz,hop]at h
  obtain⟨y,s1,h1,h2⟩:=Cmd.abt h
  obtain⟨q,rfl⟩:=af h2
  simp only[Prod.mk.injEq]at q
  obtain⟨rfl,_,_⟩:=q
  obtain⟨e1,e2⟩:=aP R h1
  exact ni (x:=a.eval x) (w':=w) (by simp[execOp,hop]) (hn _ _ _ _ _ (by rw[e1];exact R) (by rw[e1];exact e2))
 |assign x =>
  simp only[fz,hop]at h
  obtain⟨y,s1,h1,h2⟩:=Cmd.abt h
  obtain⟨q,rfl⟩:=af h2
  simp only[Prod.mk.injEq]at q
  obtain⟨rfl,_,_⟩:=q
  obtain⟨e1,e2⟩:=aP R h1
  exact ni (x:=a.eval x) (w':=w) (by simp[execOp,hop]) (hn _ _ _ _ _ (by rw[e1];exact R) (by rw[e1];exact e2))
 |alloc e =>
  simp only[fz,hop]at h
  obtain⟨ty,hty,g1⟩:=cC h
  exact val (s:=Instr.alloc e true (.tuple #[])) (by simp only[execOp,hop,Sem.run_bind,Sem.run_pure]) (Kf R (hC.env _ _ hty) hdn g1)
 |pick c x y =>
  simp only[fz,hop]at h
  obtain⟨vc,s1,h1,g1⟩:=Cmd.abt h
  obtain⟨vx,s2,h2,g2⟩:=Cmd.abt g1
  obtain⟨vy,s3,h3,g3⟩:=Cmd.abt g2
  obtain⟨e1,k1⟩:=aP R h1
  subst e1
  obtain⟨e2,k2⟩:=aP R h2
  subst e2
  obtain⟨e3,k3⟩:=aP R h3
  subst e3
  exact pur (by simp only[execOp,hop,Sem.run_bind,Sem.run_pure];cases(asBool (a.eval c)).run P w <;> rfl) (MH (P:=P) g3 hp k1 k2 k3)
 |box e x =>
  simp only[fz,hop]at h
  obtain⟨ty,hty,g1⟩:=cC h
  obtain⟨vx,s1,h1,g2⟩:=Cmd.abt g1
  obtain⟨e1,k1⟩:=aP R h1
  subst e1
  exact val (s:=Instr.box e (a.eval x)) (by simp only[execOp,hop,Sem.run_bind,Sem.run_pure]) (QW R hdn g2 hp k1)
 |build t ps =>
  simp only[fz,hop]at h
  obtain⟨ty,hty,g1⟩:=cC h
  obtain⟨vx,s1,h1,g2⟩:=Cmd.abt g1
  obtain⟨e1,k1⟩:=sk R h1
  subst e1
  exact pur (s:=Instr.build t (ps.map fun(i,x)=>(i,a.eval x))) (by simp only[execOp,hop,Sem.run_bind,Sem.run_pure]) (J8 (P:=P) hC.env (hC.env _ _ hty) g2 (by rw[Array.toList_map];exact k1))
 |buildSlice t n ps =>
  simp only[fz,hop]at h
  obtain⟨ty,hty,g1⟩:=cC h
  obtain⟨vx,s1,h1,g2⟩:=Cmd.abt g1
  obtain⟨e1,k1⟩:=sk R h1
  subst e1
  exact val (s:=Instr.buildSlice t n (ps.map fun(i,x)=>(i,a.eval x))) (by simp only[execOp,hop,Sem.run_bind,Sem.run_pure]) (wQ R hC.env (hC.env _ _ hty) hdn g2 hp (by rw[Array.toList_map];exact k1))
 |load t x =>
  simp only[fz,hop]at h
  obtain⟨ty,hty,g1⟩:=cC h
  obtain⟨vx,s1,h1,g2⟩:=Cmd.abt g1
  obtain⟨e1,k1⟩:=aP R h1
  subst e1
  obtain⟨y0,s2,h2,g3⟩:=Cmd.abt g2
  obtain⟨v0,a0,p0⟩:=y0
  obtain⟨rfl,y,q1,q2⟩:=B4 R (hC.env _ _ hty) h2 (ZS g3 hp) k1
  obtain⟨base',F',q3,q4⟩:=MW R hdn g3 hp q2
  exact val (s:=Instr.loadAt t (a.eval x)) (by simp only[execOp,hop,Sem.run_bind,Sem.run_pure]) ⟨y,w,base',F',q1,q3,q4⟩
 |store t x y =>
  simp only[fz,hop]at h
  obtain⟨ty,hty,g1⟩:=cC h
  obtain⟨vx,s1,h1,g2⟩:=Cmd.abt g1
  obtain⟨vy,s2,h2,g3⟩:=Cmd.abt g2
  obtain⟨e1,k1⟩:=aP R h1
  subst e1
  obtain⟨e2,k2⟩:=aP R h2
  subst e2
  obtain⟨w',F',q1,q2,rfl⟩:=Jd R (hC.env _ _ hty) g3 hp k1 k2
  exact Km (w':=w') (by simp only[execOp,hop,Sem.run_bind,Sem.run_pure,q1,Result.andThen_ok]) (hn _ _ _ _ _ q2 (by simp only[RepS]))
 |nilCheck x =>
  simp only[fz,hop]at h
  obtain⟨vx,s1,h1,g1⟩:=Cmd.abt h
  obtain⟨e1,k1⟩:=aP R h1
  subst e1
  obtain⟨rfl,q1,ad,q2⟩:=Ah g1 k1
  exact ni (x:=a.eval x) (w':=w) (by simp only[execOp,hop,q2,Sem.run_pure]) (hn _ _ _ _ _ R q1)
 |unOp op t x =>
  simp only[fz,hop]at h
  obtain⟨vx,s1,h1,g1⟩:=Cmd.abt h
  obtain⟨e1,k1⟩:=aP R h1
  subst e1
  exact pur (s:=Op.unary op (a.eval x)) (by simp only[execOp,hop,Sem.run_bind,Sem.run_pure]) (Mh (P:=P) g1 hp k1)
 |convert src dst x =>
  simp only[fz,hop]at h
  obtain⟨vx,s1,h1,g1⟩:=Cmd.abt h
  obtain⟨e1,k1⟩:=aP R h1
  subst e1
  exact val (s:=convert src dst (a.eval x)) (by simp only[execOp,hop,Sem.run_bind,Sem.run_pure]) (EG R hC.env hdn g1 hp k1)
 |makeSlice t l c =>
  simp only[fz,hop]at h
  obtain⟨ty,hty,g1⟩:=cC h
  obtain⟨vx,s1,h1,g2⟩:=Cmd.abt g1
  obtain⟨vy,s2,h2,g3⟩:=Cmd.abt g2
  obtain⟨e1,k1⟩:=aP R h1
  subst e1
  obtain⟨e2,k2⟩:=aP R h2
  subst e2
  exact val (s:=Instr.makeSlice t (a.eval l) (a.eval c)) (by simp only[execOp,hop,Sem.run_bind,Sem.run_pure]) (yV R hC.env (hC.env _ _ hty) hdn g3 hp k1 k2)
 |fieldAddr t x f =>
  simp only[fz,hop]at h
  obtain⟨ty,hty,g1⟩:=cC h
  obtain⟨vx,s1,h1,g2⟩:=Cmd.abt g1
  obtain⟨e1,k1⟩:=aP R h1
  subst e1
  exact pur (s:=Instr.fieldAt t (a.eval x) f) (by simp only[execOp,hop,Sem.run_bind,Sem.run_pure]) (zr hC.env (hC.env _ _ hty) g2 k1)
 |field t x f =>
  simp only[fz,hop]at h
  obtain⟨ty,hty,g1⟩:=cC h
  obtain⟨vx,s1,h1,g2⟩:=Cmd.abt g1
  obtain⟨e1,k1⟩:=aP R h1
  subst e1
  exact pur (s:=Instr.field t (a.eval x) f) (by simp only[execOp,hop,Sem.run_bind,Sem.run_pure]) (JU hC.env (hC.env _ _ hty) g2 k1)
 |indexAddr t x i =>
  simp only[fz,hop]at h
  obtain⟨ty,hty,g1⟩:=cC h
  obtain⟨vx,s1,h1,g2⟩:=Cmd.abt g1
  obtain⟨vy,s2,h2,g3⟩:=Cmd.abt g2
  obtain⟨e1,k1⟩:=aP R h1
  subst e1
  obtain⟨e2,k2⟩:=aP R h2
  subst e2
  exact pur (s:=Instr.indexAt t (a.eval x) (a.eval i)) (by simp only[execOp,hop,Sem.run_bind,Sem.run_pure]) (yW hC.env R (hC.env _ _ hty) g3 hp k1 k2)
 |index t x i =>
  simp only[fz,hop]at h
  obtain⟨ty,hty,g1⟩:=cC h
  obtain⟨vx,s1,h1,g2⟩:=Cmd.abt g1
  obtain⟨vy,s2,h2,g3⟩:=Cmd.abt g2
  obtain⟨e1,k1⟩:=aP R h1
  subst e1
  obtain⟨e2,k2⟩:=aP R h2
  subst e2
  exact pur (s:=Instr.index t (a.eval x) (a.eval i)) (by simp only[execOp,hop,Sem.run_bind,Sem.run_pure]) (JG (hC.env _ _ hty) g3 hp k1 k2)
 |lookup t x k ok =>
  simp only[fz,hop]at h
  obtain⟨ty,hty,g1⟩:=cC h
  obtain⟨vx,s1,h1,g2⟩:=Cmd.abt g1
  obtain⟨vy,s2,h2,g3⟩:=Cmd.abt g2
  obtain⟨e1,k1⟩:=aP R h1
  subst e1
  obtain⟨e2,k2⟩:=aP R h2
  subst e2
  exact pur (s:=Instr.lookup t (a.eval x) (a.eval k) ok) (by simp only[execOp,hop,Sem.run_bind,Sem.run_pure]) (Hi R hC.env (hC.env _ _ hty) g3 hp k1 k2)
 |mapUpdate t x k y =>
  simp only[fz,hop]at h
  obtain⟨ty,hty,g1⟩:=cC h
  obtain⟨vx,s1,h1,g2⟩:=Cmd.abt g1
  obtain⟨vk,s2,h2,g3⟩:=Cmd.abt g2
  obtain⟨vy,s3,h3,g4⟩:=Cmd.abt g3
  obtain⟨e1,k1⟩:=aP R h1
  subst e1
  obtain⟨e2,k2⟩:=aP R h2
  subst e2
  obtain⟨e3,k3⟩:=aP R h3
  subst e3
  obtain⟨w',mb',F',q1,q2,rfl⟩:=yU R hC.env (hC.env _ _ hty) g4 hp k1 k2 k3
  exact Km (w':=w') (by simp only[execOp,hop,Sem.run_bind,Sem.run_pure,q1,Result.andThen_ok]) (hn _ _ _ _ _ q2 (by simp only[RepS]))
 |extract x i =>
  simp only[fz,hop]at h
  obtain⟨vx,s1,h1,g1⟩:=Cmd.abt h
  obtain⟨e1,k1⟩:=aP R h1
  subst e1
  exact pur (s:=Instr.extract (a.eval x) i) (by simp only[execOp,hop,Sem.run_bind,Sem.run_pure]) (EE (P:=P) g1 k1)
 |makeMap t r =>
  cases r with
  |some r=>simp only[fz,hop]at h;cases h
  |none =>
   simp only[fz,hop]at h
   obtain⟨x,w',mb',F',q1,q2,q3⟩:=DX (P:=P) (t:=t) R h
   exact ni (x:=x) (w':=w') (by simp only[execOp,hop,Sem.run_bind,Sem.run_pure,Option.map_none,q1,Result.andThen_ok]) (hn _ _ _ _ _ q2 q3)
 |binOp op t x y ty =>
  simp only[fz,hop]at h
  obtain⟨vx,s1,h1,g1⟩:=Cmd.abt h
  obtain⟨vy,s2,h2,g2⟩:=Cmd.abt g1
  obtain⟨e1,k1⟩:=aP R h1
  subst e1
  obtain⟨e2,k2⟩:=aP R h2
  subst e2
  unfold Wu at g2
  split at g2
  ·obtain⟨q1,q2,q3⟩:=A0 (P:=P) (X:=x) (Y:=y) hC.env hC.sq g2 hp k1 k2
   exact pur (s:=Go.binOp op t (a.eval x) (a.eval y)) (by simp only[execOp,hop,Sem.run_bind,Sem.run_pure,q2,Result.andThen_ok]) ⟨q1,q3⟩
  obtain⟨q1,q2,q3,q4⟩:=Kd (P:=P) hC.env g2 hp k1 k2
  exact pur (s:=Go.binOp op t (a.eval x) (a.eval y)) (by simp only[execOp,hop,Sem.run_bind,Sem.run_pure,JW q3 q4,Result.andThen_ok]) ⟨q1,q2⟩
 |slice t x lo hi mx =>
  simp only[fz,hop]at h
  obtain⟨ty,hty,g1⟩:=cC h
  obtain⟨vx,s1,h1,g2⟩:=Cmd.abt g1
  obtain⟨vlo,s2,h2,g3⟩:=Cmd.abt g2
  obtain⟨vhi,s3,h3,g4⟩:=Cmd.abt g3
  obtain⟨vmx,s4,h4,g5⟩:=Cmd.abt g4
  obtain⟨e1,k1⟩:=aP R h1
  subst e1
  obtain⟨e2,k2⟩:=oY R h2
  subst e2
  obtain⟨e3,k3⟩:=oY R h3
  subst e3
  obtain⟨e4,k4⟩:=oY R h4
  subst e4
  exact pur (s:=Instr.slice t (a.eval x) (lo.map a.eval) (hi.map a.eval) (mx.map a.eval)) (by simp only[execOp,hop,Sem.run_bind,Sem.run_pure,Ji (hC.env _ _ hty) (Jh g5)]) (Jg R hC.env (hC.env _ _ hty) g5 hp k1 k2 k3 k4)
 |call c =>
  obtain⟨callee,args,ts⟩:=c
  cases callee with
  |invoke r m=>simp only[fz,hop]at h;cases h
  |builtin b =>
   have hx:∀ (s:Sem Value),(∀ cs,builtin b ts o.type cs (args.map a.eval) = (do let x ←s;pure (.value x)))→(execOp a.eval o).run P w = (s.run P w).andThen (fun x w'=>.ok (.value x) w'):=fun s hs=>by
    simp only[execOp,hop,resolve,Sem.run_bind,Sem.run_pure,Result.andThen_ok,invoke,hs]
   have hl:∀ {xs:List Value},args.toList.map a.eval = xs→args.map a.eval = xs.toArray:=fun h=>by rw[←h,←Array.toList_map,Array.toArray_toList]
   cases b with
   |len =>
    simp only[fz,hop]at h
    split at h
    ·rename_i t ht
     obtain⟨ty,hty,g1⟩:=cC h
     obtain⟨vs,s1,h1,g2⟩:=Cmd.abt g1
     obtain⟨e1,k1⟩:=iL R h1
     subst e1
     split at g2
     ·rename_i x
      cases hxs:args.toList.map a.eval with
      |nil=>rw[hxs]at k1;simp only[RepSs]at k1
      |cons y ys =>
       cases ys with
       |cons z zs=>rw[hxs]at k1;simp only[RepSs,and_false]at k1
       |nil =>
        rw[hxs]at k1
        simp only[RepSs,and_true]at k1
        have hts:ts = #[t]:=by cases ts;simpa using ht
        exact pur (s:=Builtin.len_ #[t] o.type #[y]) (hx _ (fun cs=>by rw[hl hxs,hts];rfl)) (Qp R (hC.env _ _ hty) g2 hp k1 o.type)
     ·cases g2
    ·cases h
   |append =>
    simp only[fz,hop]at h
    split at h
    ·rename_i t u ht
     obtain⟨ty,hty,g1⟩:=cC h
     obtain⟨tx,htx,g1⟩:=cC g1
     obtain⟨vs,s1,h1,g2⟩:=Cmd.abt g1
     obtain⟨e1,k1⟩:=iL R h1
     subst e1
     split at g2
     ·rename_i x1 x2
      cases hxs:args.toList.map a.eval with
      |nil=>rw[hxs]at k1;simp only[RepSs]at k1
      |cons y ys =>
       cases ys with
       |nil=>rw[hxs]at k1;simp only[RepSs,and_false]at k1
       |cons z zs =>
        cases zs with
        |cons z zs=>rw[hxs]at k1;simp only[RepSs,and_false]at k1
        |nil =>
         rw[hxs]at k1
         simp only[RepSs,and_true]at k1
         have hts:ts = #[t,u]:=by cases ts;simpa using ht
         exact val (s:=Builtin.append_ #[t,u] o.type #[y,z]) (hx _ (fun cs=>by rw[hl hxs,hts];rfl)) (HQ R hC.env (hC.env _ _ hty) (hC.env _ _ htx) hdn g2 hp k1.1 k1.2)
     ·cases g2
    ·cases h
   |max =>
    simp only[fz,hop]at h
    obtain⟨vs,s1,h1,g2⟩:=Cmd.abt h
    obtain⟨e1,k1⟩:=iL R h1
    subst e1
    split at g2
    ·rename_i x1 x2
     cases hxs:args.toList.map a.eval with
     |nil=>rw[hxs]at k1;simp only[RepSs]at k1
     |cons y ys =>
      cases ys with
      |nil=>rw[hxs]at k1;simp only[RepSs,and_false]at k1
      |cons z zs =>
       cases zs with
       |cons z zs=>rw[hxs]at k1;simp only[RepSs,and_false]at k1
       |nil =>
        rw[hxs]at k1
        simp only[RepSs,and_true]at k1
        obtain⟨q1,q2,_⟩:=tR (P:=P) g2 hp k1.1 k1.2 ts o.type
        exact pur (s:=Builtin.max_ ts o.type #[y,z]) (hx _ (fun cs=>by rw[hl hxs];rfl)) ⟨q1,q2 rfl⟩
    ·cases g2
   |min =>
    simp only[fz,hop]at h
    obtain⟨vs,s1,h1,g2⟩:=Cmd.abt h
    obtain⟨e1,k1⟩:=iL R h1
    subst e1
    split at g2
    ·rename_i x1 x2
     cases hxs:args.toList.map a.eval with
     |nil=>rw[hxs]at k1;simp only[RepSs]at k1
     |cons y ys =>
      cases ys with
      |nil=>rw[hxs]at k1;simp only[RepSs,and_false]at k1
      |cons z zs =>
       cases zs with
       |cons z zs=>rw[hxs]at k1;simp only[RepSs,and_false]at k1
       |nil =>
        rw[hxs]at k1
        simp only[RepSs,and_true]at k1
        obtain⟨q1,_,q2⟩:=tR (P:=P) g2 hp k1.1 k1.2 ts o.type
        exact pur (s:=Builtin.min_ ts o.type #[y,z]) (hx _ (fun cs=>by rw[hl hxs];rfl)) ⟨q1,q2 rfl⟩
    ·cases g2
   |_=>simp only[fz,hop]at h;cases h
  |value f =>
   cases f with
   |func f =>
    simp only[fz,hop]at h
    obtain⟨vs,s1,h1,g2⟩:=Cmd.abt h
    obtain⟨e1,k1⟩:=iL R h1
    subst e1
    have hcl:=J0 R (P:=P) (fun f as res outs hf=>(hC.fn f as res outs hf).2) hdn g2 hp k1
    have hen:Enters P f:=by
     obtain⟨⟨ys,a1,p1⟩,s1,h1,h2⟩:=Cmd.abt g2
     obtain⟨_,s1',h3,h4⟩:=Cmd.abt h2
     obtain⟨⟨ys2,a2,p2⟩,s2,h5,h6⟩:=Cmd.abt h4
     obtain⟨⟨as,a3,p3⟩,s3,h7,h8⟩:=Cmd.abt h6
     simp only at h8
     split at h8
     ·obtain⟨_,s4,h9,h10⟩:=Cmd.abt h8
      obtain⟨⟨v3,a5,p5⟩,s5,h11,h12⟩:=Cmd.abt h10
      obtain⟨q,_⟩:=af h12
      simp only[Prod.mk.injEq]at q
      obtain⟨_,_,rfl⟩:=q
      exact(hC.fn _ _ _ _ hp.2.2.2.2).1
     ·cases h8
    have hex:(execOp a.eval o).run P w = .ok (.enter f (args.map a.eval)) w:=by
     have h1:a.eval (.func f) = .func (.func f) #[] #[]:=rfl
     simp only[execOp,hop,resolve,h1,Deferred.ofValue,Sem.run_bind,Sem.run_pure,Result.andThen_ok,invoke]
     simpa using hen.run (args.map a.eval) w
    unfold Oper.wp
    rw[hex]
    simp only[Oper.upon]
    rw[show args.map a.eval = (args.toList.map a.eval).toArray by rw[←Array.toList_map,Array.toArray_toList]]
    refine hcl.mono ?_
    rintro e w' ⟨x,base',F',rfl,q1,q2⟩
    exact hn _ _ _ _ _ q1 q2
   |_=>simp only[fz,hop]at h;cases h
 |_=>simp only[fz,hop]at h;cases h
end Go.Tm
namespace Go.Tm
variable {g:G} {X:Fp} {st st':St} {a:Act} {w:World} {base:Nat→Base} {mb:Nat→Nat} {F:Ix→Fp} {N:Fp} {P:Program}
theorem pK(R:Rel g X st a w base mb F){d:Option Nat}{v:V}{x:Value}{u:Unit}(h:(wrO g.nt d v).run st = some (u,st'))(hv:RepS w (tot F) base mb st v x):Rel g X st' (a.put d x) w base mb F:=by
 unfold wrO at h
 split at h
 ·rename_i d
  obtain⟨_,s1,h1,h2⟩:=Cmd.abt h
  obtain⟨hd,rfl⟩:=bm h1
  simp only[Cmd.run,Option.some.injEq,Prod.mk.injEq]at h2
  rw[←h2.2]
  exact R.put (by simpa [Nat.blt_eq]using hd) hv
 ·obtain⟨_,rfl⟩:=af h
  exact R
theorem L9(R:Rel g X st a w base mb F){ops:Array Oper}{j t:Nat}{c:Bool}(ht:(ops[j]?).bind (·.dst) = some t)(hs:st.sl t = .t (.v (.bool c))):yielded ops a.tmps j = some c:=by
 have h:=R.slots t
 rw[hs]at h
 obtain⟨h,_⟩:=aB h
 unfold yielded
 rw[ht]
 simp only[Option.bind_some]
 rw[Array.getD_eq_getD_getElem?]at h
 cases hx:a.tmps[t]? with
 |none=>rw[hx]at h;simp[Go.undef]at h
 |some y=>rw[hx]at h;simp only[Option.getD_some]at h;rw[h]
theorem Ma(R:Rel g X st a w base mb F){ops:Array Oper}{j t:Nat}(ht:(ops[j]?).bind (·.dst) = some t)(hs:st.sl t = .tup []):yielded ops a.tmps j = none:=by
 have h:=R.slots t
 rw[hs]at h
 simp only[RepS]at h
 obtain⟨xs,h,h2⟩:=h
 cases xs with
 |cons _ _=>simp only[RepSs]at h2
 |nil =>
  unfold yielded
  rw[ht]
  simp only[Option.bind_some]
  rw[Array.getD_eq_getD_getElem?]at h
  cases hx:a.tmps[t]? with
  |none=>rfl
  |some y=>rw[hx]at h;simp only[Option.getD_some]at h;rw[h]
theorem Oh{N:Fp}:RepS w N base mb st (.tup []) Go.undef:=by
 simp only[RepS];exact⟨[],rfl,by simp only[RepSs]⟩
theorem n6{C:Cx}(hC:CxOk P C)(R:Rel g X st a w base mb F){ops:Array Oper}{o:Oper}{ans a':List Ans}{p:Prop}(h:(jn C g.nt ops o ans).run st = some ((a',p),st'))(hp:p){K:Act→World→Prop}{Q:Exit→Act→World→Prop}
 (hK:∀ a' w' base' mb' F',Rel g X st' a' w' base' mb' F'→K a' w'):if Region.wanted o (yielded ops a.tmps)then o.wp P a w K Q∨(o.asks P a w∧LetsOut Q)else K (a.put o.dst Go.undef) w:=by
 have hgo:∀ {s2:St} {a2:List Ans} {p2:Prop},((fz C o a2).bind fun x=>(wrO g.nt o.dst x.1).bind fun _=>.ret (x.2.1,p2)).run st = some ((a',p),st')→True:=fun _=>trivial
 unfold jn at h
 split at h
 ·rename_i hg
  obtain⟨⟨v,a1,p1⟩,s1,h1,h2⟩:=Cmd.abt h
  obtain⟨u,s2,h3,h4⟩:=Cmd.abt h2
  obtain⟨q,rfl⟩:=af h4
  simp only[Prod.mk.injEq]at q
  obtain⟨_,rfl⟩:=q
  have hw:Region.wanted o (yielded ops a.tmps) = true:=by simp[Region.wanted,hg]
  rw[if_pos hw]
  have hdn:∀ d',o.dst = some d'→d' < g.nt:=fun d' hd=>by
   simp only[hd,wrO]at h3
   obtain⟨_,_,h5,_⟩:=Cmd.abt h3
   obtain⟨h6,_⟩:=bm h5
   simpa [Nat.blt_eq]using h6
  exact .inl (Cj hC R hdn h1 hp fun x w' base' mb' F' R' hv=>hK _ _ _ _ _ (pK R' h3 hv))
 ·rename_i j want hg
  split at h
  ·rename_i t r a0 ht
   simp only[Cmd.run]at h
   split at h
   ·rename_i c hs
    have hy:=L9 R ht hs
    split at h
    ·rename_i hm
     obtain⟨⟨v,a1,p1⟩,s1,h1,h2⟩:=Cmd.abt h
     obtain⟨u,s2,h3,h4⟩:=Cmd.abt h2
     obtain⟨q,rfl⟩:=af h4
     simp only[Prod.mk.injEq]at q
     obtain⟨_,rfl⟩:=q
     obtain⟨rfl,hp⟩:=hp
     have hw:Region.wanted o (yielded ops a.tmps) = true:=by
      simp only[Region.wanted,hg,hy]
      cases want <;> cases c <;> simp_all
     rw[if_pos hw]
     have hdn:∀ d',o.dst = some d'→d' < g.nt:=fun d' hd=>by
      simp only[hd,wrO]at h3
      obtain⟨_,_,h5,_⟩:=Cmd.abt h3
      obtain⟨h6,_⟩:=bm h5
      simpa [Nat.blt_eq]using h6
     exact .inl (Cj hC R hdn h1 hp fun x w' base' mb' F' R' hv=>hK _ _ _ _ _ (pK R' h3 hv))
    ·rename_i hm
     obtain⟨u,s2,h3,h4⟩:=Cmd.abt h
     obtain⟨q,rfl⟩:=af h4
     simp only[Prod.mk.injEq]at q
     obtain⟨_,rfl⟩:=q
     subst hp
     have hw:Region.wanted o (yielded ops a.tmps) = false:=by
      simp only[Region.wanted,hg,hy]
      cases want <;> cases c <;> simp_all
     rw[hw]
     exact hK _ _ _ _ _ (pK R h3 Oh)
   ·rename_i hs
    obtain⟨u,s2,h3,h4⟩:=Cmd.abt h
    obtain⟨q,rfl⟩:=af h4
    have hy:=Ma R ht hs
    have hw:Region.wanted o (yielded ops a.tmps) = false:=by
     simp only[Region.wanted,hg,hy];rfl
    rw[hw]
    exact hK _ _ _ _ _ (pK R h3 Oh)
   ·cases h
  ·cases h
theorem xY{C:Cx}(hC:CxOk P C){ops:Array Oper}{Q:Exit→Act→World→Prop}:∀ {os:List Oper} {k:Nat} {ans:List Ans} {p:Prop} {st:St} {a:Act} {w:World} {base:Nat→Base} {mb:Nat→Nat} {F:Ix→Fp},ops.toList.drop k = os→
 Rel g X st a w base mb F→(IW C g.nt ops os ans).run st = some (p,st')→p→(∀ a' w' base' mb' F',Rel g X st' a' w' base' mb' F'→Q .normal a' w')→wpOps P ops Q (List.range' k (ops.size - k)) a w
 |[],k,ans,p,st,a,w,base,mb,F,hk,R,h,hp,hQ=>by
  have:ops.size - k = 0:=by have:=congrArg List.length hk;simp at this;omega
  rw[this]
  simp only[List.range'_zero,wpOps]
  cases ans with
  |nil=>obtain⟨_,rfl⟩:=af h;exact hQ _ _ _ _ _ R
  |cons x xs=>cases h
 |o :: os,k,ans,p,st,a,w,base,mb,F,hk,R,h,hp,hQ=>by
  have hl:=congrArg List.length hk
  simp only[List.length_drop,Array.length_toList,List.length_cons]at hl
  have hn:ops.size - k = (ops.size - (k+1)) +1:=by omega
  rw[hn,List.range'_succ]
  have ho:ops[k]? = some o:=by
   have h0:(ops.toList.drop k)[0]? = some o:=by rw[hk];rfl
   rw[List.getElem?_drop,Nat.add_zero,Array.getElem?_toList]at h0
   exact h0
  simp only[wpOps,ho]
  simp only[IW]at h
  obtain⟨⟨a1,p1⟩,s1,h1,h2⟩:=Cmd.abt h
  obtain⟨q,s2,h3,h4⟩:=Cmd.abt h2
  obtain⟨e1,e2⟩:=af h4
  rw[←e1]at hp
  rw[e2]at h3
  refine n6 hC R h1 hp.1 fun a' w' base' mb' F' R'=>?_
  have hk':ops.toList.drop (k+1) = os:=by rw[←List.drop_drop,hk];rfl
  exact xY hC hk' R' h3 hp.2 hQ
theorem Run.region{C:Cx}(hC:CxOk P C){nt id:Nat}{ops:Array Oper}{Q:Exit→St→Prop}{p:Prop}(ans:List Ans)(h:(IW C nt ops ops.toList ans).run st = some (p,st'))(hp:p)(hq:Q .normal st'):Run P nt (.region id ops false) st Q:=by
 intro g hg a w base mb F R
 subst hg
 refine wp_region ?_
 rw[List.range_eq_range']
 exact xY (k:=0) hC rfl R h hp fun a' w' base' mb' F' R'=>⟨st',base',mb',F',hq,R'⟩
theorem Tc(R:Rel g X st a w base mb F){c:Operand}{b:Bool}(h:(rdO c).run st = some (.t (.v (.bool b)),st')):a.eval c = .bool b:=by
 obtain⟨e1,e2⟩:=aP R h
 exact(aB e2).1
theorem Run.cond{nt:Nat}{c:Operand}{x y:Code}{Q:Exit→St→Prop}{b:Bool}(h:(rdO c).run st = some (.t (.v (.bool b)),st))(ht:b = true→Run P nt x st Q)(hf:b = false→Run P nt y st Q):Run P nt (.cond c x y) st Q:=by
 intro g hg a w base mb F R
 subst hg
 refine wp_cond_split (Tc R h) (fun e=>ht e g rfl a w base mb F R) (fun e=>hf e g rfl a w base mb F R)
def Loop(P:Program)(nt:Nat)(c:Code)(st:St)(Q:Exit→St→Prop):Prop :=
 ∀ (g:G),g.nt = nt→∀ (a:Act) (w:World) (base:Nat→Base) (mb:Nat→Nat) (F:Ix→Fp),Rel g Fp.none st a w base mb F→∀ (b:Go.Frame) (k:List Item) (cs:List Go.Frame),
  ∃ e a' w',(∃ st' base' mb' F',Q e st'∧Rel g Fp.none st' a' w' base' mb' F')∧Arrives P (lone (b.at a (.code c :: .inLoop c :: k)) cs w) b k cs e a' w'
theorem Run.loop{nt:Nat}{c:Code}{Q:Exit→St→Prop}(h:Loop P nt c st Q):Run P nt (.loop c) st Q:=by
 intro g hg a w base mb F R b k cs
 obtain⟨e,a1,w1,hq,harr⟩:=h g hg a w base mb F R b k cs
 exact⟨e,a1,w1,hq,.of_steps (.one step_loop) harr⟩
theorem Loop.step{nt:Nat}{c:Code}{Q:Exit→St→Prop}
 (h:Run P nt c st fun e s'=>match e with|.normal=>Loop P nt c s' Q|e=>Q e s'):Loop P nt c st Q:=by
 intro g hg a w base mb F R b k cs
 obtain⟨e,a1,w1,⟨s1,base1,mb1,F1,hq,R1⟩,harr⟩:=h g hg a w base mb F R b (.inLoop c :: k) cs
 cases e with
 |normal =>
  obtain⟨e2,a2,w2,hq2,harr2⟩:=hq g hg a1 w1 base1 mb1 F1 R1 b k cs
  exact⟨e2,a2,w2,hq2,.of_steps (Steps.trans harr (.one step_inLoop)) harr2⟩
 |exit id=>exact⟨_,a1,w1,⟨s1,base1,mb1,F1,hq,R1⟩,.pass (x:=.inLoop c) rfl (fun _ _=>.inl (by simp)) harr⟩
 |goto l=>exact⟨_,a1,w1,⟨s1,base1,mb1,F1,hq,R1⟩,.pass (x:=.inLoop c) rfl (fun _ _=>.inl (by simp)) harr⟩
 |ret=>exact⟨_,a1,w1,⟨s1,base1,mb1,F1,hq,R1⟩,.pass (x:=.inLoop c) rfl (fun _ _=>.inl (by simp)) harr⟩
 |panic ch=>exact⟨_,a1,w1,⟨s1,base1,mb1,F1,hq,R1⟩,.pass (x:=.inLoop c) rfl (fun _ _=>.inl (by simp)) harr⟩
 |outgrown=>exact⟨_,a1,w1,⟨s1,base1,mb1,F1,hq,R1⟩,.pass (x:=.inLoop c) rfl (fun _ _=>.inl (by simp)) harr⟩
end Go.Tm
namespace Go.Tm
variable {g:G} {X:Fp} {st st':St} {a:Act} {w:World} {base:Nat→Base} {mb:Nat→Nat} {F:Ix→Fp} {N:Fp} {P:Program}
mutual
def wS(ρ:Nat→Option (Option Nat))(μ:Nat→Option Nat):V→V→Prop
 |.undef,_=>True
 |.t x,v=>v = .t x
 |.nils,v=>v = .nils
 |.ref p,v=>match ρ p.root with
  |some (some r)=>v = .ref ⟨r,p.step,p.off⟩
  |some none=>p.step = none∧p.off = 0∧v = .nils
  |none=>False
 |.sub p lo hi,v=>match ρ p.root with
  |some (some r)=>v = .sub ⟨r,p.step,p.off⟩ lo hi
  |_=>False
 |.ptr p,v=>match ρ p.root with
  |some (some r)=>v = .ptr ⟨r,p.step,p.off⟩
  |_=>False
 |.iptr cs,v=>v = .iptr cs
 |.agg cs,v=>∃ ds,v = .agg ds∧I5 ρ μ cs ds
 |.tup cs,v=>∃ ds,v = .tup ds∧I5 ρ μ cs ds
 |.mref m,v=>match μ m with|some m0=>v = .mref m0|none=>False
 |.al q c,v=>match ρ q with
  |some (some r)=>v = .al r c
  |_=>False
 |.own _ _,_=>False
def I5(ρ:Nat→Option (Option Nat))(μ:Nat→Option Nat):List V→List V→Prop
 |[],ds=>ds = []
 |c :: cs,ds=>∃ d es,ds = d :: es∧wS ρ μ c d∧I5 ρ μ cs es
end
structure FitS (nt:Nat) (s' st:St) (ρ:Nat→Option (Option Nat)) (μ:Nat→Option Nat):Prop where
 inj:∀ r1 r2 r,ρ r1 = some (some r)→ρ r2 = some (some r)→r1 = r2
 minj:∀ r1 r2 r,μ r1 = some r→μ r2 = some r→r1 = r2
 par:∀ r,nt≤r→ρ r = none∨ρ r = some (some r)
 loc:∀ r r0,r < nt→ρ r = some (some r0)→r0 < nt
 noal:∀ r r0 c q o,ρ r = some (some r0)→s'.rc r c = .al q o→ρ q = some (some q)
 rn:∀ r,match ρ r with|none=>s'.rn r = none|some none=>s'.rn r = some 1|some (some r0)=>s'.rn r = st.rn r0
 rc:∀ r c,match ρ r with|none=>s'.rc r c = .undef|some none=>s'.rc r c = .undef∨(c = 0∧∃ k,s'.rc r c = .own k [])|some (some r0)=>s'.rc r c = .undef∨s'.rc r c = st.rc r0 c
 mp:∀ m,match μ m with|none=>s'.mp m = none|some m0=>s'.mp m = st.mp m0
 sl:∀ i,wS ρ μ (s'.sl i) (st.sl i)
def vd:Base:=.tmp [.slice none 0 0]
def dI(ρ:Nat→Option (Option Nat))(base:Nat→Base)(r:Nat):Base:=match ρ r with|some (some r0)=>base r0|some none=>vd|none=>base r
def IU(μ:Nat→Option Nat)(mb:Nat→Nat)(m:Nat):Nat:=match μ m with|some m0=>mb m0|none=>mb m
def Ia:V→Bool|.undef=>true|_=>false
def hM(s':St)(ρ:Nat→Option (Option Nat))(μ:Nat→Option Nat):Ix→Option Ix
 |.cell r c=>match ρ r with|some (some r0)=>if Ia (s'.rc r c)then none else some (.cell r0 c)|_=>none
 |.hdr r=>match ρ r with|some (some r0)=>some (.hdr r0)|_=>none
 |.map m=>match μ m with|some m0=>some (.map m0)|none=>none
 |.x=>some .x
def mG(s':St)(ρ:Nat→Option (Option Nat))(μ:Nat→Option Nat)(F:Ix→Fp)(i:Ix):Fp:=match hM s' ρ μ i with|some j=>F j|none=>Fp.none
theorem MV{w:World}{bs:Base}:j6 w bs none Fp.none:=by
 unfold j6;cases bs <;> exact fun _ _ h=>h
section
variable {nt:Nat} {s':St} {ρ:Nat→Option (Option Nat)} {μ:Nat→Option Nat}
theorem TA(h:∀ b o,tot (mG s' ρ μ F) b o→True){b o:Nat}(hb:tot (mG s' ρ μ F) b o):tot F b o:=by
 obtain⟨i,hi⟩:=hb
 cases hf:hM s' ρ μ i with
 |some j=>simp only[mG,hf]at hi;exact⟨_,hi⟩
 |none=>simp only[mG,hf]at hi;exact hi.elim
theorem FitS.place(H:FitS nt s' st ρ μ){p:Place}{r:Nat}(hr:ρ p.root = some (some r)){b o:Nat}(h:PlaceAt w base st ⟨r,p.step,p.off⟩ b o):PlaceAt w (dI ρ base) s' p b o:=by
 have hbase:dI ρ base p.root = base r:=by simp only[dI,hr]
 obtain⟨root,step,off⟩:=p
 cases step with
 |none=>simp only[PlaceAt]at h ⊢;rw[hbase];exact h
 |some q =>
  obtain⟨c,i,s⟩:=q
  simp only[PlaceAt]at h ⊢
  obtain⟨⟨n,h1,h2⟩,o',len,cap,h3,h4⟩:=h
  have hrn:=H.rn root
  simp only at hr
  rw[hr]at hrn
  refine⟨⟨n,by rw[hrn];exact h1,h2⟩,o',len,cap,?_,h4⟩
  simp only[hd]at h3 ⊢
  rw[hbase];exact h3
theorem FitS.own(H:FitS nt s' st ρ μ){r' r c:Nat}(hr:ρ r' = some (some r)){k:List Bool}{xs:List (List T)}(h:s'.rc r' c = .own k xs):st.rc r c = .own k xs:=by
 have:=H.rc r' c
 rw[hr]at this
 rcases this with h'|h'
 ·rw[h']at h;cases h
 ·rw[←h',h]
theorem EB{r' r c:Nat}(hr:ρ r' = some (some r)):hd w (dI ρ base) r' c = hd w base r c:=by
 simp only[hd,dI,hr]
mutual
theorem Cg(H:FitS nt s' st ρ μ){N N':Fp}(hN:∀ b o,N' b o→N b o):∀ (v' v:V) (x:Value),wS ρ μ v' v→RepS w N base mb st v x→RepS w N' (dI ρ base) (IU μ mb) s' v' x
 |.undef,_,_,_,_=>by simp only[RepS]
 |.t y,v,x,h,k=>by
  simp only[wS]at h;subst h
  simp only[RepS]at k ⊢
  exact k.less hN
 |.nils,v,x,h,k=>by simp only[wS]at h;subst h;simpa only[RepS]using k
 |.iptr cs,v,x,h,k=>by
  simp only[wS]at h;subst h
  simp only[RepS]at k ⊢
  obtain⟨b,o,h1,h2⟩:=k
  exact⟨b,o,h1,h2.less hN⟩
 |.own _ _,v,x,h,k=>by simp only[wS]at h
 |.al r' c,v,x,h,k=>by
  simp only[wS]at h
  split at h
  ·rename_i r hr
   subst h
   simp only[RepS,j5]at k ⊢
   obtain⟨⟨vs,h0⟩,⟨n,h1,h2⟩,h3,h4⟩:=k
   have hrn:=H.rn r'
   rw[hr]at hrn
   exact⟨⟨vs,by simp only[dI,hr];exact h0⟩,⟨n,by rw[hrn];exact h1,h2⟩,by rw[EB hr];exact h3,h4⟩
  ·exact h.elim
 |.mref m,v,x,h,k=>by
  simp only[wS]at h
  split at h
  ·rename_i m0 hm
   subst h
   simp only[RepS,IU,hm]at k ⊢
   exact k
  ·exact h.elim
 |.ptr p,v,x,h,k=>by
  simp only[wS]at h
  split at h
  ·rename_i r hr
   subst h
   simp only[RepS]at k ⊢
   obtain⟨b,o,h1,h2⟩:=k
   exact⟨b,o,H.place hr h1,h2⟩
  ·exact h.elim
 |.sub ⟨r',step,c⟩ lo hi,v,x,h,k=>by
  simp only[wS]at h
  split at h
  ·rename_i r hr
   subst h
   cases step with
   |none =>
    simp only[RepS,sY]at k ⊢
    intro k' xs hx
    obtain⟨h1,h2,A,cap,h3,h4⟩:=k k' xs (H.own hr hx)
    exact⟨h1,h2,A,cap,by rw[EB hr];exact h3,h4⟩
   |some q=>simp only[RepS]at k
  ·exact h.elim
 |.ref ⟨r',step,c⟩,v,x,h,k=>by
  simp only[wS]at h
  split at h
  ·rename_i r hr
   subst h
   cases step with
   |none =>
    simp only[RepS,j5]at k ⊢
    obtain⟨⟨n,h1,h2⟩,h3,h4⟩:=k
    have hrn:=H.rn r'
    rw[hr]at hrn
    exact⟨⟨n,by rw[hrn];exact h1,h2⟩,by rw[EB hr];exact h3,h4⟩
   |some q =>
    obtain⟨c',i,s⟩:=q
    simp only[RepS,j5]at k ⊢
    intro k' xs hx
    obtain⟨h1,h2,h3,b,o,h4,h5⟩:=k k' xs (H.own hr hx)
    exact⟨h1,h2,h3,b,o,H.place (p:=⟨r',some (c',i,s),c⟩) hr h4,h5⟩
  ·rename_i hr
   obtain⟨rfl,rfl,rfl⟩:=h
   simp only[RepS,j5]at k ⊢
   subst k
   have hrn:=H.rn r'
   rw[hr]at hrn
   exact⟨⟨1,hrn,by omega⟩,by simp[hd,dI,hr,vd],none,0,0,rfl⟩
  ·exact h.elim
 |.agg cs,v,x,h,k=>by
  simp only[wS]at h
  obtain⟨ds,rfl,h⟩:=h
  simp only[RepS]at k ⊢
  obtain⟨xs,h1,h2⟩:=k
  exact⟨xs,h1,pd H hN cs ds xs h h2⟩
 |.tup cs,v,x,h,k=>by
  simp only[wS]at h
  obtain⟨ds,rfl,h⟩:=h
  simp only[RepS]at k ⊢
  obtain⟨xs,h1,h2⟩:=k
  exact⟨xs,h1,pd H hN cs ds xs h h2⟩
theorem pd(H:FitS nt s' st ρ μ){N N':Fp}(hN:∀ b o,N' b o→N b o):∀ (cs ds:List V) (xs:List Value),I5 ρ μ cs ds→RepSs w N base mb st ds xs→RepSs w N' (dI ρ base) (IU μ mb) s' cs xs
 |[],ds,xs,h,k=>by
  simp only[I5]at h;subst h
  cases xs with
  |nil=>simp only[RepSs]
  |cons x xs=>simp only[RepSs]at k
 |c :: cs,ds,xs,h,k=>by
  simp only[I5]at h
  obtain⟨d,es,rfl,h1,h2⟩:=h
  cases xs with
  |nil=>simp only[RepSs]at k
  |cons x xs =>
   simp only[RepSs]at k ⊢
   exact⟨Cg H hN c d x h1 k.1,pd H hN cs es xs h2 k.2⟩
end
theorem QE(H:FitS nt s' st ρ μ){i j k:Ix}(hi:hM s' ρ μ i = some k)(hj:hM s' ρ μ j = some k):i = j:=by
 have key:∀ {r c k},hM s' ρ μ (.cell r c) = some k→∃ r0,ρ r = some (some r0)∧k = .cell r0 c:=fun{r c k} h=>by
  simp only[hM]at h
  split at h
  ·rename_i r0 hr
   split at h
   ·cases h
   ·cases h;exact⟨r0,hr,rfl⟩
  ·cases h
 have keyh:∀ {r k},hM s' ρ μ (.hdr r) = some k→∃ r0,ρ r = some (some r0)∧k = .hdr r0:=fun{r k} h=>by
  simp only[hM]at h
  split at h
  ·rename_i r0 hr;cases h;exact⟨r0,hr,rfl⟩
  ·cases h
 have keym:∀ {r k},hM s' ρ μ (.map r) = some k→∃ r0,μ r = some r0∧k = .map r0:=fun{r k} h=>by
  simp only[hM]at h
  split at h
  ·rename_i r0 hr;cases h;exact⟨r0,hr,rfl⟩
  ·cases h
 have keyx:∀ {k},hM s' ρ μ .x = some k→k = .x:=fun h=>by simp only[hM]at h;cases h;rfl
 cases i with
 |cell r c =>
  obtain⟨r0,h1,rfl⟩:=key hi
  cases j with
  |cell r2 c2=>obtain⟨r3,h2,h3⟩:=key hj;cases h3;rw[H.inj _ _ _ h1 h2]
  |hdr r2=>obtain⟨_,_,h3⟩:=keyh hj;cases h3
  |map r2=>obtain⟨_,_,h3⟩:=keym hj;cases h3
  |x=>cases keyx hj
 |hdr r =>
  obtain⟨r0,h1,rfl⟩:=keyh hi
  cases j with
  |cell r2 c2=>obtain⟨_,_,h3⟩:=key hj;cases h3
  |hdr r2=>obtain⟨_,h2,h3⟩:=keyh hj;cases h3;rw[H.inj _ _ _ h1 h2]
  |map r2=>obtain⟨_,_,h3⟩:=keym hj;cases h3
  |x=>cases keyx hj
 |map r =>
  obtain⟨r0,h1,rfl⟩:=keym hi
  cases j with
  |cell r2 c2=>obtain⟨_,_,h3⟩:=key hj;cases h3
  |hdr r2=>obtain⟨_,_,h3⟩:=keyh hj;cases h3
  |map r2=>obtain⟨_,h2,h3⟩:=keym hj;cases h3;rw[H.minj _ _ _ h1 h2]
  |x=>cases keyx hj
 |x =>
  obtain rfl:=keyx hi
  cases j with
  |cell r2 c2=>obtain⟨_,_,h3⟩:=key hj;cases h3
  |hdr r2=>obtain⟨_,_,h3⟩:=keyh hj;cases h3
  |map r2=>obtain⟨_,_,h3⟩:=keym hj;cases h3
  |x=>rfl
theorem JZ{N N':Fp}(hN:∀ b o,N' b o→N b o){h:Option Value}{x:V}{G:Fp}(k:CellOk w N h x G):CellOk w N' h x G:=by
 cases x with
 |t y=>obtain⟨⟨v,h1,h2⟩,h3⟩:=k;exact⟨⟨v,h1,h2.less hN⟩,h3⟩
 |_=>exact k
theorem Rel.fit(R:Rel g X st a w base mb F)(H:FitS g.nt s' st ρ μ):Rel g X s' a w (dI ρ base) (IU μ mb) (mG s' ρ μ F):=by
 have hN:∀ b o,tot (mG s' ρ μ F) b o→tot F b o:=fun b o h=>TA (fun _ _ _=>trivial) h
 refine{nt:=R.nt,par:=fun r hr=>?_,df:=R.df,fx:=R.fx,cell:=fun r c=>?_,hdr:=fun r=>?_,map:=fun m=>?_,dis:=fun i j hij=>?_,fresh:=fun b o h=>R.fresh b o (hN b o h),ex:=fun b o h=>R.ex b o (hN b o h),live:=fun r c hl=>?_,slots:=fun i=>?_,frame:=R.frame,npar:=fun r hr vs=>?_,al:=fun r c=>?_}
 ·rcases H.par r hr with h|h <;> simp only[dI,h] <;> exact R.par r hr
 ·have hrc:=H.rc r c
  cases hu:Ia (s'.rc r c)with
  |true =>
   have e:s'.rc r c = .undef:=by revert hu;cases s'.rc r c <;> simp[Ia]
   have:mG s' ρ μ F (.cell r c) = Fp.none:=by
    simp only[mG,hM,hu,if_true]
    cases ρ r with
    |none=>rfl
    |some q=>cases q <;> rfl
   rw[e,this]
   exact fun _ _ h=>h
  |false =>
   have hne:s'.rc r c≠.undef:=fun e=>by rw[e]at hu;cases hu
   cases hr:ρ r with
   |none=>rw[hr]at hrc;exact absurd hrc hne
   |some q =>
    cases q with
    |none =>
     rw[hr]at hrc
     rcases hrc with h|⟨rfl,k,h⟩
     ·exact absurd h hne
     ·have e1:mG s' ρ μ F (.cell r 0) = Fp.none:=by simp only[mG,hM,hr]
      have e2:hd w (dI ρ base) r 0 = some (.slice none 0 0):=by simp[hd,dI,hr,vd]
      rw[e1,e2,h]
      exact⟨_,rfl,ns w k⟩
    |some r0 =>
     rw[hr]at hrc
     have h:=hrc.resolve_left hne
     have e1:mG s' ρ μ F (.cell r c) = F (.cell r0 c):=by simp only[mG,hM,hr,hu,Bool.false_eq_true,if_false]
     rw[e1,EB hr,h]
     exact JZ hN (R.cell r0 c)
 ·have hrn:=H.rn r
  cases hr:ρ r with
  |none =>
   rw[hr]at hrn
   have e1:mG s' ρ μ F (.hdr r) = Fp.none:=by simp only[mG,hM,hr]
   simp only at hrn
   rw[hrn,e1];exact MV
  |some q =>
   cases q with
   |none =>
    rw[hr]at hrn
    have e1:mG s' ρ μ F (.hdr r) = Fp.none:=by simp only[mG,hM,hr]
    have e2:dI ρ base r = vd:=by simp only[dI,hr]
    simp only at hrn
    rw[hrn,e1,e2]
    exact fun _ _ h=>h
   |some r0 =>
    rw[hr]at hrn
    have e1:mG s' ρ μ F (.hdr r) = F (.hdr r0):=by simp only[mG,hM,hr]
    have e2:dI ρ base r = base r0:=by simp only[dI,hr]
    simp only at hrn
    rw[hrn,e1,e2];exact R.hdr r0
 ·have hmp:=H.mp m
  cases hm:μ m with
  |none =>
   rw[hm]at hmp
   have e1:mG s' ρ μ F (.map m) = Fp.none:=by simp only[mG,hM,hm]
   simp only at hmp
   rw[hmp,e1];exact fun _ _ h=>h
  |some m0 =>
   rw[hm]at hmp
   have e1:mG s' ρ μ F (.map m) = F (.map m0):=by simp only[mG,hM,hm]
   have e2:IU μ mb m = mb m0:=by simp only[IU,hm]
   simp only at hmp
   rw[hmp,e1,e2];exact R.map m0
 ·intro b o h1 h2
  cases hi:hM s' ρ μ i with
  |none=>simp only[mG,hi]at h1;exact h1
  |some i' =>
   cases hj:hM s' ρ μ j with
   |none=>simp only[mG,hj]at h2;exact h2
   |some j' =>
    simp only[mG,hi]at h1
    simp only[mG,hj]at h2
    refine R.dis i' j' (fun e=>hij ?_) b o h1 h2
    subst e
    exact QE H hi hj
 ·have hrn:=H.rn r
  have hrc:=H.rc r c
  cases hr:ρ r with
  |none=>rw[hr]at hrc;exact hrc
  |some q =>
   cases q with
   |none =>
    rw[hr]at hrc hrn
    rcases hrc with h|⟨rfl,_⟩
    ·exact h
    ·exact absurd (hl 1 hrn) (by omega)
   |some r0 =>
    rw[hr]at hrc hrn
    simp only at hrn
    rcases hrc with h|h
    ·exact h
    ·rw[h];exact R.live r0 c fun n hn=>hl n (by rw[hrn];exact hn)
 ·exact Cg H hN _ _ _ (H.sl i) (R.slots i)
 ·intro h
  cases hr0:ρ r with
  |none=>simp only[dI,hr0]at h;exact R.npar r hr vs h
  |some q =>
   cases q with
   |none=>simp only[dI,hr0,vd]at h;cases h
   |some r0=>simp only[dI,hr0]at h;exact R.npar r0 (H.loc r r0 hr hr0) vs h
 ·cases hx:s'.rc r c with
  |al q o =>
   have hrc:=H.rc r c
   cases hr:ρ r with
   |none=>rw[hr]at hrc;rw[hx]at hrc;cases hrc
   |some t =>
    cases t with
    |none =>
     rw[hr]at hrc
     rcases hrc with h|⟨_,k,h⟩ <;> rw[hx]at h <;> cases h
    |some r0 =>
     rw[hr]at hrc
     have h:=hrc.resolve_left (by rw[hx];simp)
     have:=R.al r0 c
     rw[←h,hx]at this
     obtain⟨vs,v,k1,k2,k3,k4⟩:=this
     have hq:=H.noal r r0 c q o hr hx
     exact⟨vs,v,by simp only[dI,hq];exact k1,k2,by rw[EB hr];exact k3,k4⟩
  |_=>trivial
end
end Go.Tm
namespace Go.Tm
variable {P:Program}
def cO{α:Type}:List (Nat×α)→Nat→Option α
 |[],_=>none
 |(i,x) :: l,j=>match Nat.beq i j with|true=>some x|false=>cO l j
structure HD where
 sl:List (Nat×V)
 rt:List (Nat×List V)
 mp:List (Nat×List Value)
def orU:Option V→V|some x=>x|none=>.undef
def HD.st(H:HD):St where
 sl i:=orU (cO H.sl i)
 rc r c:=match cO H.rt r with|some cs=>orU cs[c]?|none=>.undef
 rn r:=match cO H.rt r with|some cs=>some cs.length|none=>none
 mp:=cO H.mp
def rho:List (Nat×List V)→List (Option Nat)→Nat→Option (Option Nat)
 |(r,_) :: rs,t :: ts,q=>match Nat.beq r q with|true=>some t|false=>rho rs ts q
 |_,_,_=>none
def mu:List (Nat×List Value)→List Nat→Nat→Option Nat
 |(r,_) :: rs,t :: ts,q=>match Nat.beq r q with|true=>some t|false=>mu rs ts q
 |_,_,_=>none
def Vd(r:Nat):List (Option Nat)→Bool
 |[]=>false
 |some q :: ts=>Nat.beq q r||Vd r ts
 |none :: ts=>Vd r ts
def XW(r:Nat):List Nat→Bool
 |[]=>false
 |q :: ts=>Nat.beq q r||XW r ts
def okT(nt:Nat):List (Nat×List V)→List (Option Nat)→Bool
 |[],[]=>true
 |(r,_) :: rs,some t :: ts=>((Nat.blt r nt && Nat.blt t nt)||Nat.beq r t) && !Vd t ts && okT nt rs ts
 |(r,_) :: rs,none :: ts=>Nat.blt r nt && okT nt rs ts
 |_,_=>false
def okM:List (Nat×List Value)→List Nat→Bool
 |[],[]=>true
 |(r,_) :: rs,t :: ts=>!XW t ts && okM rs ts
 |_,_=>false
def Fx(ρ:Nat→Option (Option Nat)):List V→Bool
 |[]=>true
 |.al q _ :: cs=>(match ρ q with|some (some t)=>Nat.beq t q|_=>false) && Fx ρ cs
 |_ :: cs=>Fx ρ cs
def Re(ρ:Nat→Option (Option Nat)):List (Nat×List V)→Bool
 |[]=>true
 |(_,cs) :: rs=>Fx ρ cs && Re ρ rs
def WN(ρ:Nat→Option (Option Nat))(μ:Nat→Option Nat)(st:St):List (Nat×V)→Prop
 |[]=>True
 |(i,v) :: l=>wS ρ μ v (st.sl i)∧WN ρ μ st l
def RV(st:St)(r0:Nat):Nat→List V→Prop
 |_,[]=>True
 |o,c :: cs=>(match c with|.undef=>True|c=>st.rc r0 o = c)∧RV st r0 (o+1) cs
def FB(st:St):List (Nat×List V)→List (Option Nat)→Prop
 |[],_=>True
 |(_,cs) :: rs,some r0 :: ts=>(st.rn r0 = some cs.length∧RV st r0 0 cs)∧FB st rs ts
 |(_,cs) :: rs,none :: ts=>(match cs with|[.own _ []]=>True|_=>False)∧FB st rs ts
 |_ :: _,[]=>False
def WO(st:St):List (Nat×List Value)→List Nat→Prop
 |[],_=>True
 |(_,ks) :: ms,m0 :: ts=>st.mp m0 = some ks∧WO st ms ts
 |_ :: _,[]=>False
structure Fits (nt:Nat) (H:HD) (tg:List (Option Nat)) (mm:List Nat) (st:St):Prop where
 ok:(okT nt H.rt tg && (okM H.mp mm && Re (rho H.rt tg) H.rt)) = true
 sl:WN (rho H.rt tg) (mu H.mp mm) st H.sl
 rt:FB st H.rt tg
 mp:WO st H.mp mm
theorem gV{a b:Nat}(h:Nat.beq a b = true):a = b:=Nat.eq_of_beq_eq_true h
theorem KF:∀ {rs:List (Nat×List V)} {ts:List (Option Nat)} {q r:Nat},rho rs ts q = some (some r)→Vd r ts = true
 |[],_,_,_,h=>by simp[rho]at h
 |_ :: _,[],_,_,h=>by simp[rho]at h
 |(r',cs) :: rs,t :: ts,q,r,h=>by
  simp only[rho]at h
  split at h
  ·cases h;simp[Vd]
  ·have:=KF h
   cases t <;> simp[Vd,this]
theorem Od{nt:Nat}:∀ {rs:List (Nat×List V)} {ts:List (Option Nat)},okT nt rs ts = true→∀ {r1 r2 r:Nat},rho rs ts r1 = some (some r)→rho rs ts r2 = some (some r)→r1 = r2
 |[],_,_,_,_,_,h,_=>by simp[rho]at h
 |_ :: _,[],_,_,_,_,h,_=>by simp[rho]at h
 |(r',cs) :: rs,t :: ts,hok,r1,r2,r,h1,h2=>by
  have hok':okT nt rs ts = true:=by cases t <;> simp[okT]at hok <;> simp[hok]
  have hno:∀ {q r},t = some r→rho rs ts q = some (some r)→False:=fun ht hq=>by
   subst ht
   simp[okT]at hok
   rw[KF hq]at hok
   simp at hok
  simp only[rho]at h1 h2
  split at h1
  ·rename_i e1
   split at h2
   ·rename_i e2;rw[←gV e1,←gV e2]
   ·cases h1;exact(hno rfl h2).elim
  ·split at h2
   ·cases h2;exact(hno rfl h1).elim
   ·exact Od hok' h1 h2
theorem Oa{nt:Nat}:∀ {rs:List (Nat×List V)} {ts:List (Option Nat)},okT nt rs ts = true→∀ {r:Nat},nt≤r→rho rs ts r = none∨rho rs ts r = some (some r)
 |[],_,_,_,_=>.inl (by simp[rho])
 |_ :: _,[],_,_,_=>.inl (by simp[rho])
 |(r',cs) :: rs,t :: ts,hok,r,hr=>by
  have hok':okT nt rs ts = true:=by cases t <;> simp[okT]at hok <;> simp[hok]
  simp only[rho]
  split
  ·rename_i e
   have e:=gV e;subst e
   cases t with
   |none=>simp[okT,Nat.blt_eq]at hok;omega
   |some t=>simp[okT,Nat.blt_eq]at hok;right;rcases hok.1.1 with h|h
            ·omega
            ·rw[h]
  ·exact Oa hok' hr
theorem Oc{nt:Nat}:∀ {rs:List (Nat×List V)} {ts:List (Option Nat)},okT nt rs ts = true→∀ {r r0:Nat},r < nt→rho rs ts r = some (some r0)→r0 < nt
 |[],_,_,_,_,_,h=>by simp[rho]at h
 |_ :: _,[],_,_,_,_,h=>by simp[rho]at h
 |(r',cs) :: rs,t :: ts,hok,r,r0,hr,h=>by
  have hok':okT nt rs ts = true:=by cases t <;> simp[okT]at hok <;> simp[hok]
  simp only[rho]at h
  split at h
  ·rename_i e
   have e:=gV e;subst e
   cases t with
   |none=>cases h
   |some t =>
    cases h
    simp[okT,Nat.blt_eq]at hok
    rcases hok.1.1 with h|h
    ·exact h.2
    ·omega
  ·exact Oc hok' hr h
theorem K0{ρ:Nat→Option (Option Nat)}:∀ {cs:List V} {c q o:Nat},Fx ρ cs = true→orU cs[c]? = .al q o→ρ q = some (some q)
 |[],c,q,o,_,h=>by simp[orU]at h
 |x :: cs,c,q,o,hok,h=>by
  have hrest:Fx ρ cs = true:=by cases x <;> first|exact hok|(simp only[Fx,Bool.and_eq_true]at hok;exact hok.2)
  cases c with
  |zero =>
   simp[orU]at h;subst h
   simp only[Fx,Bool.and_eq_true]at hok
   have:=hok.1
   split at this
   ·rename_i t ht;rw[ht,gV this]
   ·cases this
  |succ c=>exact K0 hrest (by simpa using h)
theorem KZ{ρ:Nat→Option (Option Nat)}:∀ {rs:List (Nat×List V)} {r c q o:Nat} {cs:List V},Re ρ rs = true→cO rs r = some cs→orU cs[c]? = .al q o→ρ q = some (some q)
 |[],_,_,_,_,_,_,h,_=>by simp[cO]at h
 |(i,x) :: rs,r,c,q,o,cs,hok,h,hc=>by
  simp only[Re,Bool.and_eq_true]at hok
  simp only[cO]at h
  split at h
  ·cases h;exact K0 hok.1 hc
  ·exact KZ hok.2 h hc
theorem H8:∀ {rs:List (Nat×List Value)} {ts:List Nat} {q r:Nat},mu rs ts q = some r→XW r ts = true
 |[],_,_,_,h=>by simp[mu]at h
 |_ :: _,[],_,_,h=>by simp[mu]at h
 |(r',cs) :: rs,t :: ts,q,r,h=>by
  simp only[mu]at h
  split at h
  ·cases h;simp[XW]
  ·simp[XW,H8 h]
theorem U0:∀ {rs:List (Nat×List Value)} {ts:List Nat},okM rs ts = true→∀ {r1 r2 r:Nat},mu rs ts r1 = some r→mu rs ts r2 = some r→r1 = r2
 |[],_,_,_,_,_,h,_=>by simp[mu]at h
 |_ :: _,[],_,_,_,_,h,_=>by simp[mu]at h
 |(r',cs) :: rs,t :: ts,hok,r1,r2,r,h1,h2=>by
  simp[okM]at hok
  simp only[mu]at h1 h2
  split at h1
  ·rename_i e1
   split at h2
   ·rename_i e2;rw[←gV e1,←gV e2]
   ·cases h1;rw[H8 h2]at hok;simp at hok
  ·split at h2
   ·cases h2;rw[H8 h1]at hok;simp at hok
   ·exact U0 hok.2 h1 h2
theorem Lo{st:St}{r0:Nat}:∀ {cs:List V} {o c:Nat},RV st r0 o cs→orU cs[c]? = .undef∨orU cs[c]? = st.rc r0 (o+c)
 |[],_,_,_=>.inl (by simp[orU])
 |x :: cs,o,0,h=>by
  obtain⟨h,_⟩:=h
  simp only[List.getElem?_cons_zero,orU,Nat.add_zero]
  cases x <;> first|exact .inl rfl|exact .inr h.symm
 |x :: cs,o,c+1,h=>by
  have:=Lo (c:=c) h.2
  rw[Nat.add_assoc,Nat.add_comm 1 c]at this
  simpa using this
theorem Fits.sound{nt:Nat}{H:HD}{tg:List (Option Nat)}{mm:List Nat}{st:St}(h:Fits nt H tg mm st):FitS nt H.st st (rho H.rt tg) (mu H.mp mm):=by
 obtain⟨hok,hsl,hrt,hmp⟩:=h
 rw[Bool.and_eq_true_iff,Bool.and_eq_true_iff]at hok
 refine⟨fun r1 r2 r=>Od hok.1,fun r1 r2 r=>U0 hok.2.1,fun r=>Oa hok.1,fun r r0 hr h=>Oc hok.1 hr h,fun r r0 c q o h hx=>by
  have hl:∃ cs,cO H.rt r = some cs:=by
   simp only[HD.st]at hx
   split at hx
   ·exact⟨_,by assumption⟩
   ·cases hx
  obtain⟨cs,hl⟩:=hl
  simp only[HD.st,hl]at hx
  exact KZ hok.2.2 hl hx,fun r=>?_,fun r c=>?_,fun m=>?_,fun i=>?_⟩
 ·have key:∀ (rs:List (Nat×List V)) (ts:List (Option Nat)),okT nt rs ts = true→FB st rs ts→match rho rs ts r with|none=>cO rs r = none|some none=>∃ cs,cO rs r = some cs∧cs.length = 1|some (some r0)=>∃ cs,cO rs r = some cs∧st.rn r0 = some cs.length:=by
   intro rs
   induction rs with
   |nil=>intro ts _ _;simp[rho,cO]
   |cons p rs ih =>
    obtain⟨r',cs⟩:=p
    intro ts hok h
    cases ts with
    |nil=>simp[okT]at hok
    |cons t ts =>
     have hok':okT nt rs ts = true:=by cases t <;> simp[okT]at hok <;> simp[hok]
     have h':FB st rs ts:=by cases t <;> exact h.2
     simp only[rho,cO]
     cases Nat.beq r' r with
     |true =>
      cases t with
      |none =>
       refine⟨cs,rfl,?_⟩
       have h0:=h.1
       split at h0
       ·rfl
       ·exact h0.elim
      |some r0=>exact⟨cs,rfl,h.1.1⟩
     |false=>exact ih ts hok' h'
  have:=key H.rt tg hok.1 hrt
  simp only[HD.st]
  revert this
  generalize rho H.rt tg r = t
  cases t with
  |none=>intro h;rw[h]
  |some t=>cases t with
   |none=>rintro⟨cs,h1,h2⟩;rw[h1];simp[h2]
   |some r0=>rintro⟨cs,h1,h2⟩;rw[h1];exact h2.symm
 ·have key:∀ (rs:List (Nat×List V)) (ts:List (Option Nat)),okT nt rs ts = true→FB st rs ts→match rho rs ts r with|none=>cO rs r = none|some none=>∃ k,cO rs r = some [.own k []]|some (some r0)=>∃ cs,cO rs r = some cs∧RV st r0 0 cs:=by
   intro rs
   induction rs with
   |nil=>intro ts _ _;simp[rho,cO]
   |cons p rs ih =>
    obtain⟨r',cs⟩:=p
    intro ts hok h
    cases ts with
    |nil=>simp[okT]at hok
    |cons t ts =>
     have hok':okT nt rs ts = true:=by cases t <;> simp[okT]at hok <;> simp[hok]
     have h':FB st rs ts:=by cases t <;> exact h.2
     simp only[rho,cO]
     cases Nat.beq r' r with
     |true =>
      cases t with
      |none =>
       have h0:=h.1
       split at h0
       ·exact⟨_,rfl⟩
       ·exact h0.elim
      |some r0=>exact⟨cs,rfl,h.1.2⟩
     |false=>exact ih ts hok' h'
  have:=key H.rt tg hok.1 hrt
  simp only[HD.st]
  revert this
  generalize rho H.rt tg r = t
  cases t with
  |none=>intro h;rw[h]
  |some t=>cases t with
   |none =>
    rintro⟨k,h1⟩;rw[h1]
    cases c with
    |zero=>exact .inr ⟨rfl,k,rfl⟩
    |succ c=>exact .inl (by simp[orU])
   |some r0 =>
    rintro⟨cs,h1,h2⟩;rw[h1]
    have:=Lo (c:=c) h2
    rwa [Nat.zero_add]at this
 ·have key:∀ (rs:List (Nat×List Value)) (ts:List Nat),okM rs ts = true→WO st rs ts→match mu rs ts m with|none=>cO rs m = none|some m0=>cO rs m = st.mp m0:=by
   intro rs
   induction rs with
   |nil=>intro ts _ _;simp[mu,cO]
   |cons p rs ih =>
    obtain⟨r',cs⟩:=p
    intro ts hok h
    cases ts with
    |nil=>simp[okM]at hok
    |cons t ts =>
     simp[okM]at hok
     simp only[mu,cO]
     cases Nat.beq r' m with
     |true=>exact h.1.symm
     |false=>exact ih ts hok.2 h.2
  have:=key H.mp mm hok.2.1 hmp
  simp only[HD.st]
  exact this
 ·have key:∀ (l:List (Nat×V)),WN (rho H.rt tg) (mu H.mp mm) st l→wS (rho H.rt tg) (mu H.mp mm) (orU (cO l i)) (st.sl i):=by
   intro l
   induction l with
   |nil=>intro _;simp[cO,orU,wS]
   |cons p l ih =>
    obtain⟨j,v⟩:=p
    intro h
    simp only[cO]
    split
    ·rename_i e;have e:=gV e;subst e;exact h.1
    ·exact ih h.2
  exact key H.sl hsl
theorem Run.fit{nt:Nat}{c:Code}{st:St}{Q:Exit→St→Prop}(H:HD)(tg:List (Option Nat))(mm:List Nat)(hf:Fits nt H tg mm st)(h:Run P nt c H.st Q):Run P nt c st Q:=fun g hg a w base mb F R=>by
 subst hg
 exact h g rfl a w _ _ _ (R.fit hf.sound)
theorem Loop.fit{nt:Nat}{c:Code}{st:St}{Q:Exit→St→Prop}(H:HD)(tg:List (Option Nat))(mm:List Nat)(hf:Fits nt H tg mm st)(h:Loop P nt c H.st Q):Loop P nt c st Q:=fun g hg a w base mb F R=>by
 subst hg
 exact h g rfl a w _ _ _ (R.fit hf.sound)
theorem Run.seqk{nt:Nat}{st:St}{Q:Exit→St→Prop}{x y:Code}(h:Run P nt x st fun e s=>match e with|.normal=>Run P nt y s Q|e=>Q e s):Run P nt (.seq x y) st Q :=
 Run.seq h (fun s h=>h) (fun e s he h=>by cases e <;> first|exact absurd rfl he|exact h)
end Go.Tm
namespace Go.Tm
variable {P:Program}
inductive Acc where
 |sl (d:Nat) (v:V)
 |rc (r c:Nat)
 |mp (m:Nat)
 |gn (r:Nat)
 |w (u:Wr)
 |rh (r c:Nat) (v:V)
def GI{α:Type}(x:Acc):Option (α×List Acc×St)→Option (α×List Acc×St)
 |some (a,l,s)=>some (a,x :: l,s)
 |none=>none
def Cmd.tr{α:Type}:Cmd α→St→Option (α×List Acc×St)
 |.ret a,s=>some (a,[],s)
 |.fail,_=>none
 |.sl d k,s=>GI (.sl d (s.sl d)) ((k (s.sl d)).tr s)
 |.rc r c k,s=>GI (.rc r c) ((k (s.rc r c)).tr s)
 |.mp m k,s=>GI (.mp m) ((k (s.mp m)).tr s)
 |.gn r k,s=>GI (.gn r) ((k (s.rn r)).tr s)
 |.wr w k,s=>GI (.w w) (k.tr (w.ap s))
 |.rh r c k,s=>GI (.rh r c (iJ (s.rc r c))) ((k (iJ (s.rc r c))).tr s)
theorem bg{α:Type}{x:Acc}{o:Option (α×List Acc×St)}{a:α}{l:List Acc}{s:St}(h:GI x o = some (a,l,s)):∃ l',l = x :: l'∧o = some (a,l',s):=by
 cases o with
 |none=>cases h
 |some q=>obtain⟨a',l',s'⟩:=q;simp only[GI,Option.some.injEq,Prod.mk.injEq]at h;obtain⟨rfl,rfl,rfl⟩:=h;exact⟨l',rfl,rfl⟩
theorem Cmd.run_of_tr{α:Type}:∀ {c:Cmd α} {s s':St} {a:α} {l:List Acc},c.tr s = some (a,l,s')→c.run s = some (a,s')
 |.ret a,s,s',b,l,h=>by simp only[Cmd.tr,Option.some.injEq,Prod.mk.injEq]at h;obtain⟨rfl,_,rfl⟩:=h;rfl
 |.fail,s,s',b,l,h=>by cases h
 |.sl d k,s,s',b,l,h=>by obtain⟨l',_,h⟩:=bg h;exact Cmd.run_of_tr (c:=k (s.sl d)) h
 |.rc r c k,s,s',b,l,h=>by obtain⟨l',_,h⟩:=bg h;exact Cmd.run_of_tr (c:=k (s.rc r c)) h
 |.mp m k,s,s',b,l,h=>by obtain⟨l',_,h⟩:=bg h;exact Cmd.run_of_tr (c:=k (s.mp m)) h
 |.gn r k,s,s',b,l,h=>by obtain⟨l',_,h⟩:=bg h;exact Cmd.run_of_tr (c:=k (s.rn r)) h
 |.wr w k,s,s',b,l,h=>by obtain⟨l',_,h⟩:=bg h;exact Cmd.run_of_tr (c:=k) h
 |.rh r c k,s,s',b,l,h=>by obtain⟨l',_,h⟩:=bg h;exact Cmd.run_of_tr (c:=k (iJ (s.rc r c))) h
mutual
def safe(k:Kl):V→Bool
 |.ref p=>!k.f true p
 |.al r c=>!k.f true ⟨r,none,c⟩
 |.sub p _ _=>!k.f true p.part
 |.ptr p=>!k.f false p
 |.agg cs=>Fw k cs
 |.tup vs=>Fw k vs
 |.mref r=>!k.m r
 |.undef=>false
 |.t _=>true
 |.own _ _=>true
 |.nils=>true
 |.iptr _=>true
def Fw(k:Kl):List V→Bool
 |[]=>true
 |c :: cs=>safe k c && Fw k cs
end
mutual
theorem pT{k:Kl}:∀ {v:V},safe k v = true→v.pois k = v
 |.ref p,h=>by simp only[safe,Bool.not_eq_true']at h;simp only[V.pois,h]
 |.al r c,h=>by simp only[safe,Bool.not_eq_true']at h;simp only[V.pois,h]
 |.sub p _ _,h=>by simp only[safe,Bool.not_eq_true']at h;simp only[V.pois,h]
 |.ptr p,h=>by simp only[safe,Bool.not_eq_true']at h;simp only[V.pois,h]
 |.mref p,h=>by simp only[safe,Bool.not_eq_true']at h;simp only[V.pois,h]
 |.agg cs,h=>by simp only[safe]at h;simp only[V.pois,r9 h]
 |.tup cs,h=>by simp only[safe]at h;simp only[V.pois,r9 h]
 |.undef,h=>by simp[safe]at h
 |.t _,_=>rfl
 |.own _ _,_=>rfl
 |.nils,_=>rfl
 |.iptr _,_=>rfl
theorem r9{k:Kl}:∀ {vs:List V},Fw k vs = true→V.poisL k vs = vs
 |[],_=>rfl
 |c :: cs,h=>by simp only[Fw,Bool.and_eq_true_iff]at h;simp only[V.poisL,pT h.1,r9 h.2]
end
mutual
theorem FV{k:Kl}:∀ {v:V},safe k (v.pois k) = true→v.pois k = v
 |.ref p,h=>by simp only[V.pois]at h ⊢;cases hk:k.f true p <;> simp only[hk]at h ⊢;simp[safe]at h
 |.al r c,h=>by simp only[V.pois]at h ⊢;cases hk:k.f true ⟨r,none,c⟩ <;> simp only[hk]at h ⊢;simp[safe]at h
 |.sub p _ _,h=>by simp only[V.pois]at h ⊢;cases hk:k.f true p.part <;> simp only[hk]at h ⊢;simp[safe]at h
 |.ptr p,h=>by simp only[V.pois]at h ⊢;cases hk:k.f false p <;> simp only[hk]at h ⊢;simp[safe]at h
 |.mref m,h=>by simp only[V.pois]at h ⊢;cases hk:k.m m <;> simp only[hk]at h ⊢;simp[safe]at h
 |.agg cs,h=>by simp only[V.pois,safe]at h ⊢;rw[su h]
 |.tup cs,h=>by simp only[V.pois,safe]at h ⊢;rw[su h]
 |.undef,h=>rfl
 |.t _,_=>rfl
 |.own _ _,_=>rfl
 |.nils,_=>rfl
 |.iptr _,_=>rfl
theorem su{k:Kl}:∀ {vs:List V},Fw k (V.poisL k vs) = true→V.poisL k vs = vs
 |[],_=>rfl
 |c :: cs,h=>by simp only[V.poisL,Fw,Bool.and_eq_true_iff]at h;simp only[V.poisL,FV h.1,su h.2]
end
mutual
theorem FW(k k':Kl):∀ (v:V),(v.pois k).pois k' = (v.pois k').pois k
 |.ref p=>by simp only[V.pois];cases h:k.f true p <;> cases h':k'.f true p <;> simp only[V.pois,h,h']
 |.al r c=>by simp only[V.pois];cases h:k.f true ⟨r,none,c⟩ <;> cases h':k'.f true ⟨r,none,c⟩ <;> simp only[V.pois,h,h']
 |.sub p _ _=>by simp only[V.pois];cases h:k.f true p.part <;> cases h':k'.f true p.part <;> simp only[V.pois,h,h']
 |.ptr p=>by simp only[V.pois];cases h:k.f false p <;> cases h':k'.f false p <;> simp only[V.pois,h,h']
 |.mref m=>by simp only[V.pois];cases h:k.m m <;> cases h':k'.m m <;> simp only[V.pois,h,h']
 |.agg cs=>by simp only[V.pois,sv k k' cs]
 |.tup cs=>by simp only[V.pois,sv k k' cs]
 |.undef=>rfl
 |.t _=>rfl
 |.own _ _=>rfl
 |.nils=>rfl
 |.iptr _=>rfl
theorem sv(k k':Kl):∀ (vs:List V),V.poisL k' (V.poisL k vs) = V.poisL k (V.poisL k' vs)
 |[]=>rfl
 |c :: cs=>by simp only[V.poisL,FW k k' c,sv k k' cs]
end
def lB:Wr→Acc→Bool
 |.sl d _,.sl d' _=>!Nat.beq d d'
 |.sl d _,.w (.sl d' _)=>!Nat.beq d d'
 |.sl _ x,.w (.kl k)=>safe k x
 |.kl k,.sl _ v=>safe k v
 |.kl k,.w (.sl _ x)=>safe k x
 |.rc r c _,.rc r' c'=>!(Nat.beq r r' && Nat.beq c c')
 |.rc r c _,.w (.rc r' c' _)=>!(Nat.beq r r' && Nat.beq c c')
 |.rc r _ _,.w (.rn r' _)=>!Nat.beq r r'
 |.rn r _,.gn r'=>!Nat.beq r r'
 |.rn r _,.rc r' _=>!Nat.beq r r'
 |.rn r _,.w (.rc r' _ _)=>!Nat.beq r r'
 |.rn r _,.w (.rn r' _)=>!Nat.beq r r'
 |.mp m _,.mp m'=>!Nat.beq m m'
 |.mp m _,.w (.mp m' _)=>!Nat.beq m m'
 |.rc r c _,.rh r' c' _=>!(Nat.beq r r' && Nat.beq c c')
 |.rn r _,.rh r' _ _=>!Nat.beq r r'
 |_,_=>true
def I1:Wr→Acc→Bool
 |.rc _ _ (.own _ _),.rh _ _ (.own _ _)=>true
 |u,x=>lB u x
theorem Fk{a b:Nat}(h:a≠b):Nat.beq a b = false:=by
 cases hb:Nat.beq a b with
 |false=>rfl
 |true=>exact absurd (Nat.eq_of_beq_eq_true hb) h
theorem gL{a b:Nat}(h:(!Nat.beq a b) = true):a≠b:=fun e=>by subst e;simp at h
theorem CA{α:Type}(f:Nat→α){i j:Nat}(h:i≠j)(x y:α):upd (upd f i x) j y = upd (upd f j y) i x:=by
 funext k
 by_cases h1:k = i
 ·subst h1;rw[bH _ _ h,ba,ba]
 ·by_cases h2:k = j
  ·subst h2;rw[ba,bH _ _ h1,ba]
  ·rw[bH _ _ h2,bH _ _ h1,bH _ _ h1,bH _ _ h2]
theorem gU{α:Type}(f:Nat→Nat→α)(i k:Nat)(x:α)(j l:Nat):HV f i k x j l = if j = i∧l = k then x else f j l:=by
 unfold HV
 by_cases h1:j = i
 ·by_cases h2:l = k
  ·subst h1;subst h2;simp
  ·subst h1
   have:Nat.beq l k = false:=Fk h2
   simp[this,h2]
 ·have:Nat.beq j i = false:=Fk h1
  simp[this,h1]
theorem NZ{u v:Wr}(h:lB u (.w v) = true)(s:St):u.ap (v.ap s) = v.ap (u.ap s):=by
 cases u with
 |sl d x =>
  cases v with
  |sl d' x'=>simp only[Wr.ap];rw[CA _ (gL h).symm]
  |kl k =>
   simp only[Wr.ap]
   have:upd (fun i=>(s.sl i).pois k) d x = fun i=>(upd s.sl d x i).pois k:=by
    funext i
    by_cases hi:i = d
    ·subst hi;rw[ba,ba,pT h]
    ·rw[bH _ _ hi,bH _ _ hi]
   rw[this]
  |rc r c y=>rfl
  |rn r n=>rfl
  |mp m ks=>rfl
 |kl k =>
  cases v with
  |sl d x =>
   simp only[Wr.ap]
   have:upd (fun i=>(s.sl i).pois k) d x = fun i=>(upd s.sl d x i).pois k:=by
    funext i
    by_cases hi:i = d
    ·subst hi;rw[ba,ba,pT h]
    ·rw[bH _ _ hi,bH _ _ hi]
   rw[this]
  |kl k'=>simp only[Wr.ap];congr 1;funext i;exact FW _ _ _
  |rc r c y=>rfl
  |rn r n=>rfl
  |mp m ks=>rfl
 |rc r c x =>
  cases v with
  |sl d x=>rfl
  |kl k'=>rfl
  |rc r' c' y =>
   simp only[Wr.ap]
   congr 1;funext j l
   rw[gU,gU,gU,gU]
   simp only[lB]at h
   by_cases h1:j = r∧l = c
   ·obtain⟨rfl,rfl⟩:=h1
    have:¬(j = r'∧l = c'):=fun e=>by obtain⟨rfl,rfl⟩:=e;simp at h
    simp[this]
   ·simp[h1]
  |rn r' n =>
   have hne:=gL h
   simp only[Wr.ap]
   congr 1;funext j l
   rw[gU]
   by_cases h1:j = r'
   ·subst h1;have:¬(j = r∧l = c):=fun e=>hne e.1.symm
    simp[this]
   ·have:Nat.beq j r' = false:=Fk h1
    simp only[this,gU]
  |mp m ks=>rfl
 |rn r n =>
  cases v with
  |sl d x=>rfl
  |kl k'=>rfl
  |rc r' c y =>
   have hne:=gL h
   simp only[Wr.ap]
   congr 1;funext j l
   rw[gU]
   by_cases h1:j = r
   ·subst h1;have:¬(j = r'∧l = c):=fun e=>hne e.1
    simp[this,gU]
   ·have:Nat.beq j r = false:=Fk h1
    simp only[this,gU]
  |rn r' n' =>
   have hne:=gL h
   simp only[Wr.ap]
   rw[CA _ hne.symm]
   congr 1;funext j l
   cases h1:Nat.beq j r <;> cases h2:Nat.beq j r' <;> rfl
  |mp m ks=>rfl
 |mp m ks =>
  cases v with
  |sl d x=>rfl
  |kl k'=>rfl
  |rc r' c y=>rfl
  |rn r' n'=>rfl
  |mp m' ks'=>simp only[Wr.ap];rw[CA _ (gL h).symm]
theorem aaZ{u:Wr}{s:St}{d:Nat}(h:lB u (.sl d ((u.ap s).sl d)) = true):(u.ap s).sl d = s.sl d:=by
 cases u with
 |sl d' x=>simp only[Wr.ap];exact bH _ _ (gL h).symm
 |kl k=>simp only[Wr.ap]at h ⊢;exact FV h
 |_=>rfl
theorem Z5{u:Wr}{s:St}{d:Nat}(h:lB u (.sl d (s.sl d)) = true):(u.ap s).sl d = s.sl d:=by
 cases u with
 |sl d' x=>simp only[Wr.ap];exact bH _ _ (gL h).symm
 |kl k=>simp only[Wr.ap]at h ⊢;exact pT h
 |_=>rfl
theorem WM{u:Wr}{s:St}{r c:Nat}(h:lB u (.rc r c) = true):(u.ap s).rc r c = s.rc r c:=by
 cases u with
 |rc r' c' x =>
  simp only[Wr.ap];rw[gU]
  have:¬(r = r'∧c = c'):=fun e=>by obtain⟨rfl,rfl⟩:=e;simp[lB]at h
  simp[this]
 |rn r' n =>
  have:=gL h
  simp only[Wr.ap]
  have:Nat.beq r r' = false:=Fk this.symm
  simp only[this]
 |_=>rfl
theorem Zv{u:Wr}{s:St}{r c:Nat}{v:V}(h:lB u (.rh r c v) = true):(u.ap s).rc r c = s.rc r c:=by
 have:lB u (.rc r c) = true:=by cases u <;> exact h
 exact WM this
theorem Zw{u:Wr}{s:St}{m:Nat}(h:lB u (.mp m) = true):(u.ap s).mp m = s.mp m:=by
 cases u with
 |mp m' ks=>simp only[Wr.ap];exact bH _ _ (gL h).symm
 |_=>rfl
theorem Zx{u:Wr}{s:St}{m:Nat}(h:lB u (.gn m) = true):(u.ap s).rn m = s.rn m:=by
 cases u with
 |rn m' ks=>simp only[Wr.ap];exact bH _ _ (gL h).symm
 |_=>rfl
theorem cS{α:Type}{x:Acc}{o:Option (α×List Acc×St)}{a:α}{l:List Acc}{s:St}(h:o = some (a,l,s)):GI x o = some (a,x :: l,s):=by rw[h];rfl
theorem jj{α:Type}{u:Wr}:∀ {c:Cmd α} {s s':St} {a:α} {l:List Acc},c.tr (u.ap s) = some (a,l,s')→(∀ x∈l,lB u x = true)→∃ t,c.tr s = some (a,l,t)∧s' = u.ap t
 |.ret a,s,s',b,l,h,hl=>by simp only[Cmd.tr,Option.some.injEq,Prod.mk.injEq]at h;obtain⟨rfl,rfl,rfl⟩:=h;exact⟨s,rfl,rfl⟩
 |.fail,s,s',b,l,h,hl=>by cases h
 |.sl d k,s,s',b,l,h,hl=>by
  obtain⟨l',e0,h0⟩:=bg h
  clear h;have h:=h0;clear h0;subst e0
  have e:=aaZ (hl _ (List.mem_cons_self ..))
  rw[e]at h hl
  obtain⟨t,h1,h2⟩:=jj (c:=k (s.sl d)) h fun x hx=>hl x (List.mem_cons_of_mem _ hx)
  refine⟨t,?_,h2⟩
  rw[e]
  exact cS h1
 |.rc r c k,s,s',b,l,h,hl=>by
  obtain⟨l',e0,h0⟩:=bg h
  clear h;have h:=h0;clear h0;subst e0
  rw[WM (hl _ (List.mem_cons_self ..))]at h
  obtain⟨t,h1,h2⟩:=jj (c:=k (s.rc r c)) h fun x hx=>hl x (List.mem_cons_of_mem _ hx)
  exact⟨t,cS h1,h2⟩
 |.mp m k,s,s',b,l,h,hl=>by
  obtain⟨l',e0,h0⟩:=bg h
  clear h;have h:=h0;clear h0;subst e0
  rw[Zw (hl _ (List.mem_cons_self ..))]at h
  obtain⟨t,h1,h2⟩:=jj (c:=k (s.mp m)) h fun x hx=>hl x (List.mem_cons_of_mem _ hx)
  exact⟨t,cS h1,h2⟩
 |.gn r k,s,s',b,l,h,hl=>by
  obtain⟨l',e0,h0⟩:=bg h
  clear h;have h:=h0;clear h0;subst e0
  rw[Zx (hl _ (List.mem_cons_self ..))]at h
  obtain⟨t,h1,h2⟩:=jj (c:=k (s.rn r)) h fun x hx=>hl x (List.mem_cons_of_mem _ hx)
  exact⟨t,cS h1,h2⟩
 |.wr w k,s,s',b,l,h,hl=>by
  obtain⟨l',e0,h0⟩:=bg h
  clear h;have h:=h0;clear h0;subst e0
  rw[←NZ (hl _ (List.mem_cons_self ..))]at h
  obtain⟨t,h1,h2⟩:=jj (c:=k) h fun x hx=>hl x (List.mem_cons_of_mem _ hx)
  exact⟨t,cS h1,h2⟩
 |.rh r c k,s,s',b,l,h,hl=>by
  obtain⟨l',e0,h0⟩:=bg h
  clear h;have h:=h0;clear h0;subst e0
  have e:((u.ap s).rc r c) = s.rc r c:=Zv (hl _ (List.mem_cons_self ..))
  rw[e]at h hl
  obtain⟨t,h1,h2⟩:=jj (c:=k (iJ (s.rc r c))) h fun x hx=>hl x (List.mem_cons_of_mem _ hx)
  refine⟨t,?_,h2⟩
  rw[e]
  exact cS h1
theorem apB{u:Wr}{x:Acc}(h:I1 u x = true):lB u x = true∨∃ r c k xs r' c' k' xs',u = .rc r c (.own k xs)∧x = .rh r' c' (.own k' xs'):=by
 cases u with
 |rc r c v =>
  cases v with
  |own k xs =>
   cases x with
   |rh r' c' v' =>
    cases v' with
    |own k' xs'=>exact .inr ⟨r,c,k,xs,r',c',k',xs',rfl,rfl⟩
    |_=>exact .inl h
   |_=>exact .inl h
  |_=>exact .inl h
 |_=>exact .inl h
theorem P8{v:V}{k:List Bool}{xs:List (List T)}(h:iJ v = .own k xs):k = []∧xs = []:=by
 cases v <;> simp[iJ]at h
 exact h
theorem Fs{u:Wr}{x:Acc}(h:I1 u x = true)(hx:∀ r c v,x≠.rh r c v):lB u x = true:=by
 rcases apB h with h|⟨r,c,k,xs,r',c',k',xs',_,e⟩
 ·exact h
 ·exact absurd e (hx _ _ _)
theorem ji{α:Type}{u:Wr}:∀ {c:Cmd α} {s s':St} {a:α} {l:List Acc},c.tr s = some (a,l,s')→(∀ x∈l,I1 u x = true)→c.tr (u.ap s) = some (a,l,u.ap s')
 |.ret a,s,s',b,l,h,hl=>by simp only[Cmd.tr,Option.some.injEq,Prod.mk.injEq]at h;obtain⟨rfl,rfl,rfl⟩:=h;rfl
 |.fail,s,s',b,l,h,hl=>by cases h
 |.sl d k,s,s',b,l,h,hl=>by
  obtain⟨l',e0,h0⟩:=bg h
  clear h;have h:=h0;clear h0;subst e0
  simp only[Cmd.tr]
  rw[Z5 (Fs (hl _ (List.mem_cons_self ..)) (by intro r c v e;cases e))]
  exact cS (ji (c:=k (s.sl d)) h fun x hx=>hl x (List.mem_cons_of_mem _ hx))
 |.rc r c k,s,s',b,l,h,hl=>by
  obtain⟨l',e0,h0⟩:=bg h
  clear h;have h:=h0;clear h0;subst e0
  simp only[Cmd.tr]
  rw[WM (Fs (hl _ (List.mem_cons_self ..)) (by intro r c v e;cases e))]
  exact cS (ji (c:=k (s.rc r c)) h fun x hx=>hl x (List.mem_cons_of_mem _ hx))
 |.mp m k,s,s',b,l,h,hl=>by
  obtain⟨l',e0,h0⟩:=bg h
  clear h;have h:=h0;clear h0;subst e0
  simp only[Cmd.tr]
  rw[Zw (Fs (hl _ (List.mem_cons_self ..)) (by intro r c v e;cases e))]
  exact cS (ji (c:=k (s.mp m)) h fun x hx=>hl x (List.mem_cons_of_mem _ hx))
 |.gn r k,s,s',b,l,h,hl=>by
  obtain⟨l',e0,h0⟩:=bg h
  clear h;have h:=h0;clear h0;subst e0
  simp only[Cmd.tr]
  rw[Zx (Fs (hl _ (List.mem_cons_self ..)) (by intro r c v e;cases e))]
  exact cS (ji (c:=k (s.rn r)) h fun x hx=>hl x (List.mem_cons_of_mem _ hx))
 |.wr w k,s,s',b,l,h,hl=>by
  obtain⟨l',e0,h0⟩:=bg h
  clear h;have h:=h0;clear h0;subst e0
  simp only[Cmd.tr]
  rw[←NZ (Fs (hl _ (List.mem_cons_self ..)) (by intro r c v e;cases e))]
  exact cS (ji (c:=k) h fun x hx=>hl x (List.mem_cons_of_mem _ hx))
 |.rh r c k,s,s',b,l,h,hl=>by
  obtain⟨l',e0,h0⟩:=bg h
  clear h;have h:=h0;clear h0;subst e0
  simp only[Cmd.tr]
  have e:iJ ((u.ap s).rc r c) = iJ (s.rc r c):=by
   rcases apB (hl _ (List.mem_cons_self ..))with q|⟨r1,c1,k1,xs1,r2,c2,k2,xs2,rfl,q⟩
   ·rw[Zv q]
   ·injection q with q1 q2 q3
    obtain⟨rfl,rfl⟩:=P8 q3
    by_cases hrc:r = r1∧c = c1
    ·obtain⟨rfl,rfl⟩:=hrc
     simp only[Wr.ap,aW,iJ];exact q3.symm
    ·simp only[Wr.ap,aV _ _ hrc]
  rw[e]
  exact cS (ji (c:=k (iJ (s.rc r c))) h fun x hx=>hl x (List.mem_cons_of_mem _ hx))
def wrs:List Acc→List Wr
 |[]=>[]
 |.w u :: l=>u :: wrs l
 |_ :: l=>wrs l
theorem lC{α:Type}:∀ {c:Cmd α} {s s':St} {a:α} {l:List Acc},c.tr s = some (a,l,s')→s' = s.aps (wrs l)
 |.ret a,s,s',b,l,h=>by simp only[Cmd.tr,Option.some.injEq,Prod.mk.injEq]at h;obtain⟨rfl,rfl,rfl⟩:=h;rfl
 |.fail,s,s',b,l,h=>by cases h
 |.sl d k,s,s',b,l,h=>by obtain⟨l',e0,h0⟩:=bg h;have:=lC (c:=k (s.sl d)) h0;rw[e0];exact this
 |.rc r c k,s,s',b,l,h=>by obtain⟨l',e0,h0⟩:=bg h;have:=lC (c:=k (s.rc r c)) h0;rw[e0];exact this
 |.mp m k,s,s',b,l,h=>by obtain⟨l',e0,h0⟩:=bg h;have:=lC (c:=k (s.mp m)) h0;rw[e0];exact this
 |.gn r k,s,s',b,l,h=>by obtain⟨l',e0,h0⟩:=bg h;have:=lC (c:=k (s.rn r)) h0;rw[e0];exact this
 |.wr w k,s,s',b,l,h=>by obtain⟨l',e0,h0⟩:=bg h;have:=lC (c:=k) h0;rw[e0];exact this
 |.rh r c k,s,s',b,l,h=>by obtain⟨l',e0,h0⟩:=bg h;have:=lC (c:=k (iJ (s.rc r c))) h0;rw[e0];exact this
def NW(us:List Wr)(l:List Acc):Bool:=us.all fun u=>l.all fun x=>lB u x
theorem Bq{α:Type}{c:Cmd α}{a:α}{l:List Acc}:∀ {us:List Wr} {s s':St},NW us l = true→c.tr (s.aps us) = some (a,l,s')→∃ t,c.tr s = some (a,l,t)∧s' = t.aps us
 |[],s,s',_,h=>⟨s',h,rfl⟩
 |u :: us,s,s',ha,h=>by
  simp only[NW,List.all_cons,Bool.and_eq_true_iff]at ha
  obtain⟨t,h1,h2⟩:=Bq (us:=us) (s:=u.ap s) ha.2 h
  obtain⟨t',h3,h4⟩:=jj h1 fun x hx=>List.all_eq_true.1 ha.1 x hx
  exact⟨t',h3,by rw[h2,h4];rfl⟩
def Il(us:List Wr)(l:List Acc):Bool:=us.all fun u=>l.all fun x=>I1 u x
theorem rY{α:Type}{c:Cmd α}{a:α}{l:List Acc}:∀ {us:List Wr} {s s':St},Il us l = true→c.tr s = some (a,l,s')→c.tr (s.aps us) = some (a,l,s'.aps us)
 |[],s,s',_,h=>h
 |u :: us,s,s',ha,h=>by
  simp only[Il,List.all_cons,Bool.and_eq_true_iff]at ha
  exact rY (us:=us) (s:=u.ap s) ha.2 (ji h fun x hx=>List.all_eq_true.1 ha.1 x hx)
def uk(l l':List Acc):Bool:=NW (wrs l) l' && Il (wrs l') l
theorem Xz{α β:Type}{c:Cmd α}{d:Cmd β}{a:α}{b:β}{l l':List Acc}{s s1 s2:St}(h1:c.tr s = some (a,l,s1))(h2:d.tr s1 = some (b,l',s2))(h:uk l l' = true):∃ t,d.tr s = some (b,l',t)∧c.tr t = some (a,l,s2):=by
 simp only[uk,Bool.and_eq_true_iff]at h
 rw[lC h1]at h2
 obtain⟨t,h3,h4⟩:=Bq h.1 h2
 refine⟨t,h3,?_⟩
 have e:=lC h3
 have:=rY h.2 h1
 rw[←e]at this
 rw[this,h4,lC h1,e]
 congr 3
 have h5:=rY h.2 h1
 have h6:=lC h5
 have h7:=lC h1
 rw[h7]at h6
 exact h6
/-! ### A region -/
noncomputable def opC(C:Cx)(nt:Nat)(ops:Array Oper)(o:Oper)(ans:List Ans):Cmd Prop:=(jn C nt ops o ans).bind fun(a,p)=>match a with|[]=>.ret p|_ :: _=>.fail
noncomputable def evD(C:Cx)(nt:Nat)(ops:Array Oper):List Oper→List (List Ans)→St→Option (List (Prop×List Acc)×St)
 |[],[],s=>some ([],s)
 |o :: os,a :: as,s=>match(opC C nt ops o a).tr s with
  |some (p,l,s1)=>match evD C nt ops os as s1 with
   |some (r,s2)=>some ((p,l) :: r,s2)
   |none=>none
  |none=>none
 |_,_,_=>none
def ZB:List (Prop×List Acc)→Prop
 |[]=>True
 |(p,_) :: r=>p∧ZB r
inductive Chain (cm:Nat→Cmd Prop) (la:Nat→List Acc):List Nat→St→St→Prop where
 |nil {s}:Chain cm la [] s s
 |cons {i is s s1 s' p} (h:(cm i).tr s = some (p,la i,s1)) (hp:p) (t:Chain cm la is s1 s'):Chain cm la (i :: is) s s'
theorem Chain.pull{cm:Nat→Cmd Prop}{la:Nat→List Acc}:∀ {A:List Nat} {i:Nat} {B:List Nat} {s s':St},Chain cm la (A++i :: B) s s'→(∀ j∈A,uk (la j) (la i) = true)→
 ∃ s1 p,(cm i).tr s = some (p,la i,s1)∧p∧Chain cm la (A++B) s1 s'
 |[],i,B,s,s',h,_=>by cases h with|cons h hp t=>exact⟨_,_,h,hp,t⟩
 |j :: A,i,B,s,s',h,ha=>by
  cases h with
  |cons h hp t =>
   obtain⟨s2,p,h1,hp1,t1⟩:=Chain.pull t fun k hk=>ha k (List.mem_cons_of_mem _ hk)
   obtain⟨t0,h3,h4⟩:=Xz h h1 (ha j (List.mem_cons_self ..))
   exact⟨t0,p,h3,hp1,.cons h4 hp t1⟩
def onB(o:Oper)(i:Nat):Bool:=o.after.toList.any fun e=>Region.binds .any e && Nat.beq e.on i
def onT(ops:List Oper):Nat→Oper→Nat→Bool
 |0,o,j=>onB o j
 |n+1,o,j=>onB o j||o.after.toList.any fun e=>Region.binds .any e && match ops[e.on]? with
  |some o'=>onT ops n o' j
  |none=>false
theorem Oo{rem:List Nat}{o:Oper}{j:Nat}(h:∀ e∈o.after.toList,Region.binds .any e = true→e.on ∉ rem)(ho:onB o j = true):j ∉ rem:=by
 simp only[onB,List.any_eq_true,Bool.and_eq_true_iff]at ho
 obtain⟨e,he,hb,hbe⟩:=ho
 have:=h e he hb
 rw[gV hbe]at this;exact this
theorem On{ops:Array Oper}{rem:List Nat}(hcl:∀ k o,ops[k]? = some o→k ∉ rem→∀ e∈o.after.toList,Region.binds .any e = true→e.on ∉ rem) :
 ∀ {n:Nat} {o:Oper} {j:Nat},(∀ e∈o.after.toList,Region.binds .any e = true→e.on ∉ rem)→onT ops.toList n o j = true→j ∉ rem
 |0,o,j,h,ho=>Oo h ho
 |n+1,o,j,h,ho=>by
  simp only[onT,Bool.or_eq_true_iff]at ho
  rcases ho with ho|ho
  ·exact Oo h ho
  ·simp only[List.any_eq_true,Bool.and_eq_true_iff]at ho
   obtain⟨e,he,hb,hm⟩:=ho
   rw[Array.getElem?_toList]at hm
   cases h1:ops[e.on]? with
   |none=>rw[h1]at hm;cases hm
   |some o' =>
    rw[h1]at hm
    exact On hcl (hcl _ _ h1 (h e he hb)) hm
def Sa:Nat→(Nat→Bool)→Bool
 |0,_=>true
 |n+1,f=>f n && Sa n f
theorem Im{f:Nat→Bool}:∀ {n:Nat},Sa n f = true→∀ {i:Nat},i < n→f i = true
 |0,_,i,hi=>by omega
 |n+1,h,i,hi=>by
  simp only[Sa,Bool.and_eq_true_iff]at h
  by_cases e:i = n
  ·subst e;exact h.1
  ·exact Im h.2 (by omega)
def Ga(tr:List (Prop×List Acc))(i:Nat):List Acc:=match tr[i]? with|some x=>x.2|none=>[]
def aaz(ops:List Oper)(tr:List (Prop×List Acc)):Bool :=
 Sa ops.length fun i=>match ops[i]? with
  |some o=>o.after.toList.all (fun e=>!Region.binds .any e||Nat.blt e.on i) && Sa i fun j=>uk (Ga tr j) (Ga tr i)||onT ops 8 o j
  |none=>false
noncomputable def Yc(C:Cx)(nt:Nat)(ops:Array Oper)(ans:List (List Ans))(i:Nat):Cmd Prop:=match ops[i]?,ans[i]? with|some o,some a=>opC C nt ops o a|_,_=>.fail
theorem Gs{C:Cx}{nt:Nat}{ops:Array Oper}{ans:List (List Ans)}{tr:List (Prop×List Acc)}:∀ {os:List Oper} {as:List (List Ans)} {r:List (Prop×List Acc)} {k:Nat} {s s':St},ops.toList.drop k = os→ans.drop k = as→tr.drop k = r→
 evD C nt ops os as s = some (r,s')→ZB r→Chain (Yc C nt ops ans) (Ga tr) (List.range' k (ops.size - k)) s s'
 |[],as,r,k,s,s',ho,ha,hr,h,hp=>by
  have:ops.size - k = 0:=by have:=congrArg List.length ho;simp at this;omega
  rw[this,List.range'_zero]
  cases as with
  |nil=>simp only[evD,Option.some.injEq,Prod.mk.injEq]at h;obtain⟨_,h⟩:=h;rw[h];exact .nil
  |cons x xs=>simp[evD]at h
 |o :: os,as,r,k,s,s',ho,ha,hr,h,hp=>by
  cases as with
  |nil=>simp[evD]at h
  |cons a as =>
   have hl:=congrArg List.length ho
   simp only[List.length_drop,Array.length_toList,List.length_cons]at hl
   have hn:ops.size - k = (ops.size - (k+1)) +1:=by omega
   have ho':ops[k]? = some o:=by
    have h0:(ops.toList.drop k)[0]? = some o:=by rw[ho];rfl
    rw[List.getElem?_drop,Nat.add_zero,Array.getElem?_toList]at h0
    exact h0
   have ha':ans[k]? = some a:=by
    have h0:(ans.drop k)[0]? = some a:=by rw[ha];rfl
    rw[List.getElem?_drop,Nat.add_zero]at h0
    exact h0
   simp only[evD]at h
   cases h1:(opC C nt ops o a).tr s with
   |none=>rw[h1]at h;simp at h
   |some q =>
    obtain⟨p,l,s1⟩:=q
    rw[h1]at h
    simp only at h
    cases h2:evD C nt ops os as s1 with
    |none=>rw[h2]at h;simp at h
    |some q =>
     obtain⟨r',s2⟩:=q
     rw[h2]at h
     simp only[Option.some.injEq,Prod.mk.injEq]at h
     obtain⟨hr',hs⟩:=h
     rw[←hr']at hp hr
     rw[hs]at h2
     have hla:Ga tr k = l:=by
      have h0:(tr.drop k)[0]? = some (p,l):=by rw[hr];rfl
      rw[List.getElem?_drop,Nat.add_zero]at h0
      simp[Ga,h0]
     rw[hn,List.range'_succ]
     refine .cons (p:=p) (s1:=s1) ?_ hp.1 (Gs (by rw[←List.drop_drop,ho];rfl) (by rw[←List.drop_drop,ha];rfl) (by rw[←List.drop_drop,hr];rfl) h2 hp.2)
     rw[hla]
     simp only[Yc,ho',ha']
     exact h1
theorem Tx{l:Array Bool}{i j:Nat}{d:Bool}(h:i < l.size):(l.setIfInBounds i true).getD j d = if j = i then true else l.getD j d:=by
 rw[Array.getD_eq_getD_getElem?,Array.getD_eq_getD_getElem?,Array.getElem?_setIfInBounds]
 by_cases e:i = j
 ·subst e;simp[h]
 ·have:¬j = i:=fun h=>e h.symm
  simp[e,this]
theorem QQ{C:Cx}(hC:CxOk P C){ops:Array Oper}{ans:List (List Ans)}{tr:List (Prop×List Acc)}{nt:Nat}(hck:aaz ops.toList tr = true){g:G}(hg:g.nt = nt){Q:Exit→Act→World→Prop}{st':St}(hQ:∀ a w base mb F,Rel g Fp.none st' a w base mb F→Q .normal a w) :
 ∀ (n:Nat) (rem:List Nat) (listed:Array Bool) (st:St) (a:Act) (w:World) (base:Nat→Base) (mb:Nat→Nat) (F:Ix→Fp),rem.length = n→rem.Pairwise (· < ·)→listed.size = ops.size→(∀ i∈rem,i < ops.size)→(∀ i,i < ops.size→(listed.getD i true = true↔i ∉ rem))→
  (∀ k o,ops[k]? = some o→k ∉ rem→∀ e∈o.after.toList,Region.binds .any e = true→e.on ∉ rem)→
  Chain (Yc C nt ops ans) (Ga tr) rem st st'→Rel g Fp.none st a w base mb F→wpAny P .any ops Q n listed a w:=by
 have hlen:ops.toList.length = ops.size:=by simp
 have hat:∀ i,i < ops.size→∃ o,ops[i]? = some o∧(∀ e∈o.after.toList,Region.binds .any e = true→e.on < i)∧∀ j,j < i→uk (Ga tr j) (Ga tr i) = true∨onT ops.toList 8 o j = true:=fun i hi=>by
  have h:=Im hck (i:=i) (by rw[hlen];exact hi)
  simp only[Array.getElem?_toList]at h
  cases ho:ops[i]? with
  |none=>rw[ho]at h;simp at h
  |some o =>
   rw[ho]at h
   simp only[Bool.and_eq_true_iff,List.all_eq_true]at h
   refine⟨o,rfl,fun e he hb=>?_,fun j hj=>?_⟩
   ·have:=h.1 e he
    simpa [hb,Nat.blt_eq]using this
   ·have:=Im h.2 hj
    simpa using this
 have hgd:∀ (listed:Array Bool) j,listed.size = ops.size→j < ops.size→listed.getD j true = listed.getD j false:=fun listed j h1 h2=>by
  rw[Array.getD_eq_getD_getElem?,Array.getD_eq_getD_getElem?]
  have:j < listed.size:=by omega
  simp[this]
 have hready:∀ (listed:Array Bool) i,i∈Region.ready .any ops listed↔i < ops.size∧listed.getD i true = false∧∃ o,ops[i]? = some o∧∀ e∈o.after.toList,Region.binds .any e = true→listed.getD e.on false = true:=fun listed i=>by
  simp only[Region.ready,List.mem_filter,List.mem_range,Bool.and_eq_true_iff,Bool.not_eq_true']
  refine and_congr_right fun _=>and_congr_right fun _=>?_
  cases ho:ops[i]? with
  |none=>simp
  |some o =>
   simp only[Option.map_some,Option.getD_some,Option.some.injEq,exists_eq_left',Array.all_eq_true',Array.mem_def]
   constructor
   ·intro h e he hb;have:=h e he;simpa [hb]using this
   ·intro h e he;cases hb:Region.binds .any e with
    |false=>simp
    |true=>simp[h e he hb]
 intro n
 induction n with
 |zero =>
  intro rem listed st a w base mb F hl hs hsz hlt hli hcl hc R
  have hnil:rem = []:=List.length_eq_zero_iff.1 hl
  subst hnil
  cases hc
  refine⟨?_,hQ _ _ _ _ _ R⟩
  refine List.eq_nil_iff_forall_not_mem.2 fun i hi=>?_
  obtain⟨h1,h2,_⟩:=(hready listed i).1 hi
  have:=(hli i h1).2 (by simp)
  rw[this]at h2;cases h2
 |succ n ih =>
  intro rem listed st a w base mb F hl hs hsz hlt hli hcl hc R
  refine⟨fun hnil=>?_,fun i hi=>?_⟩
  ·exfalso
   cases rem with
   |nil=>simp at hl
   |cons i0 rest =>
    have hi0:i0 < ops.size:=hlt i0 (List.mem_cons_self ..)
    obtain⟨o,ho,hb,_⟩:=hat i0 hi0
    have:i0∈Region.ready .any ops listed:=(hready listed i0).2 ⟨hi0,by
     cases h:listed.getD i0 true with
     |false=>rfl
     |true=>exact absurd (List.mem_cons_self ..) ((hli i0 hi0).1 h),o,ho,fun e he hbe=>by
      have hlt':=hb e he hbe
      rw[←hgd listed e.on hsz (by omega)]
      refine(hli e.on (by omega)).2 fun hm=>?_
      rcases List.mem_cons.1 hm with h|h
      ·omega
      ·have:=(List.pairwise_cons.1 hs).1 _ h;omega⟩
    rw[hnil]at this;cases this
  ·obtain⟨h1,h2,o,ho,hdep⟩:=(hready listed i).1 hi
   have hmem:i∈rem:=by
    refine Classical.byContradiction fun h=>?_
    rw[(hli i h1).2 h]at h2;cases h2
   obtain⟨A,B,rfl⟩:=List.append_of_mem hmem
   obtain⟨o',ho',hbe,hap⟩:=hat i h1
   rw[ho]at ho';cases ho'
   have hdo:∀ e∈o.after.toList,Region.binds .any e = true→e.on ∉ A++i :: B:=fun e he hb=>by
    have hlt':=hbe e he hb
    have:=hdep e he hb
    rw[←hgd listed e.on hsz (by omega)]at this
    exact(hli e.on (by omega)).1 this
   have hA:∀ j∈A,uk (Ga tr j) (Ga tr i) = true:=fun j hj=>by
    have hji:j < i:=(List.pairwise_append.1 hs).2.2 j hj i (List.mem_cons_self ..)
    exact(hap j hji).resolve_right fun hon=>On hcl hdo hon (List.mem_append_left _ hj)
   obtain⟨s1,p,hc1,hp,hc2⟩:=Chain.pull hc hA
   have hcm:∃ an,Yc C nt ops ans i = opC C nt ops o an:=by
    unfold Yc at hc1 ⊢
    rw[ho]at hc1 ⊢
    cases han:ans[i]? with
    |none=>rw[han]at hc1;cases hc1
    |some an=>exact⟨an,rfl⟩
   obtain⟨an,hcm⟩:=hcm
   rw[hcm]at hc1
   have hrun:=Cmd.run_of_tr hc1
   obtain⟨⟨a1,p1⟩,s2,hr1,hr2⟩:=Cmd.abt hrun
   have hfin:p1 = p∧s2 = s1:=by
    cases a1 with
    |nil=>exact af hr2
    |cons x xs=>cases hr2
   obtain⟨rfl,rfl⟩:=hfin
   subst hg
   have:=n6 hC R hr1 hp (K:=wpAny P .any ops Q n (listed.setIfInBounds i true)) (Q:=Q) fun a' w' base' mb' F' R'=>by
    have hi':i < listed.size:=by omega
    refine ih (A++B) (listed.setIfInBounds i true) _ a' w' base' mb' F' ?_ ?_ ?_ ?_ ?_ ?_ hc2 R'
    ·simp at hl ⊢;omega
    ·have:=List.pairwise_append.1 hs
     exact List.pairwise_append.2 ⟨this.1,(List.pairwise_cons.1 this.2.1).2,fun x hx y hy=>this.2.2 x hx y (List.mem_cons_of_mem _ hy)⟩
    ·simpa using hsz
    ·intro j hj
     exact hlt j (by rcases List.mem_append.1 hj with h|h <;> simp[h])
    ·intro j hj
     rw[Tx hi']
     have hnd:i ∉ A∧i ∉ B:=by
      have:=List.pairwise_append.1 hs
      exact⟨fun h=>Nat.lt_irrefl _ (this.2.2 i h i (List.mem_cons_self ..)),fun h=>Nat.lt_irrefl _ ((List.pairwise_cons.1 this.2.1).1 i h)⟩
     by_cases e:j = i
     ·subst e;simp[hnd]
     ·have:=hli j hj
      simp only[e,if_false]
      rw[this];simp[e]
    ·intro k ok hok hk e he hb
     have hsub:∀ x,x∈A++B→x∈A++i :: B:=fun x hx=>by
      rcases List.mem_append.1 hx with h|h
      ·exact List.mem_append_left _ h
      ·exact List.mem_append_right _ (List.mem_cons_of_mem _ h)
     by_cases e1:k = i
     ·subst e1
      rw[ho]at hok;cases hok
      exact fun hm=>hdo e he hb (hsub _ hm)
     ·refine fun hm=>hcl k ok hok (fun hm2=>hk ?_) e he hb (hsub _ hm)
      rcases List.mem_append.1 hm2 with h|h
      ·exact List.mem_append_left _ h
      ·rcases List.mem_cons.1 h with h|h
       ·exact absurd h e1
       ·exact List.mem_append_right _ h
   unfold wpOp
   rw[ho]
   exact this
theorem Rel.drawn{g:G}{X:Fp}{st:St}{a:Act}{w:World}{base:Nat→Base}{mb:Nat→Nat}{F:Ix→Fp}(R:Rel g X st a w base mb F)(k:Nat):∃ F',Rel g X st a {w with drawn:=k} base mb F':=by
 have R0:Rel g (Fp.or X Fp.none) st a w base mb F:=by rw[Fp.or_none];exact R
 obtain⟨R1,_⟩:=R0.ext (Fq:=Fp.none) (fun _ _ _ h=>h) {w with drawn:=k} rfl rfl rfl (Nat.le_refl _) (fun b o _ _=>⟨rfl,rfl⟩) (fun b _ _=>rfl) (fun _ _ h=>h.elim)
 rw[Fp.or_none]at R1
 exact⟨_,R1⟩
theorem Run.regionD{C:Cx}(hC:CxOk P C){nt id:Nat}{ops:Array Oper}{Q:Exit→St→Prop}{st st':St}(hm:P.follows .mixedOrders = true)(ans:List (List Ans)){tr:List (Prop×List Acc)}(h:evD C nt ops ops.toList ans st = some (tr,st'))(hp:ZB tr)(hc:aaz ops.toList tr = true)(hq:Q .normal st') :
 Run P nt (.region id ops true) st Q:=by
 intro g hg a w base mb F R
 obtain⟨F',R'⟩:=R.drawn (w.drawn+1)
 have hch:=Gs (tr:=tr) (k:=0) rfl rfl rfl h hp
 refine wp_region_any hm (QQ hC hc hg (fun a w base mb F R=>⟨st',base,mb,F,hq,R⟩) ops.size _ _ _ _ _ _ _ _ ?_ ?_ ?_ ?_ ?_ ?_ hch R')
 ·simp
 ·exact List.pairwise_lt_range'
 ·simp
 ·intro i hi;simp[List.mem_range']at hi;omega
 ·intro i hi
  simp[List.mem_range',Array.getD_eq_getD_getElem?,hi]
 ·intro k ok hok hk
  refine absurd ?_ hk
  have:=(Array.getElem?_eq_some_iff.1 hok).1
  simp[List.mem_range'];omega
end Go.Tm
namespace Go.Tm
variable {P:Program} {nt:Nat} {st st':St} {Q:Exit→St→Prop}
theorem Ends.ret{E:Env}{rs:List Rs}{as:List A}{res res':V}{outs outs':List (List V)}{p:Prop}(ans:List Ans)(h:(RZ nt E rs as ans).run st = some ((res',outs',p),st'))(hp:p)(hr:res' = res)(ho:outs' = outs):Ends nt E rs as res outs .ret st:=by
 subst hr;subst ho;exact⟨.inr rfl,ans,st',p,h,hp⟩
theorem Ends.normal{E:Env}{rs:List Rs}{as:List A}{res res':V}{outs outs':List (List V)}{p:Prop}(ans:List Ans)(h:(RZ nt E rs as ans).run st = some ((res',outs',p),st'))(hp:p)(hr:res' = res)(ho:outs' = outs):Ends nt E rs as res outs .normal st:=by
 subst hr;subst ho;exact⟨.inl rfl,ans,st',p,h,hp⟩
theorem w64{z:Int}(h1:-9223372036854775808≤z)(h2:z≤9223372036854775807):IntKind.i64.wrap z = z:=by
 simp[IntKind.wrap,IntKind.bits,IntKind.signed];omega
theorem wu8{z:Int}(h1:0≤z)(h2:z≤255):IntKind.u8.wrap z = z:=by
 simp[IntKind.wrap,IntKind.bits,IntKind.signed];omega
theorem ixm{α:Type}{f:α→List T}{xs:List α}{n:Nat}{x:α}(h:xs[n]? = some x):0≤(n:Int)∧(xs.map f)[(n:Int).toNat]? = some (f x):=⟨by omega,by simp[h]⟩
theorem ixl{α:Type}{f:α→List T}{xs:List α}{n:Nat}{x:α}(h:xs[n]? = some x):(xs.map f)[n]? = some (f x):=by simp[h]
theorem ae{α:Type}{xs:List α}{n:Nat}(h:n < xs.length):∃ x,xs[n]? = some x:=⟨xs[n],by simp[h]⟩
end Go.Tm
namespace Go.Tm
theorem I:True:=trivial
theorem gt{p:Prop}{ip:Decidable p}(h:¬p):(!decide p) = true:=by simp[h]
theorem lf{p:Prop}{ip:Decidable p}(h:p):(!decide p) = false:=by simp[h]
theorem nbT{b:Bool}(h:b = false):(!b) = true:=by simp[h]
theorem nbF{b:Bool}(h:b = true):(!b) = false:=by simp[h]
theorem bF{s:ByteArray}{n:Nat}(h:n < s.size):∃ c,s[n]? = some c∧c.toNat < 256:=⟨s[n],by simp[h],UInt8.toNat_lt _⟩
end Go.Tm
namespace Go.Tm
variable {P:Program} {nt:Nat} {st st':St} {Q:Exit→St→Prop}
theorem EnvOk.nil:EnvOk P .nil:=fun t ty h=>by cases h
theorem EnvOk.node{t:TypeId}{ty:Ty}{l r:Env}(hl:EnvOk P l)(h:TyOk P t ty)(hr:EnvOk P r):EnvOk P (.node l t ty r):=fun u uy hu=>by
 simp only[Env.ty]at hu
 split at hu
 ·rename_i e
  have:t = u:=gV e
  subst this;cases hu;exact h
 ·split at hu
  ·exact hl _ _ hu
  ·exact hr _ _ hu
def ZT{α:Type}(y:Value)(k:Value→α):α:=match y with|.int a b=>k (.int a b)|.bool b=>k (.bool b)|.string s=>k (.string s)|y=>k y
def Vg{α:Type}(x:T)(k:T→α):α:=match x with|.v y=>ZT y fun y=>k (.v y)|.slc a b=>k (.slc a b)|.hole=>k .hole
def IR{α:Type}(p:Place)(k:Place→α):α:=match p with|⟨r,none,o⟩=>k ⟨r,none,o⟩|⟨r,some (c,i,s),o⟩=>k ⟨r,some (c,i,s),o⟩
def uh{α:Type}(v:V)(k:V→α):α:=match v with
 |.t x=>Vg x fun x=>k (.t x)
 |.ref p=>IR p fun p=>k (.ref p)
 |.ptr p=>IR p fun p=>k (.ptr p)
 |.own a xs=>k (.own a xs)
 |.sub p lo hi=>IR p fun p=>k (.sub p lo hi)
 |.nils=>k .nils
 |.undef=>k .undef
 |.iptr cs=>k (.iptr cs)
 |.mref r=>k (.mref r)
 |.al r c=>k (.al r c)
 |.agg cs=>k (.agg cs)
 |.tup vs=>k (.tup vs)
def ED{α:Type}:List V→(List V→α)→α
 |[],k=>k []
 |c :: cs,k=>uh c fun c=>ED cs fun cs=>k (c :: cs)
def fk{α:Type}(v:V)(k:V→α):α:=match v with
 |.agg cs=>ED cs fun cs=>k (.agg cs)
 |.tup cs=>ED cs fun cs=>k (.tup cs)
 |v=>uh v k
theorem Qz{α:Type}(x:T)(k:T→α):Vg x k = k x:=by cases x with|v y=>cases y <;> rfl|_=>rfl
theorem xm{α:Type}(p:Place)(k:Place→α):IR p k = k p:=by obtain⟨r,s,o⟩:=p;cases s <;> rfl
theorem ff{α:Type}(v:V)(k:V→α):uh v k = k v:=by
 cases v with
 |t x=>simp only[uh,Qz]
 |ref p=>simp only[uh,xm]
 |ptr p=>simp only[uh,xm]
 |sub p lo hi=>simp only[uh,xm]
 |_=>rfl
theorem xn{α:Type}:∀ (cs:List V) (k:List V→α),ED cs k = k cs
 |[],_=>rfl
 |c :: cs,k=>by simp only[ED,ff,xn cs]
theorem gX{α:Type}(v:V)(k:V→α):fk v k = k v:=by
 cases v with
 |agg cs=>simp only[fk,xn]
 |tup cs=>simp only[fk,xn]
 |t x=>simp only[fk,ff]
 |own k xs=>simp only[fk,ff]
 |nils=>simp only[fk,ff]
 |ref p=>simp only[fk,ff]
 |sub p lo hi=>simp only[fk,ff]
 |ptr p=>simp only[fk,ff]
 |iptr cs=>simp only[fk,ff]
 |mref m=>simp only[fk,ff]
 |al m c=>simp only[fk,ff]
 |undef=>simp only[fk,ff]
theorem Cmd.run_bind_of{α β:Type}{x:Cmd α}{f:α→Cmd β}{s s1:St}{a:α}(h:x.run s = some (a,s1)):(x.bind f).run s = (f a).run s1:=by rw[Cmd.run_bind,h];rfl
theorem iv{α β:Type}{f:α→Cmd β}{a:α}{b:β}{l2:List Acc}{s1 s2:St}:∀ {x:Cmd α} {s:St} {l:List Acc},x.tr s = some (a,l,s1)→(f a).tr s1 = some (b,l2,s2)→(x.bind f).tr s = some (b,l++l2,s2)
 |.ret a',s,l,h,h2=>by
  simp only[Cmd.tr,Option.some.injEq,Prod.mk.injEq]at h
  obtain⟨h3,h4,h5⟩:=h
  rw[←h3,←h5]at h2
  rw[←h4];exact h2
 |.fail,s,l,h,h2=>by cases h
 |.sl d k,s,l,h,h2=>by
  obtain⟨l',e0,h0⟩:=bg h
  rw[e0];exact cS (iv (x:=k (s.sl d)) h0 h2)
 |.rc r c k,s,l,h,h2=>by
  obtain⟨l',e0,h0⟩:=bg h
  rw[e0];exact cS (iv (x:=k (s.rc r c)) h0 h2)
 |.mp m k,s,l,h,h2=>by
  obtain⟨l',e0,h0⟩:=bg h
  rw[e0];exact cS (iv (x:=k (s.mp m)) h0 h2)
 |.gn r k,s,l,h,h2=>by
  obtain⟨l',e0,h0⟩:=bg h
  rw[e0];exact cS (iv (x:=k (s.rn r)) h0 h2)
 |.wr w k,s,l,h,h2=>by
  obtain⟨l',e0,h0⟩:=bg h
  rw[e0];exact cS (iv (x:=k) h0 h2)
 |.rh r c k,s,l,h,h2=>by
  obtain⟨l',e0,h0⟩:=bg h
  rw[e0];exact cS (iv (x:=k (iJ (s.rc r c))) h0 h2)
def lat(r:List (List Acc))(i:Nat):List Acc:=match r[i]? with|some x=>x|none=>[]
def PP(ops:List Oper)(r:List (List Acc)):Bool :=
 Sa ops.length fun i=>match ops[i]? with
  |some o=>o.after.toList.all (fun e=>!Region.binds .any e||Nat.blt e.on i) && Sa i fun j=>uk (lat r j) (lat r i)||onT ops 8 o j
  |none=>false
theorem Tq(tr:List (Prop×List Acc))(i:Nat):lat (tr.map (·.2)) i = Ga tr i:=by
 simp only[lat,Ga,List.getElem?_map]
 cases tr[i]? <;> rfl
theorem jU{ops:List Oper}{tr:List (Prop×List Acc)}(h:PP ops (tr.map (·.2)) = true):aaz ops tr = true:=by
 unfold PP at h
 simp only[Tq]at h
 exact h
theorem KM{c:Operand}{v:V}(h:(rdO c).run st = some (v,st')):(rdO c).run st = some (v,st):=by
 cases c <;> simp only[rdO,Cmd.run,Option.some.injEq,Prod.mk.injEq]at h ⊢ <;> exact⟨h.1,trivial⟩
theorem dt{p:Prop}{ip:Decidable p}(h:decide p = true):p:=of_decide_eq_true h
theorem df{p:Prop}{ip:Decidable p}(h:decide p = false):¬p:=of_decide_eq_false h
theorem ndt{p:Prop}{ip:Decidable p}(h:(!decide p) = true):¬p:=by simpa using h
theorem ndf{p:Prop}{ip:Decidable p}(h:(!decide p) = false):p:=by simpa using h
theorem noT{b:Bool}{A:Prop}(h:b = false):b = true→A:=fun e=>by rw[h]at e;cases e
theorem noF{b:Bool}{A:Prop}(h:b = true):b = false→A:=fun e=>by rw[h]at e;cases e
end Go.Tm
namespace Go.Tm
theorem vbd{p q:Prop}{ip:Decidable p}{iq:Decidable q}(h:p↔q):V.t (T.v (Value.bool (decide p))) = V.b (decide q):=by
 have:decide p = decide q:=decide_eq_decide.2 h
 rw[this]
theorem vbt{q:Prop}{iq:Decidable q}(h:q):V.t (T.v (Value.bool true)) = V.b (decide q):=by rw[decide_eq_true h]
theorem vbf{q:Prop}{iq:Decidable q}(h:¬q):V.t (T.v (Value.bool false)) = V.b (decide q):=by rw[decide_eq_false h]
theorem vi{a b:Int}(h:a = b):V.t (T.v (Value.int .i64 a)) = V.i b:=by rw[h]
theorem vs{a b:ByteArray}(h:a = b):V.t (T.v (Value.string a)) = V.s b:=by rw[h]
end Go.Tm
namespace Go.Tm
theorem kK:sW []:=fun x h=>by cases h
theorem jg{n:Int}{xs:List (List T)}(h:sW xs):sW ([.v (.int .u8 n)] :: xs):=fun x hx=>by
 rcases List.mem_cons.1 hx with rfl|hx
 ·exact⟨n,rfl⟩
 ·exact h x hx
theorem Q2{α:Type}{f:α→Int}{xs:List α}:sW (xs.map fun x=>[.v (.int .u8 (f x))]):=fun x hx=>by
 obtain⟨y,_,rfl⟩:=List.mem_map.1 hx;exact⟨f y,rfl⟩
theorem ixb{s:ByteArray}{n:Nat}{c:UInt8}(h:s[n]? = some c):Option.map (fun b=>(b.toNat:Int)) s[n]? = some (c.toNat:Int):=by simp[h]
end Go.Tm
namespace Go.Tm
theorem bsz(xs:List (List T)):(⟨(bZ xs).toArray⟩:ByteArray).size = xs.length:=by simp[ByteArray.size,bZ]
end Go.Tm
namespace Go.Tm
theorem w8(y:UInt8):IntKind.i64.wrap (y.toNat:Int) = (y.toNat:Int):=w64 (by omega) (by have:=y.toNat_lt;omega)
end Go.Tm
namespace Go.Tm
variable {P:Program} {E:Env} {w:World} {H:Type} {enc:TypeId×Value→H}
def aap(R:TypeId→List T→Prop):List (Nat×TypeId)→List T→Prop
 |[],x=>x = []
 |(_,t) :: fs,x=>∃ y z,x = y++z∧R t y∧aap R fs z
def wfT(E:Env):Nat→TypeId→List T→Prop
 |0,_,_=>False
 |n+1,t,x=>match E.ty t with
  |some ⟨.bool,_,_⟩=>∃ b,x = [.b b]
  |some ⟨.int k,_,_⟩=>∃ m,x = [.v (.int k m)]∧k.min≤m∧m≤k.max
  |some ⟨.str,_,_⟩=>∃ s:ByteArray,x = [.s s]∧s.size≤maxLen
  |some ⟨.slice e,_,_⟩=>match E.ty e with
   |some ety=>∃ xs:List (List T),x = [.slc ety.kd xs]∧xs.length≤maxLen∧∀ y∈xs,wfT E n e y
   |none=>False
  |some ⟨.struct fs,_,_⟩=>aap (wfT E n) fs x
  |_=>False
def lay(E:Env):Nat→List (Nat×TypeId)→Option Nat
 |o,[]=>some o
 |o,(off,t) :: fs=>match E.ty t with
  |some ty=>match Nat.beq off o with|true=>lay E (o+ty.size) fs|false=>none
  |none=>none
def dep(E:Env):Nat→TypeId→Bool
 |0,_=>false
 |n+1,t=>match E.ty t with
  |some ⟨.bool,[.t (.v (.bool _))],_⟩=>true
  |some ⟨.int _,[.t (.v (.int _ _))],_⟩=>true
  |some ⟨.str,[.t (.v (.string _))],_⟩=>true
  |some ⟨.slice e,[.own k []],_⟩=>dep E n e && match E.ty e with|some ety=>Ck k ety.kd|none=>false
  |some ⟨.struct fs,zc,_⟩=>fs.all (fun f=>dep E n f.2) && (match lay E 0 fs with|some m=>Nat.beq m zc.length|none=>false) && Ck (fs.flatMap fun f=>match E.ty f.2 with|some ty=>ty.kd|none=>[]) (zc.map OC)
  |_=>false
inductive TI (w:World):List T→List Value→Prop where
 |nil:TI w [] []
 |cons {x c xs cs} (h:RepI w Fp.none (.tv x c)) (t:TI w xs cs):TI w (x :: xs) (c :: cs)
theorem TI.append{xs:List T}{cs:List Value}(h:TI w xs cs):∀ {ys:List T} {ds:List Value},TI w ys ds→TI w (xs++ys) (cs++ds):=by
 induction h with
 |nil=>intro ys ds h;exact h
 |cons h _ ih=>intro ys ds h';exact .cons h (ih h')
theorem TI.length{xs:List T}{cs:List Value}(h:TI w xs cs):xs.length = cs.length:=by
 induction h with
 |nil=>rfl
 |cons _ _ ih=>simp[ih]
theorem TI.cells{b:Nat}:∀ {xs:List T} {cs:List Value} {o:Nat},TI w xs cs→(∀ j c,cs[j]? = some c→w.cell? ⟨b,o+j,none⟩ = some c)→RepI w Fp.none (.cells xs b o)
 |_,_,_,.nil,_=>.nil
 |_,_,o,.cons h t,hc=>.cons (by simpa using hc 0 _ rfl) (fun h=>h) h (TI.cells t fun j c hj=>by
  have:=hc (j+1) c (by simpa using hj)
  rwa [show o+ (j+1) = o+1+j by omega]at this)
theorem lw:∀ {k k':List Bool} {x y:List T},bT k x = true→bT k' y = true→bT (k++k') (x++y) = true
 |[],k',[],y,_,h=>h
 |false :: k,k',.v _ :: x,y,h,h'=>by simp only[bT,List.cons_append]at h ⊢;exact lw h h'
 |true :: k,k',.slc _ _ :: x,y,h,h'=>by simp only[bT,List.cons_append]at h ⊢;exact lw h h'
 |true :: k,k',.hole :: x,y,h,h'=>by simp only[bT,List.cons_append]at h ⊢;exact lw h h'
theorem QR{a:Addr}{v:Value}(h:w.cell? a = some v):a.spot = none:=by
 simp only[World.cell?]at h
 split at h
 ·cases hs:a.spot with
  |none=>rfl
  |some s=>simp[hs]at h
 ·cases h
theorem LF{b o i:Nat}:(Addr.mk b o none).add i = ⟨b,o+i,none⟩:=by
 unfold Addr.add
 split
 ·rename_i h;subst h;rfl
 ·rfl
theorem P1(hE:EnvOk P E){base:Nat}{sp:Nat→Bool}{held:Bool}:∀ (n fuel:Nat) (t:TypeId) (cs:List Value) (d:DataW H×List MemPlace),dep E n t = true→DataW.trod enc P w base sp held fuel t cs = some d→
 ∃ x,wfT E n t x∧TI w x cs∧∀ ty,E.ty t = some ty→bT ty.kd x = true:=by
 intro n
 induction n with
 |zero=>intro fuel t cs d h;simp[dep]at h
 |succ n ih =>
  intro fuel t cs d hd h
  unfold dep at hd
  unfold wfT
  split at hd
  ·rename_i b0 bt hty
   rw[hty]
   obtain⟨b,rfl,_⟩:=DataW.trod_bool ((hE _ _ hty).bool rfl) h
   exact⟨[.b b],⟨b,rfl⟩,.cons (.v rfl) .nil,fun ty e=>by cases e;rfl⟩
  ·rename_i k k1 m1 bt hty
   rw[hty]
   obtain⟨m,rfl,_,hw⟩:=DataW.trod_int ((hE _ _ hty).int rfl) h
   simp only[Lit.wf,Bool.and_eq_true_iff,decide_eq_true_eq]at hw
   exact⟨[.v (.int k m)],⟨m,rfl,hw⟩,.cons (.v rfl) .nil,fun ty e=>by cases e;rfl⟩
  ·rename_i s0 bt hty
   rw[hty]
   obtain⟨s,rfl,_,hs⟩:=DataW.trod_string ((hE _ _ hty).str rfl) h
   exact⟨[.s s],⟨s,rfl,hs⟩,.cons (.v rfl) .nil,fun ty e=>by cases e;rfl⟩
  ·rename_i e k bt hty
   rw[hty]
   rw[Bool.and_eq_true_iff]at hd
   obtain⟨hde,hk⟩:=hd
   have hu:=(hE _ _ hty).slice rfl
   cases hety:E.ty e with
   |none=>rw[hety]at hk;cases hk
   |some ety =>
    rw[hety]at hk
    have hk:=gY hk
    have hTe:=hE _ _ hety
    have hsz:P.cellsOf e = ety.size:=by
     have:=hTe.info
     unfold Program.cellsOf
     cases hi:P.info? e with
     |none=>rw[hi]at this;cases this
     |some i=>rw[hi]at this;simp only[Option.map_some,Option.some.injEq,Prod.mk.injEq]at this;simp[this.2.1,Ty.size]
    simp only
    rcases DataW.trod_slice hu h with⟨rfl,_⟩|⟨a,len,cap,elems,rest,m,rfl,rfl,_,hb,hlc,hcm,hel,hat,_⟩
    ·exact⟨[.slc ety.kd []],by rw[hety];exact⟨[],rfl,Nat.zero_le _,by simp⟩,.cons (.slc (b:=0) (off:=0) (fun h=>by simp at h) (Nat.le_refl _) .enil) .nil,fun ty he=>by cases he;simp[Ty.kd,OC,bT]⟩
    ·have hspot:0 < len→a.spot = none:=by
      intro hi
      have h1:=hat 0 hi
      rw[List.getElem?_eq_getElem (by omega),Option.bind_eq_some_iff]at h1
      obtain⟨cs',hc,ht⟩:=h1
      obtain⟨_,hcl,hcc⟩:=World.cells?_some hc
      have hpos:0 < P.cellsOf e:=by rw[hsz];exact hTe.len
      have h0:=hcc 0 hpos
      rw[List.getElem?_eq_getElem (by omega)]at h0
      have:=QR h0
      simpa [Addr.add]using this
     -- the elements, one by one
     have each:∀ i,i < len→∃ x,wfT E n e x∧bT ety.kd x = true∧RepI w Fp.none (.cells x a.block (a.off+i * ety.kd.length)):=by
      intro i hi
      have h1:=hat i hi
      have hlt:i < elems.length:=by omega
      rw[List.getElem?_eq_getElem hlt]at h1
      rw[Option.bind_eq_some_iff]at h1
      obtain⟨cs',hc,ht⟩:=h1
      obtain⟨x,hx1,hx2,hx3⟩:=ih m e cs' _ hde ht
      obtain⟨_,hcl,hcc⟩:=World.cells?_some hc
      refine⟨x,hx1,hx3 _ hety,hx2.cells fun j c hj=>?_⟩
      have hjl:j < P.cellsOf e:=by
       have:=(List.getElem?_eq_some_iff.1 hj).1;omega
      have:=hcc j hjl
      rw[hj]at this
      rw[←this]
      have hsp:=hspot (by omega)
      obtain⟨ab,ao,asp⟩:=a
      simp only at hsp
      subst hsp
      rw[LF,LF,hsz,Ty.abx,Ty.size]
     have all:∀ m,m≤len→∃ xs:List (List T),xs.length = m∧(∀ y∈xs,wfT E n e y)∧RepI w Fp.none (.elems ety.kd xs a.block (a.off+ (len - m) * ety.kd.length)):=by
      intro m
      induction m with
      |zero=>intro _;exact⟨[],rfl,by simp,.enil⟩
      |succ m ihm =>
       intro hm
       obtain⟨xs,h1,h2,h3⟩:=ihm (by omega)
       obtain⟨x,k1,k2,k3⟩:=each (len - (m+1)) (by omega)
       refine⟨x :: xs,by simp[h1],?_,.econs k2 k3 ?_⟩
       ·intro y hy;rcases List.mem_cons.1 hy with rfl|hy
        ·exact k1
        ·exact h2 y hy
       ·have:a.off+ (len - (m+1)) * ety.kd.length+ety.kd.length = a.off+ (len - m) * ety.kd.length:=by
         rw[show len - m = (len - (m+1)) +1 by omega,Nat.add_mul,Nat.one_mul,Nat.add_assoc]
        rw[this];exact h3
     obtain⟨xs,h1,h2,h3⟩:=all len (Nat.le_refl _)
     rw[Nat.sub_self,Nat.zero_mul,Nat.add_zero]at h3
     subst h1
     refine⟨[.slc ety.kd xs],by rw[hety];exact⟨xs,rfl,by omega,h2⟩,.cons (.slc (fun hpos=>?_) hlc h3) .nil,fun ty he=>by cases he;simp[Ty.kd,OC,bT]⟩
     have hlen:0 < xs.length:=by
      rcases Nat.eq_zero_or_pos xs.length with h|h
      ·rw[h]at hpos;simp at hpos
      ·exact h
     have hsp:=hspot hlen
     obtain⟨ab,ao,asp⟩:=a
     simp only at hsp
     rw[hsp]
  ·rename_i fs zc bt hty
   rw[hty]
   rw[Bool.and_eq_true_iff,Bool.and_eq_true_iff]at hd
   obtain⟨⟨hall,hlay⟩,hkd⟩:=hd
   have hT:=hE _ _ hty
   obtain⟨f,hu,hf⟩:=hT.struct rfl
   obtain⟨xs,m,rfl,_,hcl,_,hat⟩:=DataW.trod_struct hu h
   have hct:P.cellsOf t = zc.length:=by
    have:=hT.info
    unfold Program.cellsOf
    cases hi:P.info? t with
    |none=>rw[hi]at this;cases this
    |some i=>rw[hi]at this;simp only[Option.map_some,Option.some.injEq,Prod.mk.injEq]at this;simp[this.2.1]
   have key:∀ (l:List Field) (o:Nat),(∀ fd∈l,fd∈f.toList)→(l.map fun f=>(f.offset,f.type)).all (fun f=>dep E n f.2) = true→lay E o (l.map fun f=>(f.offset,f.type)) = some zc.length→
    ∃ x,aap (wfT E n) (l.map fun f=>(f.offset,f.type)) x∧TI w x (cs.drop o)∧bT ((l.map fun f=>(f.offset,f.type)).flatMap fun f=>match E.ty f.2 with|some ty=>ty.kd|none=>[]) x = true:=by
    intro l
    induction l with
    |nil =>
     intro o _ _ hl
     simp only[List.map_nil,lay,Option.some.injEq]at hl
     refine⟨[],rfl,?_,rfl⟩
     rw[List.drop_eq_nil_of_le (by omega)];exact .nil
    |cons fd l ihl =>
     intro o hmem hal hl
     simp only[List.map_cons,List.all_cons,Bool.and_eq_true_iff]at hal
     simp only[List.map_cons,lay]at hl
     cases hft:E.ty fd.type with
     |none=>rw[hft]at hl;cases hl
     |some fty =>
      rw[hft]at hl
      simp only at hl
      cases hb:Nat.beq fd.offset o with
      |false=>rw[hb]at hl;cases hl
      |true =>
       rw[hb]at hl
       have ho:=gV hb
       obtain⟨x,h1,h2,h3⟩:=ihl (o+fty.size) (fun g hg=>hmem g (List.mem_cons_of_mem _ hg)) hal.2 hl
       obtain⟨i,hi⟩:=List.mem_iff_getElem?.1 (hmem fd (List.mem_cons_self ..))
       have hti:=hat i fd (by rw[←Array.getElem?_toList];exact hi)
       have hcf:P.cellsOf fd.type = fty.size:=by
        have:=(hE _ _ hft).info
        unfold Program.cellsOf
        cases hi:P.info? fd.type with
        |none=>rw[hi]at this;cases this
        |some i=>rw[hi]at this;simp only[Option.map_some,Option.some.injEq,Prod.mk.injEq]at this;simp[this.2.1,Ty.size]
       have hxs:∃ d,xs[i]? = some d:=by
        have:i < f.size:=by
         have:=(List.getElem?_eq_some_iff.1 hi).1;simpa using this
        exact⟨xs[i]'(by omega),by simp⟩
       obtain⟨d',hd'⟩:=hxs
       rw[hd',hcf,ho]at hti
       obtain⟨y,k1,k2,k3⟩:=ih m fd.type _ _ hal.1 hti
       refine⟨y++x,⟨y,x,rfl,k1,h1⟩,?_,?_⟩
       ·have:cs.drop o = (cs.drop o).take fty.size++cs.drop (o+fty.size):=by
         rw[←List.drop_drop,List.take_append_drop]
        rw[this];exact k2.append h2
       ·simp only[List.map_cons,List.flatMap_cons,hft]
        exact lw (k3 _ hft) h3
   rw[←hf]at hall hlay hkd ⊢
   cases hl:lay E 0 (f.toList.map fun f=>(f.offset,f.type))with
   |none=>rw[hl]at hlay;cases hlay
   |some m0 =>
    rw[hl]at hlay
    obtain⟨x,h1,h2,h3⟩:=key f.toList 0 (fun _ h=>h) hall (by rw[hl,gV hlay])
    refine⟨x,h1,by simpa using h2,fun ty he=>?_⟩
    cases he
    rw[gY hkd]at h3
    exact h3
  ·cases hd
def tv(E:Env)(t:TypeId)(x:List T):V:=match E.ty t with
 |some ty=>match ty.agg with|true=>.agg (x.map .t)|false=>match x with|[c]=>.t c|_=>.undef
 |none=>.undef
def tvs(E:Env):List TypeId→List (List T)→List A
 |t :: ts,x :: xs=>.val (tv E t x) :: tvs E ts xs
 |_,_=>[]
inductive WfAll (E:Env) (n:Nat):List TypeId→List (List T)→Prop where
 |nil:WfAll E n [] []
 |cons {t ts x xs} (h:wfT E n t x) (r:WfAll E n ts xs):WfAll E n (t :: ts) (x :: xs)
theorem GT{t:TypeId}{ty:Ty}(hT:TyOk P t ty){n:Nat}(hE:E.ty t = some ty)(hd:dep E n t = true)(ha:ty.agg = false){r:Reach}{b:Nat}{v:Value}(h:Value.okWide P w r b t v)(cs:Array Value):v≠.agg cs:=by
 intro e
 subst e
 cases n with
 |zero=>simp[dep]at hd
 |succ n =>
  unfold dep at hd
  rw[hE]at hd
  split at hd
  ·rename_i he;cases he;have hu:=hT.bool rfl;simp[Value.okWide,Cell.okWide,Cell.ok,hu]at h
  ·rename_i he;cases he;have hu:=hT.int rfl;simp[Value.okWide,Cell.okWide,Cell.ok,hu]at h
  ·rename_i he;cases he;have hu:=hT.str rfl;simp[Value.okWide,Cell.okWide,Cell.ok,hu]at h
  ·rename_i he;cases he;have hu:=hT.slice rfl;simp[Value.okWide,Cell.okWide,Cell.ok,hu]at h
  ·rename_i he;cases he;simp[Ty.agg]at ha
  ·cases hd
theorem MK{t:TypeId}{ty:Ty}(hT:TyOk P t ty)(ha:ty.agg = true){r:Reach}{b:Nat}{v:Value}(h:Value.okWide P w r b t v):∃ cs,v = .agg cs:=by
 obtain⟨d,zc,bt⟩:=ty
 cases d <;> simp[Ty.agg]at ha
 obtain⟨f,hu,_⟩:=hT.struct rfl
 simp only[Value.okWide,hu]at h
 obtain⟨cs,h,_⟩:=h
 exact⟨cs,h⟩
theorem TI.held{x:List T}{cs:List Value}(h:TI w x cs):Held w Fp.none (x.map .t) cs Fp.none:=by
 induction h with
 |nil=>exact .nil
 |@cons x c xs cs h t ih =>
  have:=Held.cons (w:=w) (N:=Fp.none) (x:=.t x) (y:=c) (F1:=Fp.none) (F2:=Fp.none) ⟨⟨c,rfl,h⟩,fun _ _ h=>h⟩ h.oneCell ih (fun _ _ h=>h.elim)
  rwa [Fp.or_none]at this
theorem GF(hE:EnvOk P E){n:Nat}{base:Nat}{sp:Nat→Bool}{held:Bool}:∀ {ts:List TypeId} {vs:List Value} {ds:List (DataW H)} {ps:List MemPlace},(∀ t∈ts,dep E n t = true)→DataW.TrodAll enc P w base sp held ts vs ds ps→
 (∀ (j:Nat) t v,ts[j]? = some t→vs[j]? = some v→Value.okWide P w .any 0 t v∨∃ b,Value.okWide P w .any b t v)→
 ∃ xs,WfAll E n ts xs∧∀ as0 xs0,ArgsR w Fp.none as0 xs0 (tvs E ts xs) vs Fp.none Fp.none
 |[],[],[],_,_,h,_=>⟨[],.nil,fun _ _=>.nil⟩
 |t :: ts,v :: vs,d :: ds,ps,hd,h,hv=>by
  obtain⟨p,q,⟨fuel,h1⟩,h2,_⟩:=h
  have hdt:=hd t (List.mem_cons_self ..)
  obtain⟨x,k1,k2,k3⟩:=P1 hE n fuel t _ _ hdt h1
  obtain⟨xs,k4,k5⟩:=GF hE (fun u hu=>hd u (List.mem_cons_of_mem _ hu)) h2 (fun j u y h3 h4=>hv (j+1) u y (by simpa using h3) (by simpa using h4))
  refine⟨x :: xs,.cons k1 k4,fun as0 xs0=>?_⟩
  have hok:∃ b,Value.okWide P w .any b t v:=by
   rcases hv 0 t v rfl rfl with h|h
   ·exact⟨0,h⟩
   ·exact h
  obtain⟨b,hok⟩:=hok
  cases hty:E.ty t with
  |none=>cases n <;> simp[dep,hty]at hdt
  |some ty =>
   have hT:=hE _ _ hty
   have hh:=k2.held
   have key:∃ ys,VR (tv E t x) v ys∧Held w Fp.none (cellsOf (tv E t x)) ys Fp.none:=by
    cases ha:ty.agg with
    |true =>
     obtain⟨cs,rfl⟩:=MK hT ha hok
     refine⟨cs.toList,?_,?_⟩
     ·simp only[tv,hty,ha,VR]
     ·simp only[tv,hty,ha,cellsOf];exact hh
    |false =>
     have hna:=GT hT hty hdt ha hok
     have hvc:v.cells.toList = [v]:=by
      cases v <;> first|rfl|exact absurd rfl (hna _)
     rw[hvc]at k2 hh
     cases k2 with
     |@cons x0 _ xs1 _ h t =>
      cases t
      refine⟨[v],?_,?_⟩
      ·simp only[tv,hty,ha,VR]
      ·simp only[tv,hty,ha,cellsOf];exact hh
   obtain⟨ys,hvr,hheld⟩:=key
   have:=ArgsR.val (w:=w) (N:=Fp.none) (as0:=as0) (xs0:=xs0) hvr hheld (k5 as0 xs0) (fun _ _ h=>h.elim)
   rw[Fp.or_none]at this
   simpa only[tvs]using this
theorem qn{w':World}{base:Nat}{sp:Nat→Bool}{held:Bool}:∀ {ts:List TypeId} {vs:List Value} {ds:List (DataW H)} {ps:List MemPlace},DataW.TrodAll enc P w base sp held ts vs ds ps→(∀ p∈ps,w.sameAt w' p)→DataW.TrodAll enc P w' base sp held ts vs ds ps
 |[],[],[],_,h,_=>h
 |t :: ts,v :: vs,d :: ds,ps,h,hs=>by
  obtain⟨p,q,⟨fuel,k1⟩,k2,e⟩:=h
  subst e
  exact⟨p,q,⟨fuel,DataW.trod_carry _ _ _ _ k1 fun a ha=>hs a (List.mem_append_left _ ha)⟩,qn k2 fun a ha=>hs a (List.mem_append_right _ ha),rfl⟩
theorem law_calls(hE:EnvOk P E)(hl:laidOutB P = true)(hm:mapsRowed P = true)(hz:((List.range P.types.size).all fun t=>match P.underlying t with|some (.slice e)=>decide (0 < P.cellsOf e)|_=>true) = true)
 {f:FuncId} {n:Nat} {ts:List TypeId} (hts:∀ t∈ts,dep E n t = true∧t < P.types.size) (outs:List (List T)→List (List V)) (hc:∀ xs,WfAll E n ts xs→Fn P f (tvs E ts xs) (.b true) (outs xs))
 {args:Array Value} {ds:List (DataW H)} {ps:List MemPlace} (h:DataW.TrodAll enc P w 0 (fun _=>true) true ts args.toList ds ps) (hv:∀ (j:Nat) t v,ts[j]? = some t→args.toList[j]? = some v→∃ b,Value.okWide P w .any b t v) :
 Calls P f args w fun e W'=>e = .returned (.bool true)∧RowKit.Below w.heap.size w W'∧∃ pa,DataW.TrodAll enc P W' 0 (fun b=>decide (b < w.heap.size)) true ts args.toList ds pa:=by
 obtain⟨xs,h1,h2⟩:=GF hE (fun t ht=>(hts t ht).1) h (fun j t v a b=>.inr (hv j t v a b))
 have hf:=hc xs h1 w Fp.none Fp.none Fp.none args.toList (by simpa only[Fp.or_none]using h2 _ _) (fun _ _ h _=>h) (fun _ _ h _=>h) (fun b o h=>by rcases h with h|h|h <;> exact h.elim)
 rw[Array.toArray_toList]at hf
 refine hf.mono fun e W' ⟨x,Fr,Fo,he,hfr,_,_,_,hres,_⟩=>?_
 obtain⟨ys,hvr,hh⟩:=hres
 have hx:x = .bool true:=by
  simp only[VR]at hvr
  subst hvr
  cases hh with
  |cons h _ t _ =>
   cases t
   obtain⟨⟨v,hv,hr⟩,_⟩:=h
   cases hv
   cases hr with
   |v h=>rfl
 subst hx
 have hblk:∀ b,b < w.heap.size→W'.heap[b]? = w.heap[b]?:=fun b hb=>hfr.block b hb (fun o h=>by rcases h with h|h <;> exact h)
 refine⟨he,⟨hfr.os,hfr.tape,hfr.output,hfr.size,hblk⟩,ps,?_⟩
 have hlt:=h.lt
 have hsame:∀ p∈ps,w.sameAt W' p:=fun p hp=>by
  have:=hlt p hp
  cases p with
  |cell b o=>simp only[World.sameAt,World.cell?];rw[hblk b this]
  |map b=>exact hblk b this
 have hcarry:=qn h hsame
 exact DataW.TrodAll.respare (kids_rows hl hm) (slices_full_of P hz) (fun t ht=>(hts t ht).2) hcarry fun p hp=>by simpa using hlt p hp
theorem deps_of{n:Nat}{ts:List TypeId}(h:ts.all (fun t=>dep E n t && decide (t < P.types.size)) = true):∀ t∈ts,dep E n t = true∧t < P.types.size:=fun t ht=>by
 have:=List.all_eq_true.1 h t ht
 rw[Bool.and_eq_true_iff,decide_eq_true_eq]at this
 exact this
end Go.Tm
namespace Go.Tm
def fill{α:Type}(f:α→List T)(z:List T)(xs:List α)(n:Nat):List (List T):=(xs.take n).map f++List.replicate (xs.length - n) z
theorem ir{α:Type}(f:α→List T)(z:List T)(xs:List α){n:Nat}(h:xs.length≤n):fill f z xs n = xs.map f:=by
 simp[fill,List.take_of_length_le h,Nat.sub_eq_zero_of_le h]
theorem im{α:Type}{f:α→List T}{z:List T}{xs:List α}{n:Nat}(h:n < xs.length):(fill f z xs n)[n]? = some z:=by
 unfold fill
 have hl:((xs.take n).map f).length = n:=by simp;omega
 rw[List.getElem?_append_right (by omega),hl,Nat.sub_self]
 have:xs.length - n = (xs.length - (n+1)) +1:=by omega
 rw[this,List.replicate_succ];rfl
theorem il{α:Type}{f:α→List T}{z:List T}{xs:List α}{n:Nat}{x:α}(h:xs[n]? = some x):(fill f z xs n).set n (f x) = fill f z xs (n+1):=by
 have hn:n < xs.length:=(List.getElem?_eq_some_iff.1 h).1
 unfold fill
 have hl:((xs.take n).map f).length = n:=by simp;omega
 rw[List.set_append_right _ _ (by omega),hl,Nat.sub_self,List.take_add_one,h]
 have:xs.length - n = (xs.length - (n+1)) +1:=by omega
 rw[this,List.replicate_succ]
 simp
theorem pR{α:Type}{f:α→List T}{xs:List α}{n:Nat}{x:α}(h:xs[n]? = some x):(xs.take n).map f++ [f x] = (xs.take (n+1)).map f:=by
 rw[List.take_add_one,h];simp
def bV:List ByteArray→Int
 |[]=>0
 |s :: l=>(s.size:Int) +bV l
theorem bp:∀ l,0≤bV l
 |[]=>by simp[bV]
 |s :: l=>by have:=bp l;simp only[bV];omega
theorem oN:∀ a b,bV (a++b) = bV a+bV b
 |[],b=>by simp[bV]
 |s :: a,b=>by simp only[List.cons_append,bV,oN a b];omega
theorem N5(l:List ByteArray)(n:Nat):bV (l.take n)≤bV l:=by
 have h:=oN (l.take n) (l.drop n)
 rw[List.take_append_drop]at h
 have:=bp (l.drop n);omega
theorem TB{α:Type}(f:α→List T)(z:List T)(xs:List α)(n:Nat):(fill f z xs n).length = min n xs.length+ (xs.length - n):=by simp[fill]
theorem w8u(y:UInt8):IntKind.u64.wrap (y.toNat:Int) = (y.toNat:Int):=by
 have:=y.toNat_lt
 simp[IntKind.wrap,IntKind.bits,IntKind.signed];omega
theorem wu64{z:Int}(h1:0≤z)(h2:z≤18446744073709551615):IntKind.u64.wrap z = z:=by
 simp[IntKind.wrap,IntKind.bits,IntKind.signed];omega
theorem ZI(z:Int):0≤IntKind.u64.wrap z∧IntKind.u64.wrap z≤18446744073709551615:=by
 simp[IntKind.wrap,IntKind.bits,IntKind.signed];omega
theorem Nk{xs:List Int}{n:Nat}{m:Int}:sW (fill (fun n:Int=>[T.v (.int .u8 n)]) [.v (.int .u8 m)] xs n):=by
 intro x h
 simp only[fill,List.mem_append,List.mem_map,List.mem_replicate]at h
 rcases h with⟨y,_,rfl⟩|⟨_,rfl⟩
 ·exact⟨y,rfl⟩
 ·exact⟨m,rfl⟩
theorem gR(a:ByteArray):(cN a).length = a.size:=by simp[cN]
theorem oc(a b:ByteArray):cN (a++b) = cN a++cN b:=by
 simp[cN,ByteArray.data_append]
theorem ku(s:ByteArray):(⟨(bZ (cN s)).toArray⟩:ByteArray) = s:=by
 have:bZ (cN s) = s.data.toList:=by
  simp[bZ,cN,Function.comp_def]
 rw[this]
theorem j4(s:ByteArray):sW (cN s):=fun x hx=>by
 obtain⟨y,_,rfl⟩:=List.mem_map.1 hx;exact⟨_,rfl⟩
def lu{α:Type}(g:Nat→α)(ys:List α)(n:Nat):List α:=(List.range n).map g++ys.drop n
theorem Gr{α:Type}(g:Nat→α)(ys:List α)(n:Nat):(lu g ys n).length = n+ (ys.length - n):=by simp[lu]
theorem jP{α:Type}{xs:List α}{n:Nat}{x:α}(h:n < xs.length):(xs.set n x)[n]? = some x:=by simp[h]
theorem bsa(xs:Array UInt8):(⟨xs⟩:ByteArray).size = xs.size:=rfl
theorem oa{s:ByteArray}{n:Nat}{c:UInt8}(h:s[n]? = some c):(cN s)[n]? = some [.v (.int .u8 c.toNat)]:=by
 have:s.data.toList[n]? = some c:=by
  by_cases hn:n < s.size
  ·rw[getElem?_pos s n hn]at h
   have hd:n < s.data.toList.length:=by simpa using hn
   rw[List.getElem?_eq_getElem hd]
   rw[←h];simp;rfl
  ·rw[getElem?_neg s n hn]at h;cases h
 simp only[cN,List.getElem?_map,this,Option.map_some]
theorem GH{xs:List (List T)}{n:Nat}{m:Int}(h:sW xs):sW (xs.set n [.v (.int .u8 m)]):=fun x hx=>by
 rcases List.mem_or_eq_of_mem_set hx with h1|h1
 ·exact h x h1
 ·exact⟨m,h1⟩
end Go.Tm
namespace Go.Tm
variable {P:Program} {nt:Nat}
def slK:List (Nat×V)→Nat→(V→Prop)→Prop
 |[],_,k=>k .undef
 |(i,x) :: l,j,k=>match Nat.beq i j with|true=>k x|false=>slK l j k
def Y5:List V→Nat→(V→Prop)→Prop
 |[],_,k=>k .undef
 |x :: l,n,k=>match n with|0=>k x|n+1=>Y5 l n k
def rcK:List (Nat×List V)→Nat→Nat→(V→Prop)→Prop
 |[],_,_,k=>k .undef
 |(i,cs) :: l,r,c,k=>match Nat.beq i r with|true=>Y5 cs c k|false=>rcK l r c k
def Y9:List V→Nat→(Nat→Prop)→Prop
 |[],n,k=>k n
 |_ :: l,n,k=>Y9 l (n+1) k
def gnK:List (Nat×List V)→Nat→(Option Nat→Prop)→Prop
 |[],_,k=>k none
 |(i,cs) :: l,r,k=>match Nat.beq i r with|true=>Y9 cs 0 fun n=>k (some n)|false=>gnK l r k
def mpK:List (Nat×List Value)→Nat→(Option (List Value)→Prop)→Prop
 |[],_,k=>k none
 |(i,x) :: l,j,k=>match Nat.beq i j with|true=>k (some x)|false=>mpK l j k
def YX:List (Nat×V)→Nat→V→(List (Nat×V)→Prop)→Prop
 |[],d,x,k=>k [(d,x)]
 |(i,y) :: l,d,x,k=>match Nat.beq i d with|true=>k ((d,x) :: l)|false=>YX l d x fun l=>k ((i,y) :: l)
def hot:V→Bool
 |.t _|.own _ _|.nils|.iptr _|.undef=>false
 |_=>true
def IA(q:Kl):List (Nat×V)→(List (Nat×V)→Prop)→Prop
 |[],k=>k []
 |(i,y) :: l,k=>match hot y with|true=>fk (y.pois q) fun y=>IA q l fun l=>k ((i,y) :: l)|false=>IA q l fun l=>k ((i,y) :: l)
def WD:List V→Nat→V→(List V→Prop)→Prop
 |[],_,_,_=>False
 |y :: l,n,x,k=>match n with|0=>k (x :: l)|n+1=>WD l n x fun l=>k (y :: l)
def Rc:List (Nat×List V)→Nat→Nat→V→(List (Nat×List V)→Prop)→Prop
 |[],_,_,_,_=>False
 |(i,cs) :: l,r,c,x,k=>match Nat.beq i r with|true=>WD cs c x fun cs=>k ((i,cs) :: l)|false=>Rc l r c x fun l=>k ((i,cs) :: l)
def Ir:Nat→(List V→Prop)→Prop
 |0,k=>k []
 |n+1,k=>Ir n fun l=>k (.undef :: l)
def Rf:List (Nat×List V)→Nat→Nat→(List (Nat×List V)→Prop)→Prop
 |[],r,n,k=>Ir n fun cs=>k [(r,cs)]
 |(i,cs) :: l,r,n,k=>match Nat.beq i r with|true=>Ir n fun cs=>k ((i,cs) :: l)|false=>Rf l r n fun l=>k ((i,cs) :: l)
def Rd:List (Nat×List Value)→Nat→List Value→(List (Nat×List Value)→Prop)→Prop
 |[],d,x,k=>k [(d,x)]
 |(i,y) :: l,d,x,k=>match Nat.beq i d with|true=>k ((d,x) :: l)|false=>Rd l d x fun l=>k ((i,y) :: l)
def wrK(H:HD)(w:Wr)(k:HD→Prop):Prop:=match H with
 |⟨sl,rt,mp⟩=>match w with
  |.sl d x=>fk x fun x=>YX sl d x fun sl=>k ⟨sl,rt,mp⟩
  |.kl q=>IA q sl fun sl=>k ⟨sl,rt,mp⟩
  |.rc r c x=>fk x fun x=>Rc rt r c x fun rt=>k ⟨sl,rt,mp⟩
  |.rn r n=>Rf rt r n fun rt=>k ⟨sl,rt,mp⟩
  |.mp m ks=>Rd mp m ks fun mp=>k ⟨sl,rt,mp⟩
def cel(l:List (Nat×List V))(r c:Nat):V:=match cO l r with|some cs=>orU cs[c]?|none=>.undef
def rnn(l:List (Nat×List V))(r:Nat):Option Nat:=match cO l r with|some cs=>some cs.length|none=>none
theorem Iv(l:List (Nat×V))(j:Nat)(k:V→Prop):slK l j k = k (orU (cO l j)):=by
 induction l with
 |nil=>rfl
 |cons p l ih =>
  obtain⟨i,x⟩:=p
  simp only[slK,cO]
  cases Nat.beq i j <;> simp only[orU,ih]
theorem XL(l:List V)(j:Nat)(k:V→Prop):Y5 l j k = k (orU l[j]?):=by
 induction l generalizing j with
 |nil=>rfl
 |cons x l ih =>
  cases j with
  |zero=>rfl
  |succ n=>simp only[Y5,ih,List.getElem?_cons_succ]
theorem Dg(l:List (Nat×List V))(r c:Nat)(k:V→Prop):rcK l r c k = k (cel l r c):=by
 induction l with
 |nil=>rfl
 |cons p l ih =>
  obtain⟨i,x⟩:=p
  simp only[rcK,cel,cO]at ih ⊢
  cases Nat.beq i r <;> simp only[ih,XL]
theorem XS(l:List V)(n:Nat)(k:Nat→Prop):Y9 l n k = k (n+l.length):=by
 induction l generalizing n with
 |nil=>rfl
 |cons x l ih=>simp only[Y9,ih,List.length_cons];congr 1;omega
theorem Vf(l:List (Nat×List V))(r:Nat)(k:Option Nat→Prop):gnK l r k = k (rnn l r):=by
 induction l with
 |nil=>rfl
 |cons p l ih =>
  obtain⟨i,x⟩:=p
  simp only[gnK,rnn,cO]at ih ⊢
  cases Nat.beq i r <;> simp only[ih,XS,Nat.zero_add]
theorem U1(l:List (Nat×List Value))(j:Nat)(k:Option (List Value)→Prop):mpK l j k = k (cO l j):=by
 induction l with
 |nil=>rfl
 |cons p l ih =>
  obtain⟨i,x⟩:=p
  simp only[mpK,cO]
  cases Nat.beq i j <;> simp only[ih]
theorem P9{l:List (Nat×V)}{d:Nat}{x:V}{k:List (Nat×V)→Prop}(h:YX l d x k):∃ l',k l'∧∀ j,cO l' j = if j = d then some x else cO l j:=by
 induction l generalizing k with
 |nil=>exact⟨_,h,fun j=>by
  simp only[cO]
  cases e:Nat.beq d j with
  |true=>simp[gV e]
  |false=>have:j≠d:=fun e2=>by subst e2;simp at e
          simp[this]⟩
 |cons p l ih =>
  obtain⟨i,y⟩:=p
  simp only[YX]at h
  cases e:Nat.beq i d with
  |true =>
   rw[e]at h
   have:=gV e;subst this
   exact⟨_,h,fun j=>by
    simp only[cO]
    cases e:Nat.beq i j with
    |true=>simp[gV e]
    |false=>have:j≠i:=fun e2=>by subst e2;simp at e
            simp[this]⟩
  |false =>
   rw[e]at h
   obtain⟨l',hk,hl⟩:=ih h
   refine⟨_,hk,fun j=>?_⟩
   simp only[cO,hl]
   cases e2:Nat.beq i j with
   |true =>
    have:=gV e2;subst this
    have:i≠d:=fun e3=>by subst e3;simp at e
    simp[this]
   |false=>rfl
theorem Mq{l:List (Nat×List Value)}{d:Nat}{x:List Value}{k:List (Nat×List Value)→Prop}(h:Rd l d x k):∃ l',k l'∧∀ j,cO l' j = if j = d then some x else cO l j:=by
 induction l generalizing k with
 |nil=>exact⟨_,h,fun j=>by
  simp only[cO]
  cases e:Nat.beq d j with
  |true=>simp[gV e]
  |false=>have:j≠d:=fun e2=>by subst e2;simp at e
          simp[this]⟩
 |cons p l ih =>
  obtain⟨i,y⟩:=p
  simp only[Rd]at h
  cases e:Nat.beq i d with
  |true =>
   rw[e]at h
   have:=gV e;subst this
   exact⟨_,h,fun j=>by
    simp only[cO]
    cases e:Nat.beq i j with
    |true=>simp[gV e]
    |false=>have:j≠i:=fun e2=>by subst e2;simp at e
            simp[this]⟩
  |false =>
   rw[e]at h
   obtain⟨l',hk,hl⟩:=ih h
   refine⟨_,hk,fun j=>?_⟩
   simp only[cO,hl]
   cases e2:Nat.beq i j with
   |true =>
    have:=gV e2;subst this
    have:i≠d:=fun e3=>by subst e3;simp at e
    simp[this]
   |false=>rfl
theorem QP{q:Kl}{v:V}(h:hot v = false):v.pois q = v:=by cases v <;> first|rfl|cases h
theorem MG{q:Kl}{l:List (Nat×V)}{k:List (Nat×V)→Prop}(h:IA q l k):∃ l',k l'∧∀ j,orU (cO l' j) = (orU (cO l j)).pois q:=by
 induction l generalizing k with
 |nil=>exact⟨_,h,fun j=>rfl⟩
 |cons p l ih =>
  obtain⟨i,y⟩:=p
  simp only[IA]at h
  have key:∀ y',y' = y.pois q→IA q l (fun l=>k ((i,y') :: l))→∃ l',k l'∧∀ j,orU (cO l' j) = (orU (cO ((i,y) :: l) j)).pois q:=fun y' hy h=>by
   obtain⟨l',hk,hl⟩:=ih h
   refine⟨_,hk,fun j=>?_⟩
   simp only[cO]
   cases Nat.beq i j with
   |true=>rw[hy];rfl
   |false=>exact hl j
  cases e:hot y with
  |true=>rw[e]at h;simp only[gX]at h;exact key _ rfl h
  |false=>rw[e]at h;exact key _ (QP e).symm h
theorem ME{l:List V}{n:Nat}{x:V}{k:List V→Prop}(h:WD l n x k):∃ l',k l'∧l'.length = l.length∧∀ j,orU l'[j]? = if j = n then x else orU l[j]?:=by
 induction l generalizing n k with
 |nil=>exact h.elim
 |cons y l ih =>
  cases n with
  |zero=>exact⟨_,h,rfl,fun j=>by cases j <;> simp[orU]⟩
  |succ n =>
   obtain⟨l',hk,hl,hj⟩:=ih h
   refine⟨_,hk,by simp[hl],fun j=>?_⟩
   cases j with
   |zero=>simp
   |succ j=>simp[hj]
theorem Mp{l:List (Nat×List V)}{r c:Nat}{x:V}{k:List (Nat×List V)→Prop}(h:Rc l r c x k):∃ l',k l'∧(∀ j i,cel l' j i = if j = r∧i = c then x else cel l j i)∧∀ j,rnn l' j = rnn l j:=by
 induction l generalizing k with
 |nil=>exact h.elim
 |cons p l ih =>
  obtain⟨q,cs⟩:=p
  simp only[Rc]at h
  cases e:Nat.beq q r with
  |true =>
   rw[e]at h
   have:=gV e;subst this
   obtain⟨cs',hk,hl,hj⟩:=ME h
   refine⟨_,hk,fun j i=>?_,fun j=>?_⟩
   ·simp only[cel,rnn,cO]
    cases e2:Nat.beq q j with
    |true=>have:=gV e2;subst this;simp[hj]
    |false=>have:j≠q:=fun e3=>by subst e3;simp at e2
            simp[this]
   ·simp only[cel,rnn,cO]
    cases e2:Nat.beq q j with
    |true=>simp[hl]
    |false=>rfl
  |false =>
   rw[e]at h
   obtain⟨l',hk,h1,h2⟩:=ih h
   refine⟨_,hk,fun j i=>?_,fun j=>?_⟩
   ·simp only[cel,rnn,cO]
    cases e2:Nat.beq q j with
    |true=>have:=gV e2;subst this
           have:q≠r:=fun e3=>by subst e3;simp at e
           simp[this]
    |false=>exact h1 j i
   ·simp only[cel,rnn,cO]
    cases e2:Nat.beq q j with
    |true=>rfl
    |false=>exact h2 j
theorem xD{n:Nat}{k:List V→Prop}(h:Ir n k):∃ l:List V,k l∧l.length = n∧∀ i:Nat,orU l[i]? = .undef:=by
 induction n generalizing k with
 |zero=>exact⟨_,h,rfl,fun i=>by simp[orU]⟩
 |succ n ih =>
  obtain⟨l,hk,hl,hj⟩:=ih h
  exact⟨_,hk,by simp[hl],fun i=>by cases i <;> simp[orU,hj];exact hj _⟩
theorem ML{l:List (Nat×List V)}{r n:Nat}{k:List (Nat×List V)→Prop}(h:Rf l r n k):∃ l',k l'∧(∀ j i,cel l' j i = if j = r then .undef else cel l j i)∧∀ j,rnn l' j = if j = r then some n else rnn l j:=by
 induction l generalizing k with
 |nil =>
  obtain⟨cs,hk,hl,hj⟩:=xD h
  refine⟨_,hk,fun j i=>?_,fun j=>?_⟩
  ·simp only[cel,rnn,cO]
   cases e2:Nat.beq r j with
   |true=>simp[gV e2,hj]
   |false=>have:j≠r:=fun e3=>by subst e3;simp at e2
           simp[this]
  ·simp only[cel,rnn,cO]
   cases e2:Nat.beq r j with
   |true=>simp[gV e2,hl]
   |false=>have:j≠r:=fun e3=>by subst e3;simp at e2
           simp[this]
 |cons p l ih =>
  obtain⟨q,cs⟩:=p
  simp only[Rf]at h
  cases e:Nat.beq q r with
  |true =>
   rw[e]at h
   have:=gV e;subst this
   obtain⟨cs,hk,hl,hj⟩:=xD h
   refine⟨_,hk,fun j i=>?_,fun j=>?_⟩
   ·simp only[cel,rnn,cO]
    cases e2:Nat.beq q j with
    |true=>simp[gV e2,hj]
    |false=>have:j≠q:=fun e3=>by subst e3;simp at e2
            simp[this]
   ·simp only[cel,rnn,cO]
    cases e2:Nat.beq q j with
    |true=>simp[gV e2,hl]
    |false=>have:j≠q:=fun e3=>by subst e3;simp at e2
            simp[this]
  |false =>
   rw[e]at h
   obtain⟨l',hk,h1,h2⟩:=ih h
   refine⟨_,hk,fun j i=>?_,fun j=>?_⟩
   ·simp only[cel,rnn,cO]
    cases e2:Nat.beq q j with
    |true=>have:=gV e2;subst this
           have:q≠r:=fun e3=>by subst e3;simp at e
           simp[this]
    |false=>exact h1 j i
   ·simp only[cel,rnn,cO]
    cases e2:Nat.beq q j with
    |true=>have:=gV e2;subst this
           have:q≠r:=fun e3=>by subst e3;simp at e
           simp[this]
    |false=>exact h2 j
theorem ND{α:Type}(f:Nat→α)(i:Nat)(x:α)(j:Nat):upd f i x j = if j = i then x else f j:=by
 unfold upd
 cases e:Nat.beq j i with
 |true=>simp[gV e]
 |false=>have:j≠i:=fun e3=>by subst e3;simp at e
         simp[this]
theorem pn{H:HD}{w:Wr}{k:HD→Prop}(h:wrK H w k):∃ H',k H'∧w.ap H.st = H'.st:=by
 obtain⟨sl,rt,mp⟩:=H
 unfold wrK at h
 cases w with
 |sl d x =>
  simp only[gX]at h
  obtain⟨l',hk,hl⟩:=P9 h
  refine⟨_,hk,?_⟩
  simp only[Wr.ap,HD.st]
  congr 1
  funext j
  rw[ND,hl]
  by_cases e:j = d <;> simp[e,orU]
 |kl q =>
  obtain⟨l',hk,hl⟩:=MG h
  refine⟨_,hk,?_⟩
  simp only[Wr.ap,HD.st]
  congr 1
  funext j
  exact(hl j).symm
 |rc r c x =>
  simp only[gX]at h
  obtain⟨l',hk,h1,h2⟩:=Mp h
  refine⟨_,hk,?_⟩
  simp only[Wr.ap,HD.st]
  congr 1
  ·funext j i
   show HV (cel rt) r c x j i = cel l' j i
   rw[h1 j i,gU]
  ·funext j
   exact(h2 j).symm
 |rn r n =>
  obtain⟨l',hk,h1,h2⟩:=ML h
  refine⟨_,hk,?_⟩
  simp only[Wr.ap,HD.st]
  congr 1
  ·funext j i
   show(match Nat.beq j r with|true=>V.undef|false=>cel rt j i) = cel l' j i
   rw[h1 j i]
   cases e:Nat.beq j r with
   |true=>simp[gV e]
   |false=>have:j≠r:=fun e3=>by subst e3;simp at e
           simp[this]
  ·funext j
   show upd (rnn rt) r (some n) j = rnn l' j
   rw[h2 j,ND]
 |mp m ks =>
  obtain⟨l',hk,hl⟩:=Mq h
  refine⟨_,hk,?_⟩
  simp only[Wr.ap,HD.st]
  congr 1
  funext j
  rw[ND,hl]
noncomputable def Cmd.go{α:Type}(c:Cmd α)(H:HD)(K:α→HD→Prop):Prop :=
 Cmd.rec (motive:=fun _=>HD→Prop) (fun a H=>K a H) (fun _=>False) (fun d _ ih H=>slK H.sl d fun v=>ih v H) (fun r c _ ih H=>rcK H.rt r c fun v=>ih v H) (fun m _ ih H=>mpK H.mp m fun v=>ih v H) (fun r _ ih H=>gnK H.rt r fun v=>ih v H) (fun w _ ih H=>wrK H w fun H=>ih H) (fun r c _ ih H=>rcK H.rt r c fun v=>ih (iJ v) H) c H
theorem Cmd.g2{α:Type}(d:Nat)(k:V→Cmd α)(H:HD)(K:α→HD→Prop):(Cmd.sl d k).go H K = slK H.sl d fun v=>(k v).go H K:=rfl
theorem Cmd.g3{α:Type}(r c:Nat)(k:V→Cmd α)(H:HD)(K:α→HD→Prop):(Cmd.rc r c k).go H K = rcK H.rt r c fun v=>(k v).go H K:=rfl
theorem Cmd.g4{α:Type}(m:Nat)(k:Option (List Value)→Cmd α)(H:HD)(K:α→HD→Prop):(Cmd.mp m k).go H K = mpK H.mp m fun v=>(k v).go H K:=rfl
theorem Cmd.g5{α:Type}(r:Nat)(k:Option Nat→Cmd α)(H:HD)(K:α→HD→Prop):(Cmd.gn r k).go H K = gnK H.rt r fun v=>(k v).go H K:=rfl
theorem Cmd.g6{α:Type}(w:Wr)(k:Cmd α)(H:HD)(K:α→HD→Prop):(Cmd.wr w k).go H K = wrK H w fun H=>k.go H K:=rfl
theorem Cmd.g7{α:Type}(r c:Nat)(k:V→Cmd α)(H:HD)(K:α→HD→Prop):(Cmd.rh r c k).go H K = rcK H.rt r c fun v=>(k (iJ v)).go H K:=rfl
theorem Cmd.go_some{α:Type}:∀ {c:Cmd α} {H:HD} {K:α→HD→Prop},c.go H K→∃ a H',c.run H.st = some (a,H'.st)∧K a H'
 |.ret a,H,K,h=>⟨a,H,rfl,h⟩
 |.fail,H,K,h=>h.elim
 |.sl d k,H,K,h=>by
  simp only[Cmd.g2,Iv]at h
  obtain⟨a,H',h1,h2⟩:=Cmd.go_some h
  exact⟨a,H',h1,h2⟩
 |.rh r c k,H,K,h=>by
  simp only[Cmd.g7,Dg]at h
  obtain⟨a,H',h1,h2⟩:=Cmd.go_some h
  exact⟨a,H',h1,h2⟩
 |.rc r c k,H,K,h=>by
  simp only[Cmd.g3,Dg]at h
  obtain⟨a,H',h1,h2⟩:=Cmd.go_some h
  exact⟨a,H',h1,h2⟩
 |.mp m k,H,K,h=>by
  simp only[Cmd.g4,U1]at h
  obtain⟨a,H',h1,h2⟩:=Cmd.go_some h
  exact⟨a,H',h1,h2⟩
 |.gn r k,H,K,h=>by
  simp only[Cmd.g5,Vf]at h
  obtain⟨a,H',h1,h2⟩:=Cmd.go_some h
  exact⟨a,H',h1,h2⟩
 |.wr w k,H,K,h=>by
  simp only[Cmd.g6]at h
  obtain⟨H1,h0,e⟩:=pn h
  obtain⟨a,H',h1,h2⟩:=Cmd.go_some h0
  exact⟨a,H',by simp only[Cmd.run,e,h1],h2⟩
/-! ### Regions -/
def wrH(nt:Nat)(d:Option Nat)(v:V)(H:HD)(k:HD→Prop):Prop:=match d with
 |some d=>match Nat.blt d nt with|true=>wrK H (.sl d v) k|false=>False
 |none=>k H
theorem Kk{d:Option Nat}{v:V}{H:HD}{k:HD→Prop}(h:wrH nt d v H k):∃ H',k H'∧(wrO nt d v).run H.st = some ((),H'.st):=by
 cases d with
 |none=>exact⟨H,h,rfl⟩
 |some d =>
  simp only[wrH]at h
  cases hb:Nat.blt d nt with
  |false=>rw[hb]at h;exact h.elim
  |true =>
   rw[hb]at h
   obtain⟨H',hk,e⟩:=pn h
   exact⟨H',hk,by simp only[wrO,hb,ib,Cmd.b0,Cmd.b1,Cmd.b2,Cmd.b3,Cmd.b4,Cmd.b5,Cmd.b6,Cmd.run,e]⟩
def aaw(C:Cx)(nt:Nat)(ops:Array Oper)(o:Oper)(a:List Ans)(H:HD)(K:List Ans→Prop→HD→Prop):Prop :=
 match o.guard with
 |none=>(fz C o a).go H fun x H=>match x with|(v,a,p)=>wrH nt o.dst v H fun H=>K a p H
 |some (j,want)=>match(ops[j]?).bind (·.dst),a with
  |some t,.b r :: a=>slK H.sl t fun s=>match s with
   |.t (.v (.bool c))=>match(match want,r with|true,true=>true|false,false=>true|_,_=>false)with
    |true=>(fz C o a).go H fun x H=>match x with|(v,a,p)=>wrH nt o.dst v H fun H=>K a (c = r∧p) H
    |false=>wrH nt o.dst (.tup []) H fun H=>K a (c = r) H
   |.tup []=>wrH nt o.dst (.tup []) H fun H=>K a True H
   |_=>False
  |_,_=>False
theorem QM{C:Cx}{ops:Array Oper}{o:Oper}{a:List Ans}{H:HD}{K:List Ans→Prop→HD→Prop}(h:aaw C nt ops o a H K):∃ b p H',K b p H'∧(jn C nt ops o a).run H.st = some ((b,p),H'.st):=by
 have key:∀ {q:List Ans→Prop→Prop} {a:List Ans},(fz C o a).go H (fun x H=>match x with|(v,a,p)=>wrH nt o.dst v H fun H=>K a (q a p) H)→∃ b p H',K b p H'∧((fz C o a).bind fun(v,a,p)=>(wrO nt o.dst v).bind fun _=>.ret (a,q a p)).run H.st = some ((b,p),H'.st):=fun{q a} h=>by
  obtain⟨⟨v,a1,p1⟩,H1,h1,h2⟩:=Cmd.go_some h
  obtain⟨H2,h3,h4⟩:=Kk h2
  refine⟨_,_,_,h3,?_⟩
  rw[Cmd.run_bind_of h1]
  simp only[]
  rw[Cmd.run_bind_of h4]
  rfl
 unfold aaw at h
 unfold jn
 cases hg:o.guard with
 |none =>
  rw[hg]at h
  exact key (q:=fun _ p=>p) h
 |some jw =>
  obtain⟨j,want⟩:=jw
  rw[hg]at h
  simp only at h ⊢
  cases ht:(ops[j]?).bind (·.dst)with
  |none=>rw[ht]at h;exact h.elim
  |some t =>
   rw[ht]at h
   cases a with
   |nil=>exact h.elim
   |cons x a =>
    cases x with
    |b r =>
     simp only[Cmd.run,Iv]at h ⊢
     change (match H.st.sl t with|.t (.v (.bool c))=>_|.tup []=>_|_=>False)at h
     have k0:∀ q:Prop,wrH nt o.dst (.tup []) H (fun H=>K a q H)→∃ b p H',K b p H'∧((wrO nt o.dst (.tup [])).bind fun _=>Cmd.ret (a,q)).run H.st = some ((b,p),H'.st):=fun q h=>by
      obtain⟨H2,h3,h4⟩:=Kk h
      refine⟨_,_,_,h3,?_⟩
      rw[Cmd.run_bind_of h4]
      rfl
     split at h
     ·rename_i c hs
      simp only[hs]
      cases want <;> cases r <;> first|exact key (q:=fun _ p=>c = _∧p) h|exact k0 _ h
     ·rename_i hs
      simp only[hs]
      exact k0 _ h
     ·exact h.elim
    |_=>exact h.elim
def O5(C:Cx)(nt:Nat)(ops:Array Oper):List Oper→List Ans→HD→(Prop→HD→Prop)→Prop
 |[],[],H,K=>K True H
 |[],_ :: _,_,_=>False
 |o :: os,a,H,K=>aaw C nt ops o a H fun a p H=>O5 C nt ops os a H fun q H=>K (p∧q) H
theorem nb{C:Cx}{ops:Array Oper}:∀ {os:List Oper} {a:List Ans} {H:HD} {K:Prop→HD→Prop},O5 C nt ops os a H K→∃ p H',K p H'∧(IW C nt ops os a).run H.st = some (p,H'.st)
 |[],[],H,K,h=>⟨_,_,h,rfl⟩
 |[],_ :: _,H,K,h=>h.elim
 |o :: os,a,H,K,h=>by
  obtain⟨b,p,H1,h1,h2⟩:=QM h
  obtain⟨q,H2,h3,h4⟩:=nb h1
  refine⟨_,_,h3,?_⟩
  simp only[IW]
  rw[Cmd.run_bind_of h2]
  simp only[]
  rw[Cmd.run_bind_of h4]
  rfl
def Cl(lo hi:Nat):List (Nat×V)→(List (Nat×V)→Prop)→Prop
 |[],k=>k []
 |(i,x) :: l,k=>match Nat.ble lo i && Nat.blt i hi with|true=>Cl lo hi l k|false=>Cl lo hi l fun l=>k ((i,x) :: l)
def oH(lo hi:Nat)(H:HD)(k:HD→Prop):Prop:=match H with|⟨sl,rt,mp⟩=>match Nat.blt lo hi with|true=>Cl lo hi sl fun sl=>k ⟨sl,rt,mp⟩|false=>k ⟨sl,rt,mp⟩
theorem kW{lo hi:Nat}:∀ {l:List (Nat×V)} {k:List (Nat×V)→Prop},Cl lo hi l k→∃ l',k l'∧(∀ j,(Nat.ble lo j && Nat.blt j hi) = false→cO l' j = cO l j)∧∀ j,(Nat.ble lo j && Nat.blt j hi) = true→cO l' j = none
 |[],k,h=>⟨_,h,fun _ _=>rfl,fun _ _=>rfl⟩
 |(i,x) :: l,k,h=>by
  simp only[Cl]at h
  cases e:(Nat.ble lo i && Nat.blt i hi)with
  |true =>
   rw[e]at h
   obtain⟨l',hk,h1,h2⟩:=kW h
   refine⟨_,hk,fun j hj=>?_,h2⟩
   rw[h1 j hj]
   simp only[cO]
   cases e2:Nat.beq i j with
   |true=>have:=gV e2;subst this;rw[e]at hj;cases hj
   |false=>rfl
  |false =>
   rw[e]at h
   obtain⟨l',hk,h1,h2⟩:=kW h
   refine⟨_,hk,fun j hj=>?_,fun j hj=>?_⟩
   ·simp only[cO]
    cases e2:Nat.beq i j with
    |true=>rfl
    |false=>exact h1 j hj
   ·simp only[cO]
    cases e2:Nat.beq i j with
    |true=>have:=gV e2;subst this;rw[e]at hj;cases hj
    |false=>exact h2 j hj
theorem Rel.lessSl{g:G}{X:Fp}{st:St}{a:Act}{w:World}{base:Nat→Base}{mb:Nat→Nat}{F:Ix→Fp}(R:Rel g X st a w base mb F){f:Nat→V}(hf:∀ i,f i = st.sl i∨f i = .undef):Rel g X {st with sl:=f} a w base mb F :=
 {nt:=R.nt,par:=R.par,df:=R.df,fx:=R.fx,cell:=R.cell,hdr:=R.hdr,map:=R.map,dis:=R.dis,fresh:=R.fresh,ex:=R.ex,live:=R.live,frame:=R.frame,npar:=R.npar,al:=R.al,
  slots:=fun i=>by
   show RepS w (tot F) base mb {st with sl:=f} (f i) _
   rcases hf i with h|h
   ·rw[h];exact RepS.rc (st:=st) _ _ rfl (fun r c k xs h=>⟨xs,h,rfl⟩) (R.slots i)
   ·rw[h];simp only[RepS]}
theorem Run.lessSl{c:Code}{st:St}{Q:Exit→St→Prop}{f:Nat→V}(hf:∀ i,f i = st.sl i∨f i = .undef)(h:Run P nt c {st with sl:=f} Q):Run P nt c st Q:=fun g hg a w base mb F R=>h g hg a w base mb F (R.lessSl hf)
theorem Run.drop{lo hi:Nat}{c:Code}{H:HD}{Q:Exit→St→Prop}(h:oH lo hi H fun H=>Run P nt c H.st Q):Run P nt c H.st Q:=by
 obtain⟨sl,rt,mp⟩:=H
 simp only[oH]at h
 cases e:Nat.blt lo hi with
 |false=>rw[e]at h;exact h
 |true =>
  rw[e]at h
  obtain⟨l',hk,h1,h2⟩:=kW h
  refine Run.lessSl (f:=fun i=>orU (cO l' i)) (fun i=>?_) hk
  cases e2:(Nat.ble lo i && Nat.blt i hi)with
  |true=>right;simp only[h2 i e2,orU]
  |false=>left;simp only[h1 i e2,HD.st]
theorem Run.sg{C:Cx}(hC:CxOk P C){id:Nat}{ops:Array Oper}{y:Code}{H:HD}{Q:Exit→St→Prop}(lo hi:Nat)(ans:List Ans)(h:O5 C nt ops ops.toList ans H fun p H=>oH lo hi H fun H=>p∧Run P nt y H.st Q):Run P nt (.seq (.region id ops false) y) H.st Q:=by
 obtain⟨p,H',h1,h2⟩:=nb h
 have h3:p∧Run P nt y H'.st Q:=by
  obtain⟨sl,rt,mp⟩:=H'
  constructor
  ·simp only[oH]at h1
   cases e:Nat.blt lo hi with
   |false=>rw[e]at h1;exact h1.1
   |true=>rw[e]at h1;obtain⟨l',hk,_⟩:=kW h1;exact hk.1
  ·refine Run.drop (lo:=lo) (hi:=hi) ?_
   simp only[oH]at h1 ⊢
   cases e:Nat.blt lo hi with
   |false=>rw[e]at h1;exact h1.2
   |true =>
    rw[e]at h1
    have:∀ {l:List (Nat×V)} {k k':List (Nat×V)→Prop},(∀ l,k l→k' l)→Cl lo hi l k→Cl lo hi l k':=fun{l}=>by
     induction l with
     |nil=>intro k k' hkk h;exact hkk _ h
     |cons q l ih =>
      obtain⟨i,x⟩:=q
      intro k k' hkk h
      simp only[Cl]at h ⊢
      cases e:(Nat.ble lo i && Nat.blt i hi)with
      |true=>rw[e]at h;exact ih hkk h
      |false=>rw[e]at h;exact ih (fun l hl=>hkk _ hl) h
    exact this (fun l hl=>hl.2) h1
 exact Run.seqk (Run.region hC ans h2 h3.1 h3.2)
theorem Run.rg{C:Cx}(hC:CxOk P C){id:Nat}{ops:Array Oper}{H:HD}{Q:Exit→St→Prop}(ans:List Ans)(h:O5 C nt ops ops.toList ans H fun p H=>p∧Q .normal H.st):Run P nt (.region id ops false) H.st Q:=by
 obtain⟨p,H',h1,h2⟩:=nb h
 exact Run.region hC ans h2 h1.1 h1.2
/-! ### Drawn regions -/
noncomputable def Cmd.goT{α:Type}(c:Cmd α)(H:HD)(K:α→List Acc→HD→Prop):Prop :=
 Cmd.rec (motive:=fun _=>HD→(α→List Acc→HD→Prop)→Prop) (fun a H K=>K a [] H) (fun _ _=>False) (fun d _ ih H K=>slK H.sl d fun v=>ih v H fun a l H=>K a (.sl d v :: l) H) (fun r c _ ih H K=>rcK H.rt r c fun v=>ih v H fun a l H=>K a (.rc r c :: l) H) (fun m _ ih H K=>mpK H.mp m fun v=>ih v H fun a l H=>K a (.mp m :: l) H) (fun r _ ih H K=>gnK H.rt r fun v=>ih v H fun a l H=>K a (.gn r :: l) H) (fun w _ ih H K=>wrK H w fun H=>ih H fun a l H=>K a (.w w :: l) H) (fun r c _ ih H K=>rcK H.rt r c fun v=>ih (iJ v) H fun a l H=>K a (.rh r c (iJ v) :: l) H) c H K
theorem Cmd.t2{α:Type}(d:Nat)(k:V→Cmd α)(H:HD)(K:α→List Acc→HD→Prop):(Cmd.sl d k).goT H K = slK H.sl d fun v=>(k v).goT H fun a l H=>K a (.sl d v :: l) H:=rfl
theorem Cmd.t3{α:Type}(r c:Nat)(k:V→Cmd α)(H:HD)(K:α→List Acc→HD→Prop):(Cmd.rc r c k).goT H K = rcK H.rt r c fun v=>(k v).goT H fun a l H=>K a (.rc r c :: l) H:=rfl
theorem Cmd.t4{α:Type}(m:Nat)(k:Option (List Value)→Cmd α)(H:HD)(K:α→List Acc→HD→Prop):(Cmd.mp m k).goT H K = mpK H.mp m fun v=>(k v).goT H fun a l H=>K a (.mp m :: l) H:=rfl
theorem Cmd.t5{α:Type}(r:Nat)(k:Option Nat→Cmd α)(H:HD)(K:α→List Acc→HD→Prop):(Cmd.gn r k).goT H K = gnK H.rt r fun v=>(k v).goT H fun a l H=>K a (.gn r :: l) H:=rfl
theorem Cmd.t6{α:Type}(w:Wr)(k:Cmd α)(H:HD)(K:α→List Acc→HD→Prop):(Cmd.wr w k).goT H K = wrK H w fun H=>k.goT H fun a l H=>K a (.w w :: l) H:=rfl
theorem Cmd.t7{α:Type}(r c:Nat)(k:V→Cmd α)(H:HD)(K:α→List Acc→HD→Prop):(Cmd.rh r c k).goT H K = rcK H.rt r c fun v=>(k (iJ v)).goT H fun a l H=>K a (.rh r c (iJ v) :: l) H:=rfl
theorem Cmd.goT_some{α:Type}:∀ {c:Cmd α} {H:HD} {K:α→List Acc→HD→Prop},c.goT H K→∃ a l H',c.tr H.st = some (a,l,H'.st)∧K a l H'
 |.ret a,H,K,h=>⟨a,[],H,rfl,h⟩
 |.fail,H,K,h=>h.elim
 |.sl d k,H,K,h=>by
  simp only[Cmd.t2,Iv]at h
  obtain⟨a,l,H',h1,h2⟩:=Cmd.goT_some h
  exact⟨a,_,H',cS h1,h2⟩
 |.rh r c k,H,K,h=>by
  simp only[Cmd.t7,Dg]at h
  obtain⟨a,l,H',h1,h2⟩:=Cmd.goT_some h
  exact⟨a,_,H',cS h1,h2⟩
 |.rc r c k,H,K,h=>by
  simp only[Cmd.t3,Dg]at h
  obtain⟨a,l,H',h1,h2⟩:=Cmd.goT_some h
  exact⟨a,_,H',cS h1,h2⟩
 |.mp m k,H,K,h=>by
  simp only[Cmd.t4,U1]at h
  obtain⟨a,l,H',h1,h2⟩:=Cmd.goT_some h
  exact⟨a,_,H',cS h1,h2⟩
 |.gn r k,H,K,h=>by
  simp only[Cmd.t5,Vf]at h
  obtain⟨a,l,H',h1,h2⟩:=Cmd.goT_some h
  exact⟨a,_,H',cS h1,h2⟩
 |.wr w k,H,K,h=>by
  simp only[Cmd.t6]at h
  obtain⟨H1,h0,e⟩:=pn h
  obtain⟨a,l,H',h1,h2⟩:=Cmd.goT_some h0
  exact⟨a,_,H',by simp only[Cmd.tr,e];exact cS h1,h2⟩
def Mc(nt:Nat)(d:Option Nat)(v:V)(l:List Acc)(H:HD)(k:List Acc→HD→Prop):Prop:=match d with
 |some d=>match Nat.blt d nt with|true=>fk v fun v=>wrK H (.sl d v) fun H=>k (l++ [.w (.sl d v)]) H|false=>False
 |none=>k l H
def aav(C:Cx)(nt:Nat)(ops:Array Oper)(o:Oper)(a:List Ans)(H:HD)(K:Prop→List Acc→HD→Prop):Prop :=
 match o.guard with
 |none=>(fz C o a).goT H fun x l H=>match x with|(v,[],p)=>Mc nt o.dst v l H fun l H=>K p l H|_=>False
 |some (j,want)=>match(ops[j]?).bind (·.dst),a with
  |some t,.b r :: a=>slK H.sl t fun s=>match s with
   |.t (.v (.bool c))=>match(match want,r with|true,true=>true|false,false=>true|_,_=>false)with
    |true=>(fz C o a).goT H fun x l H=>match x with|(v,[],p)=>Mc nt o.dst v (.sl t (.t (.v (.bool c))) :: l) H fun l H=>K (c = r∧p) l H|_=>False
    |false=>match a with|[]=>Mc nt o.dst (.tup []) [.sl t (.t (.v (.bool c)))] H fun l H=>K (c = r) l H|_=>False
   |.tup []=>match a with|[]=>Mc nt o.dst (.tup []) [.sl t (.tup [])] H fun l H=>K True l H|_=>False
   |_=>False
  |_,_=>False
theorem FF{d:Option Nat}{v:V}{l:List Acc}{H:HD}{K:List Acc→HD→Prop}(h:Mc nt d v l H K):∃ l2 H',K (l++l2) H'∧(wrO nt d v).tr H.st = some ((),l2,H'.st):=by
 cases d with
 |none=>exact⟨[],H,by rw[List.append_nil];exact h,rfl⟩
 |some d =>
  simp only[Mc]at h
  cases hb:Nat.blt d nt with
  |false=>rw[hb]at h;exact h.elim
  |true =>
   rw[hb]at h
   simp only[gX]at h
   obtain⟨H',hk,e⟩:=pn h
   exact⟨_,H',hk,by simp only[wrO,hb,ib,Cmd.b0,Cmd.b1,Cmd.b2,Cmd.b3,Cmd.b4,Cmd.b5,Cmd.b6,Cmd.tr,GI,e]⟩
theorem QL{C:Cx}{ops:Array Oper}{o:Oper}{a:List Ans}{H:HD}{K:Prop→List Acc→HD→Prop}(h:aav C nt ops o a H K):∃ p l H',K p l H'∧(opC C nt ops o a).tr H.st = some (p,l,H'.st):=by
 have key:∀ {q:Prop→Prop} {a:List Ans} {l0:List Acc},(fz C o a).goT H (fun x l H=>match x with|(v,[],p)=>Mc nt o.dst v (l0++l) H fun l H=>K (q p) l H|_=>False)→
  ∃ p l H',K p (l0++l) H'∧(((fz C o a).bind fun(v,a,p)=>(wrO nt o.dst v).bind fun _=>Cmd.ret (a,q p)).bind fun(a,p)=>match a with|[]=>Cmd.ret p|_ :: _=>.fail).tr H.st = some (p,l,H'.st):=fun{q a l0} h=>by
  obtain⟨⟨v,a1,p1⟩,l1,H1,h1,h2⟩:=Cmd.goT_some h
  cases a1 with
  |cons y ys=>exact h2.elim
  |nil =>
   obtain⟨l2,H2,h3,h4⟩:=FF h2
   refine⟨_,l1++l2,_,by rw[←List.append_assoc];exact h3,?_⟩
   have e1:((fz C o a).bind fun(v,a,p)=>(wrO nt o.dst v).bind fun _=>Cmd.ret (a,q p)).tr H.st = some (([],q p1),l1++l2,H2.st):=by
    refine iv h1 ?_
    have:=iv (f:=fun _=>Cmd.ret (([]:List Ans),q p1)) h4 rfl
    rwa [List.append_nil]at this
   have:=iv (f:=fun(x:List Ans×Prop)=>match x.1 with|[]=>Cmd.ret x.2|_ :: _=>.fail) e1 rfl
   rw[List.append_nil]at this
   exact this
 unfold aav at h
 unfold opC jn
 cases hg:o.guard with
 |none =>
  rw[hg]at h
  obtain⟨p,l,H',h1,h2⟩:=key (q:=fun p=>p) (l0:=[]) h
  exact⟨p,l,H',h1,h2⟩
 |some jw =>
  obtain⟨j,want⟩:=jw
  rw[hg]at h
  simp only at h ⊢
  cases ht:(ops[j]?).bind (·.dst)with
  |none=>rw[ht]at h;exact h.elim
  |some t =>
   rw[ht]at h
   cases a with
   |nil=>exact h.elim
   |cons x a =>
    cases x with
    |b r =>
     simp only[Cmd.b0,Cmd.b1,Cmd.b2,Cmd.b3,Cmd.b4,Cmd.b5,Cmd.b6,Cmd.tr,Iv]at h ⊢
     change (match H.st.sl t with|.t (.v (.bool c))=>_|.tup []=>_|_=>False)at h
     have k0:∀ (q:Prop) (v:V) (b0:List Ans),(match b0 with|[]=>Mc nt o.dst (.tup []) [.sl t v] H (fun l H=>K q l H)|_=>False)→∃ p l H',K p l H'∧GI (.sl t v) ((((wrO nt o.dst (.tup [])).bind fun _=>Cmd.ret (b0,q)).bind fun(a,p)=>match a with|[]=>Cmd.ret p|_ :: _=>.fail).tr H.st) = some (p,l,H'.st):=fun q v b0 h=>by
      cases b0 with
      |cons y ys=>exact h.elim
      |nil =>
       obtain⟨l2,H2,h3,h4⟩:=FF h
       refine⟨_,_,_,h3,?_⟩
       refine cS ?_
       have e1:=iv (f:=fun _=>Cmd.ret (([]:List Ans),q)) h4 rfl
       rw[List.append_nil]at e1
       have:=iv (f:=fun(x:List Ans×Prop)=>match x.1 with|[]=>Cmd.ret x.2|_ :: _=>.fail) e1 rfl
       rwa [List.append_nil]at this
     split at h
     ·rename_i c hs
      simp only[hs]
      have k1:(fz C o a).goT H (fun x l H=>match x with|(v,[],p)=>Mc nt o.dst v (.sl t (.t (.v (.bool c))) :: l) H fun l H=>K (c = r∧p) l H|_=>False)→∃ p l H',K p l H'∧GI (.sl t (.t (.v (.bool c)))) ((((fz C o a).bind fun(v,a,p)=>(wrO nt o.dst v).bind fun _=>Cmd.ret (a,c = r∧p)).bind fun(a,p)=>match a with|[]=>Cmd.ret p|_ :: _=>.fail).tr H.st) = some (p,l,H'.st):=fun h=>by
       obtain⟨p,l,H',h1,h2⟩:=key (q:=fun p=>c = r∧p) (l0:=[.sl t (.t (.v (.bool c)))]) h
       exact⟨p,_,H',h1,cS h2⟩
      cases want <;> cases r <;> first|exact k1 h|exact k0 _ _ a h
     ·rename_i hs
      simp only[hs]
      exact k0 _ _ a h
     ·exact h.elim
    |_=>exact h.elim
def O6(C:Cx)(nt:Nat)(ops:Array Oper):List Oper→List (List Ans)→HD→(Prop→List (List Acc)→HD→Prop)→Prop
 |[],[],H,K=>K True [] H
 |o :: os,a :: b,H,K=>aav C nt ops o a H fun p l H=>O6 C nt ops os b H fun q r H=>K (p∧q) (l :: r) H
 |_,_,_,_=>False
theorem nc{C:Cx}{ops:Array Oper}:∀ {os:List Oper} {b:List (List Ans)} {H:HD} {K:Prop→List (List Acc)→HD→Prop},O6 C nt ops os b H K→∃ p r H',K p r H'∧(p→∃ tr,evD C nt ops os b H.st = some (tr,H'.st)∧ZB tr∧tr.map (·.2) = r)
 |[],[],H,K,h=>⟨_,_,_,h,fun _=>⟨[],rfl,trivial,rfl⟩⟩
 |[],_ :: _,H,K,h=>h.elim
 |_ :: _,[],H,K,h=>h.elim
 |o :: os,a :: b,H,K,h=>by
  obtain⟨p,l,H1,h1,h2⟩:=QL h
  obtain⟨q,r,H2,h3,h4⟩:=nc h1
  refine⟨_,_,_,h3,fun hp=>?_⟩
  obtain⟨tr,k1,k2,k3⟩:=h4 hp.2
  exact⟨(p,l) :: tr,by simp only[evD,h2,k1],⟨hp.1,k2⟩,by simp[k3]⟩
theorem Run.rgD{C:Cx}(hC:CxOk P C){id:Nat}{ops:Array Oper}{H:HD}{Q:Exit→St→Prop}(hm:P.follows .mixedOrders = true)(ans:List (List Ans))(h:O6 C nt ops ops.toList ans H fun p r H=>p∧PP ops.toList r = true∧Q .normal H.st):Run P nt (.region id ops true) H.st Q:=by
 obtain⟨p,r,H',h1,h2⟩:=nc h
 obtain⟨tr,k1,k2,k3⟩:=h2 h1.1
 refine Run.regionD hC hm ans k1 k2 (jU ?_) h1.2.2
 rw[k3];exact h1.2.1
theorem Run.sgD{C:Cx}(hC:CxOk P C){id:Nat}{ops:Array Oper}{y:Code}{H:HD}{Q:Exit→St→Prop}(hm:P.follows .mixedOrders = true)(lo hi:Nat)(ans:List (List Ans))(h:O6 C nt ops ops.toList ans H fun p r H=>p∧PP ops.toList r = true∧oH lo hi H fun H=>Run P nt y H.st Q):Run P nt (.seq (.region id ops true) y) H.st Q:=by
 obtain⟨p,r,H',h1,h2⟩:=nc h
 obtain⟨tr,k1,k2,k3⟩:=h2 h1.1
 refine Run.seqk (Run.regionD hC hm ans k1 k2 (jU ?_) (Run.drop h1.2.2))
 rw[k3];exact h1.2.1
/-! ### Conditions, ends, beginnings -/
def abo(c:Operand)(H:HD)(A B:Prop):Prop:=(rdO c).go H fun v _=>match v with|.t (.v (.bool b))=>(b = true→A)∧(b = false→B)|_=>False
theorem Run.cn{c:Operand}{x y:Code}{H:HD}{Q:Exit→St→Prop}(h:abo c H (Run P nt x H.st Q) (Run P nt y H.st Q)):Run P nt (.cond c x y) H.st Q:=by
 obtain⟨v,H',h1,h2⟩:=Cmd.go_some h
 have h1:=KM h1
 split at h2
 ·exact Run.cond h1 h2.1 h2.2
 ·exact h2.elim
def B9:List (Nat×V)→(List (Nat×V)→Prop)→Prop
 |[],k=>k []
 |(i,v) :: l,k=>fk v fun v=>B9 l fun l=>k ((i,v) :: l)
def qR:List V→(List V→Prop)→Prop
 |[],k=>k []
 |v :: l,k=>fk v fun v=>qR l fun l=>k (v :: l)
def Ca:List (Nat×List V)→(List (Nat×List V)→Prop)→Prop
 |[],k=>k []
 |(i,cs) :: l,k=>qR cs fun cs=>Ca l fun l=>k ((i,cs) :: l)
def lV(H:HD)(k:HD→Prop):Prop:=match H with|⟨sl,rt,mp⟩=>B9 sl fun sl=>Ca rt fun rt=>k ⟨sl,rt,mp⟩
theorem M3(l:List (Nat×V))(k:List (Nat×V)→Prop):B9 l k = k l:=by
 induction l generalizing k with
 |nil=>rfl
 |cons p l ih=>obtain⟨i,v⟩:=p;simp only[B9,gX,ih]
theorem Cc(l:List V)(k:List V→Prop):qR l k = k l:=by
 induction l generalizing k with
 |nil=>rfl
 |cons p l ih=>simp only[qR,gX,ih]
theorem M4(l:List (Nat×List V))(k:List (Nat×List V)→Prop):Ca l k = k l:=by
 induction l generalizing k with
 |nil=>rfl
 |cons p l ih=>obtain⟨i,v⟩:=p;simp only[Ca,Cc,ih]
theorem qf(H:HD)(k:HD→Prop):lV H k = k H:=by
 obtain⟨sl,rt,mp⟩:=H
 simp only[lV,M3,M4]
def Ur(nt i:Nat):A→V
 |.val v=>sC (nt+i) 0 v
 |.bor v=>alV (nt+i) v
 |.ptr _=>.ptr ⟨nt+i,none,0⟩
 |.rel j st off=>.ptr ⟨nt+j,st,off⟩
def IL(nt:Nat):Nat→List A→List (Nat×V)
 |_,[]=>[]
 |i,a :: as=>(i,Ur nt i a) :: IL nt (i+1) as
def sD(nt:Nat):Nat→List A→List (Nat×List V)
 |_,[]=>[]
 |i,a :: as=>(nt+i,dK a) :: sD nt (i+1) as
def RY(nt:Nat)(as:List A):HD:=⟨IL nt 0 as,sD nt 0 as,[]⟩
theorem B3(nt:Nat):∀ (as:List A) (k j:Nat),cO (IL nt k as) j = if k≤j then(as[j - k]?).map (Ur nt j)else none
 |[],k,j=>by simp[IL,cO]
 |a :: as,k,j=>by
  simp only[IL,cO]
  cases e:Nat.beq k j with
  |true=>have:=gV e;subst this;simp
  |false =>
   have hne:k≠j:=fun e3=>by subst e3;simp at e
   simp only[B3 nt as (k+1) j]
   by_cases h:k≤j
   ·have h1:k+1≤j:=by omega
    have:j - k = (j - (k+1)) +1:=by omega
    rw[if_pos h,if_pos h1,this,List.getElem?_cons_succ]
   ·rw[if_neg h,if_neg (by omega)]
theorem sA(nt:Nat):∀ (as:List A) (k r:Nat),cO (sD nt k as) r = if nt+k≤r then(as[r - nt - k]?).map dK else none
 |[],k,j=>by simp[sD,cO]
 |a :: as,k,j=>by
  simp only[sD,cO]
  cases e:Nat.beq (nt+k) j with
  |true=>have:=gV e;subst this;simp
  |false =>
   have hne:nt+k≠j:=fun e3=>by subst e3;simp at e
   simp only[sA nt as (k+1) j]
   by_cases h:nt+k≤j
   ·have h1:nt+ (k+1)≤j:=by omega
    have:j - nt - k = (j - nt - (k+1)) +1:=by omega
    rw[if_pos h,if_pos h1,this,List.getElem?_cons_succ]
   ·rw[if_neg h,if_neg (by omega)]
theorem uM(d:Nat):∀ (cs:List V) (o:Nat) (st:St) (r c:Nat),(st.fills d o cs).rc r c = if r = d∧o≤c∧c < o+cs.length then orU cs[c - o]? else st.rc r c
 |[],o,st,r,c=>by
  have:¬(r = d∧o≤c∧c < o+0):=by omega
  simp only[St.fills,List.length_nil,if_neg this]
 |x :: cs,o,st,r,c=>by
  simp only[St.fills,uM d cs (o+1),List.length_cons]
  by_cases h:r = d∧o+1≤c∧c < o+1+cs.length
  ·have e:c - o = (c - (o+1)) +1:=by omega
   rw[if_pos h,if_pos (by omega),e,List.getElem?_cons_succ]
  ·rw[if_neg h]
   show HV st.rc d o x r c = _
   rw[gU]
   by_cases h2:r = d∧c = o
   ·obtain⟨rfl,rfl⟩:=h2
    rw[if_pos ⟨rfl,rfl⟩,if_pos (by omega)];simp[orU]
   ·rw[if_neg h2,if_neg (by omega)]
theorem La(nt:Nat):∀ (as:List A) (k:Nat) (st:St),(∀ r c,nt+k≤r→st.rc r c = .undef)→∀ r c,(gA nt k as st).rc r c = match cO (sD nt k as) r with|some cs=>orU cs[c]?|none=>st.rc r c
 |[],k,st,h,r,c=>rfl
 |a :: as,k,st,h,r,c=>by
  simp only[gA]
  rw[La nt as (k+1) _ (fun r c hr=>by rw[uM,if_neg (by omega)];exact h r c (by omega))]
  simp only[sD,cO]
  cases e:Nat.beq (nt+k) r with
  |true =>
   have:=gV e;subst this
   have e2:cO (sD nt (k+1) as) (nt+k) = none:=by rw[sA,if_neg (by omega)]
   rw[e2]
   simp only[uM]
   by_cases hc:c < (dK a).length
   ·rw[if_pos ⟨by first|rfl|trivial,by omega,by omega⟩];simp
   ·rw[if_neg (fun hh=>hc (by have:=hh.2.2;omega)),h _ _ (Nat.le_refl _),List.getElem?_eq_none (by omega)];rfl
  |false =>
   have hne:nt+k≠r:=fun e3=>by subst e3;simp at e
   cases cO (sD nt (k+1) as) r with
   |some cs=>rfl
   |none=>simp only[uM];rw[if_neg (fun hh=>hne hh.1.symm)]
theorem B5(nt:Nat):∀ (as:List A) (k:Nat) (st:St),(gA nt k as st).rn = st.rn∧(gA nt k as st).mp = st.mp
 |[],k,st=>⟨rfl,rfl⟩
 |a :: as,k,st=>by
  have:∀ (cs:List V) (o:Nat) (st:St),(st.fills (nt+k) o cs).mp = st.mp:=fun cs=>by
   induction cs with
   |nil=>intro o st;rfl
   |cons c cs ih=>intro o st;simp only[St.fills,ih];rfl
  simp only[gA]
  obtain⟨h1,h2⟩:=B5 nt as (k+1) (st.fills (nt+k) 0 (dK a))
  exact⟨by rw[h1,pD],by rw[h2,this]⟩
theorem U3(nt:Nat)(as:List A):ini nt as = (RY nt as).st:=by
 obtain⟨h1,h2⟩:=B5 nt as 0 (bare nt as)
 have e1:MS nt as = fun i=>orU (cO (IL nt 0 as) i):=by
  funext i
  rw[B3]
  simp only[MS,Nat.zero_le,if_true,Nat.sub_zero]
  cases as[i]? with
  |none=>rfl
  |some a=>cases a <;> rfl
 have e2:(gA nt 0 as (bare nt as)).rc = cel (sD nt 0 as):=by
  funext r c
  rw[La nt as 0 _ (fun _ _ _=>rfl)]
  rfl
 have e3:uI nt as = rnn (sD nt 0 as):=by
  funext r
  unfold rnn
  rw[sA]
  simp only[uI,Nat.add_zero,Nat.sub_zero]
  cases e:Nat.ble nt r with
  |true=>rw[if_pos (Nat.le_of_ble_eq_true e)];cases as[r - nt]? <;> rfl
  |false=>rw[if_neg (fun h=>by rw[Nat.ble_eq_true_of_le h]at e;cases e)]
 show St.mk (MS nt as) (gA nt 0 as (bare nt as)).rc (gA nt 0 as (bare nt as)).rn (gA nt 0 as (bare nt as)).mp = _
 rw[e1,e2,h1,h2]
 show St.mk _ _ (uI nt as) (fun _=>none) = _
 rw[e3]
 rfl
end Go.Tm
namespace Go.Tm
variable {P:Program} {nt:Nat}
abbrev HD.s(H:HD)(i:Nat):V:=orU (cO H.sl i)
abbrev HD.c(H:HD)(r c:Nat):V:=cel H.rt r c
abbrev HD.m(H:HD)(m:Nat):List Value:=(cO H.mp m).getD []
structure W (P:Program) (nt:Nat) (c:Code) (H:HD) (Q:Exit→HD→Prop):Prop where
 h:∃ e H',Q e H'∧Run P nt c H.st fun e' s=>e' = e∧s = H'.st
theorem W.mono{c:Code}{H:HD}{Q Q':Exit→HD→Prop}(h:W P nt c H Q)(hq:∀ e H,Q e H→Q' e H):W P nt c H Q':=by
 obtain⟨e,H',q,r⟩:=h
 exact⟨e,H',hq _ _ q,r⟩
theorem Wk{H:HD}{Q:Exit→HD→Prop}(h:Q .normal H):W P nt .skip H Q:=⟨_,_,h,Run.skip ⟨rfl,rfl⟩⟩
theorem W.ret{H:HD}{Q:Exit→HD→Prop}(h:Q .ret H):W P nt .ret H Q:=⟨_,_,h,Run.ret ⟨rfl,rfl⟩⟩
theorem We{H:HD}{Q:Exit→HD→Prop}{id:Nat}(h:Q (.exit id) H):W P nt (.exit id) H Q:=⟨_,_,h,Run.exit ⟨rfl,rfl⟩⟩
def YU(P:Program)(nt:Nat)(y:Code)(Q:Exit→HD→Prop):Exit→HD→Prop:=fun e H=>match e with|.normal=>W P nt y H Q|e=>Q e H
theorem Ws{H:HD}{Q:Exit→HD→Prop}{x y:Code}(h:W P nt x H (YU P nt y Q)):W P nt (.seq x y) H Q:=by
 obtain⟨e1,H1,q,r⟩:=h
 have key:∀ e,e1 = e→(∀ s,e≠.normal)→Q e H1→W P nt (.seq x y) H Q:=fun e he hn hq =>
  ⟨e,H1,hq,Run.seq r (fun s hs=>absurd (he.symm.trans hs.1.symm) (hn s)) (fun e' s _ h=>⟨h.1.trans he,h.2⟩)⟩
 cases e1 with
 |normal =>
  obtain⟨e2,H2,q2,r2⟩:=q
  exact⟨e2,H2,q2,Run.seq r (fun s hs=>by rw[hs.2];exact r2) (fun e s hn h=>absurd h.1 hn)⟩
 |_=>exact key _ rfl (fun _ e=>by cases e) q
def Wt(id:Nat)(Q:Exit→HD→Prop):Exit→HD→Prop:=fun e H=>match e with
 |.exit id'=>match Nat.beq id' id with|true=>Q .normal H|false=>Q (.exit id') H
 |e=>Q e H
theorem Wb{H:HD}{Q:Exit→HD→Prop}{id:Nat}{c:Code}(h:W P nt c H (Wt id Q)):W P nt (.block id c) H Q:=by
 obtain⟨e1,H1,q,r⟩:=h
 cases e1 with
 |exit id' =>
  simp only[Wt]at q
  cases e:Nat.beq id' id with
  |true =>
   rw[e]at q
   exact⟨_,_,q,Run.block (r.mono fun e' s h=>by rw[h.1];show(if _ then _ else _);rw[if_pos (gV e)];exact⟨rfl,h.2⟩)⟩
  |false =>
   rw[e]at q
   have hne:id'≠id:=fun e3=>by subst e3;simp at e
   exact⟨_,_,q,Run.block (r.mono fun e' s h=>by rw[h.1];show(if _ then _ else _);rw[if_neg hne];exact⟨rfl,h.2⟩)⟩
 |normal=>exact⟨_,_,q,Run.block (r.mono fun e' s h=>by rw[h.1];exact⟨rfl,h.2⟩)⟩
 |goto l=>exact⟨_,_,q,Run.block (r.mono fun e' s h=>by rw[h.1];exact⟨rfl,h.2⟩)⟩
 |ret=>exact⟨_,_,q,Run.block (r.mono fun e' s h=>by rw[h.1];exact⟨rfl,h.2⟩)⟩
 |panic ch=>exact⟨_,_,q,Run.block (r.mono fun e' s h=>by rw[h.1];exact⟨rfl,h.2⟩)⟩
 |outgrown=>exact⟨_,_,q,Run.block (r.mono fun e' s h=>by rw[h.1];exact⟨rfl,h.2⟩)⟩
theorem Wc{c:Operand}{x y:Code}{H:HD}{Q:Exit→HD→Prop}(h:abo c H (W P nt x H Q) (W P nt y H Q)):W P nt (.cond c x y) H Q:=by
 obtain⟨v,H',h1,h2⟩:=Cmd.go_some h
 have h1:=KM h1
 split at h2
 ·rename_i _ b _
  cases b with
  |true =>
   obtain⟨e,H1,q,r⟩:=h2.1 rfl
   exact⟨e,H1,q,Run.cond h1 (fun _=>r) (fun e=>by cases e)⟩
  |false =>
   obtain⟨e,H1,q,r⟩:=h2.2 rfl
   exact⟨e,H1,q,Run.cond h1 (fun e=>by cases e) (fun _=>r)⟩
 ·exact h2.elim
theorem W.lessSl{c:Code}{H H2:HD}{Q:Exit→HD→Prop}{f:Nat→V}(hf:∀ i,f i = H.st.sl i∨f i = .undef)(e:H2.st = {H.st with sl:=f})(h:W P nt c H2 Q):W P nt c H Q:=by
 obtain⟨e1,H1,q,r⟩:=h
 exact⟨e1,H1,q,Run.lessSl hf (by rw[←e];exact r)⟩
theorem sL{lo hi:Nat}{H:HD}{k:HD→Prop}(h:oH lo hi H k):∃ H2 f,k H2∧H2.st = {H.st with sl:=f}∧∀ i,f i = H.st.sl i∨f i = .undef:=by
 obtain⟨sl,rt,mp⟩:=H
 simp only[oH]at h
 cases e:Nat.blt lo hi with
 |false=>rw[e]at h;exact⟨_,_,h,rfl,fun _=>.inl rfl⟩
 |true =>
  rw[e]at h
  obtain⟨l',hk,h1,h2⟩:=kW h
  refine⟨_,fun i=>orU (cO l' i),hk,rfl,fun i=>?_⟩
  cases e2:(Nat.ble lo i && Nat.blt i hi)with
  |true=>right;simp only[h2 i e2,orU]
  |false=>left;simp only[h1 i e2,HD.st]
theorem Wd{lo hi:Nat}{c:Code}{H:HD}{Q:Exit→HD→Prop}(h:oH lo hi H fun H=>W P nt c H Q):W P nt c H Q:=by
 obtain⟨H2,f,hk,e,hf⟩:=sL h
 exact W.lessSl hf e hk
theorem W.sg{C:Cx}(hC:CxOk P C){id:Nat}{ops:Array Oper}{y:Code}{H:HD}{Q:Exit→HD→Prop}(lo hi:Nat)(ans:List Ans)(h:O5 C nt ops ops.toList ans H fun p H=>oH lo hi H fun H=>p∧W P nt y H Q):W P nt (.seq (.region id ops false) y) H Q:=by
 obtain⟨p,H',h1,h2⟩:=nb h
 obtain⟨H2,f,hk,e,hf⟩:=sL h1
 obtain⟨e1,H1,q,r⟩:=W.lessSl hf e hk.2
 refine⟨e1,H1,q,Run.seqk (Run.region hC ans h2 hk.1 r)⟩
theorem W.rg{C:Cx}(hC:CxOk P C){id:Nat}{ops:Array Oper}{H:HD}{Q:Exit→HD→Prop}(ans:List Ans)(h:O5 C nt ops ops.toList ans H fun p H=>p∧Q .normal H):W P nt (.region id ops false) H Q:=by
 obtain⟨p,H',h1,h2⟩:=nb h
 exact⟨_,_,h1.2,Run.region hC ans h2 h1.1 ⟨rfl,rfl⟩⟩
theorem W.sgD{C:Cx}(hC:CxOk P C){id:Nat}{ops:Array Oper}{y:Code}{H:HD}{Q:Exit→HD→Prop}(hm:P.follows .mixedOrders = true)(lo hi:Nat)(ans:List (List Ans))(h:O6 C nt ops ops.toList ans H fun p r H=>oH lo hi H fun H=>p∧PP ops.toList r = true∧W P nt y H Q):W P nt (.seq (.region id ops true) y) H Q:=by
 obtain⟨p,r,H',h1,h2⟩:=nc h
 obtain⟨H2,f,hk,e,hf⟩:=sL h1
 obtain⟨tr,k1,k2,k3⟩:=h2 hk.1
 obtain⟨e1,H1,q,rr⟩:=W.lessSl hf e hk.2.2
 refine⟨e1,H1,q,Run.seqk (Run.regionD hC hm ans k1 k2 (jU ?_) rr)⟩
 rw[k3];exact hk.2.1
theorem W.rgD{C:Cx}(hC:CxOk P C){id:Nat}{ops:Array Oper}{H:HD}{Q:Exit→HD→Prop}(hm:P.follows .mixedOrders = true)(ans:List (List Ans))(h:O6 C nt ops ops.toList ans H fun p r H=>p∧PP ops.toList r = true∧Q .normal H):W P nt (.region id ops true) H Q:=by
 obtain⟨p,r,H',h1,h2⟩:=nc h
 obtain⟨tr,k1,k2,k3⟩:=h2 h1.1
 refine⟨_,_,h1.2.2,Run.regionD hC hm ans k1 k2 (jU ?_) ⟨rfl,rfl⟩⟩
 rw[k3];exact h1.2.1
def aa1{α:Type}(nt:Nat)(H:α→HD)(I:α→Prop)(m:α→Nat)(x:α)(s:HD):Prop:=∃ (y:α) (tg:List (Option Nat)) (mm:List Nat),Fits nt (H y) tg mm s.st∧I y∧m y < m x
def aaX{α:Type}(nt:Nat)(H:α→HD)(I:α→Prop)(m:α→Nat)(Q:Exit→HD→Prop)(x:α):Exit→HD→Prop:=fun e s=>match e with|.normal=>aa1 nt H I m x s|e=>Q e s
theorem W.fit{c:Code}{H1:HD}{Q:Exit→HD→Prop}(H:HD)(tg:List (Option Nat))(mm:List Nat)(hf:Fits nt H tg mm H1.st)(h:lV H fun H=>W P nt c H Q):W P nt c H1 Q:=by
 rw[qf]at h
 obtain⟨e,H',q,r⟩:=h
 exact⟨e,H',q,Run.fit H tg mm hf r⟩
theorem Wl{α:Type}{c:Code}{H0:HD}{Q:Exit→HD→Prop}(H:HD→α→HD)(I:α→Prop)(m:α→Nat)(x0:α)(tg:List (Option Nat))(mm:List Nat)(hf:Fits nt (H H0 x0) tg mm H0.st)(h0:I x0)
 (h:∀ x,I x→lV (H H0 x) fun H1=>W P nt c H1 (aaX nt (H H0) I m Q x)):W P nt (.loop c) H0 Q:=by
 have key:∀ n x,m x = n→I x→∃ e H',Q e H'∧Loop P nt c (H H0 x).st fun e' s=>e' = e∧s = H'.st:=by
  intro n
  induction n using Nat.strongRecOn with
  |_ n ih =>
   intro x hm hI
   have hx:=h x hI
   rw[qf]at hx
   obtain⟨e1,H1,q,r⟩:=hx
   cases e1 with
   |normal =>
    obtain⟨y,tg,mm,hf,hy,hlt⟩:=q
    obtain⟨e2,H2,q2,r2⟩:=ih (m y) (hm ▸ hlt) y rfl hy
    refine⟨e2,H2,q2,Loop.step (r.mono fun e s hs=>?_)⟩
    obtain⟨rfl,rfl⟩:=hs
    exact Loop.fit _ tg mm hf r2
   |exit id=>exact⟨_,_,q,Loop.step (r.mono fun e s hs=>by rw[hs.1,hs.2];exact⟨rfl,rfl⟩)⟩
   |goto l=>exact⟨_,_,q,Loop.step (r.mono fun e s hs=>by rw[hs.1,hs.2];exact⟨rfl,rfl⟩)⟩
   |ret=>exact⟨_,_,q,Loop.step (r.mono fun e s hs=>by rw[hs.1,hs.2];exact⟨rfl,rfl⟩)⟩
   |panic ch=>exact⟨_,_,q,Loop.step (r.mono fun e s hs=>by rw[hs.1,hs.2];exact⟨rfl,rfl⟩)⟩
   |outgrown=>exact⟨_,_,q,Loop.step (r.mono fun e s hs=>by rw[hs.1,hs.2];exact⟨rfl,rfl⟩)⟩
 obtain⟨e,H',q,r⟩:=key _ x0 rfl h0
 exact⟨e,H',q,Run.loop (Loop.fit _ tg mm hf r)⟩
/-! ### A function's beginning and end -/
def EndsW(nt:Nat)(E:Env)(rs:List Rs)(as:List A)(R:V→List (List V)→Prop)(e:Exit)(H:HD):Prop:=∃ res outs,R res outs∧Ends nt E rs as res outs e H.st
def Cb:List (List V)→(List (List V)→Prop)→Prop
 |[],k=>k []
 |v :: l,k=>qR v fun v=>Cb l fun l=>k (v :: l)
theorem M5(l:List (List V))(k:List (List V)→Prop):Cb l k = k l:=by
 induction l generalizing k with
 |nil=>rfl
 |cons p l ih=>simp only[Cb,Cc,ih]
def forceR:V→(V→Prop)→Prop
 |.tup vs,k=>go vs fun vs=>k (.tup vs)
 |v,k=>fk v k
where
 go:List V→(List V→Prop)→Prop
 |[],k=>k []
 |v :: l,k=>fk v fun v=>go l fun l=>k (v :: l)
theorem JT(l:List V)(k:List V→Prop):forceR.go l k = k l:=by
 induction l generalizing k with
 |nil=>rfl
 |cons p l ih=>simp only[forceR.go,gX,ih]
theorem QD(v:V)(k:V→Prop):forceR v k = k v:=by
 cases v <;> simp only[forceR,gX,JT]
def endH(nt:Nat)(E:Env)(rs:List Rs)(as:List A)(R:V→List (List V)→Prop)(H:HD)(a:List Ans):Prop:=(RZ nt E rs as a).go H fun x _=>match x with|(r,os,p)=>forceR r fun r=>Cb os fun os=>p∧R r os
theorem Gt{E:Env}{rs:List Rs}{xs:List A}{R:V→List (List V)→Prop}{H:HD}{a:List Ans}(h:endH nt E rs xs R H a):∃ r os p,∃ H':HD,(RZ nt E rs xs a).run H.st = some ((r,os,p),H'.st)∧p∧R r os:=by
 obtain⟨⟨r,os,p⟩,H',h1,h2⟩:=Cmd.go_some h
 simp only[QD,M5]at h2
 exact⟨r,os,p,H',h1,h2⟩
theorem EndsW.rt{E:Env}{rs:List Rs}{xs:List A}{R:V→List (List V)→Prop}{H:HD}(h:endH nt E rs xs R H []):EndsW nt E rs xs R .ret H:=by
 obtain⟨r,os,p,H',h1,h2,h3⟩:=Gt h
 exact⟨r,os,h3,Ends.ret _ h1 h2 rfl rfl⟩
theorem EndsW.nm{E:Env}{rs:List Rs}{xs:List A}{R:V→List (List V)→Prop}{H:HD}(h:endH nt E rs xs R H []):EndsW nt E rs xs R .normal H:=by
 obtain⟨r,os,p,H',h1,h2,h3⟩:=Gt h
 exact⟨r,os,h3,Ends.normal _ h1 h2 rfl rfl⟩
def okA:A→Bool
 |.val v=>(cellsOf v).all bQ
 |.bor v=>(cellsOf v).all bQ
 |.ptr cs=>true
 |.rel _ _ _=>true
def Ot:List A→Bool
 |[]=>true
 |a :: as=>okA a && Ot as
theorem Oq:∀ {as:List A},Ot as = true→∀ a∈as,∀ c∈dK a,bQ c = true∨∃ cs,a = .ptr cs
 |a :: as,h,x,hx,c,hc=>by
  simp only[Ot,Bool.and_eq_true]at h
  rcases List.mem_cons.1 hx with rfl|hx
  ·cases x with
   |val v=>left;exact List.all_eq_true.1 h.1 c hc
   |bor v=>left;exact List.all_eq_true.1 h.1 c hc
   |ptr cs=>right;exact⟨cs,rfl⟩
   |rel _ _ _=>exact absurd hc (by simp[dK])
  ·exact Oq h.2 x hx c hc
def ri(f:Func):Code:=match f.body with|some c=>c|none=>.skip
theorem Fn.any{f:FuncId}{fn:Func}{nt:Nat}{E:Env}{rs:List Rs}{as:List A}{R:V→List (List V)→Prop}(hf:P.funcs[f]? = some fn)(hb:fn.body = some (ri fn))(hnt:fn.ntmps = nt)(hE:EnvOk P E)(hrs:fn.results = (rs.map nq).toArray)
 (h:(Ot as && Nat.ble as.length nt) = true) (hrun:lV (RY nt as) fun H=>W P nt (ri fn) H (EndsW nt E rs as R)):∃ res outs,R res outs∧Fn P f as res outs:=by
 rw[qf]at hrun
 obtain⟨e,H',⟨res,outs,hR,hend⟩,r⟩:=hrun
 rw[Bool.and_eq_true]at h
 refine⟨res,outs,hR,Fn.intro hf hb hnt hE hrs (Nat.le_of_ble_eq_true h.2) (Oq h.1) ?_⟩
 rw[U3]
 exact r.mono fun e' s hs=>by rw[hs.1,hs.2];exact hend
theorem Fn.one{f:FuncId}{fn:Func}{nt:Nat}{E:Env}{rs:List Rs}{as:List A}{res:V}{outs:List (List V)}(hf:P.funcs[f]? = some fn)(hb:fn.body = some (ri fn))(hnt:fn.ntmps = nt)(hE:EnvOk P E)(hrs:fn.results = (rs.map nq).toArray)
 (h:(Ot as && Nat.ble as.length nt) = true) (hrun:lV (RY nt as) fun H=>W P nt (ri fn) H (EndsW nt E rs as fun r o=>r = res∧o = outs)):Fn P f as res outs:=by
 obtain⟨r,o,⟨rfl,rfl⟩,h⟩:=Fn.any hf hb hnt hE hrs h hrun
 exact h
end Go.Tm
namespace Go.Tm
variable {α:Type}
theorem aI{l:List α}{n:Nat}(h:l.length≤n):l.take n = l:=List.take_of_length_le h
theorem kM{a b:List α}{n:Nat}{x:α}(h:a.take n = b.take n)(hx:a[n]? = some x)(hy:b[n]? = some x):a.take (n+1) = b.take (n+1):=by
 rw[List.take_add_one,List.take_add_one,hx,hy,h]
/-! ### Keys of maps -/
theorem Tl{f:α→ByteArray}{s:ByteArray}{xs:List α}{q:Decidable (s∈xs.map f)}:(Value.string s∈xs.map fun x=>Value.string (f x))↔decide (s∈xs.map f) = true:=by
 rw[decide_eq_true_iff]
 simp only[List.mem_map]
 constructor
 ·rintro⟨x,hx,h⟩;injection h with h;exact⟨x,hx,h⟩
 ·rintro⟨x,hx,rfl⟩;exact⟨x,hx,rfl⟩
theorem K7{f:α→ByteArray}{s:ByteArray}{xs:List α}:∀ x∈xs.map (fun x=>Value.string (f x)),kin (.string s) x:=fun x hx=>by
 obtain⟨y,_,rfl⟩:=List.mem_map.1 hx;trivial
theorem uE{f:α→Int}{s:Int}{xs:List α}{q:Decidable (s∈xs.map f)}:(Value.int .i64 s∈xs.map fun x=>Value.int .i64 (f x))↔decide (s∈xs.map f) = true:=by
 rw[decide_eq_true_iff]
 simp only[List.mem_map]
 constructor
 ·rintro⟨x,hx,h⟩;injection h with _ h;exact⟨x,hx,h⟩
 ·rintro⟨x,hx,rfl⟩;exact⟨x,hx,rfl⟩
theorem uH{f:α→Int}{s:Int}{xs:List α}:∀ x∈xs.map (fun x=>Value.int .i64 (f x)),kin (.int .i64 s) x:=fun x hx=>by
 obtain⟨y,_,rfl⟩:=List.mem_map.1 hx;exact rfl
theorem P6{β:Type}{f:α→β}{xs:List α}{n:Nat}{x:α}(h:xs[n]? = some x):(xs.take n).map f++ [f x] = (xs.take (n+1)).map f:=by
 rw[List.take_add_one,h];simp
end Go.Tm
namespace Go.Tm
variable {g:G} {X:Fp} {st st':St} {a:Act} {w:World} {base:Nat→Base} {mb:Nat→Nat} {F:Ix→Fp} {N:Fp} {P:Program}
theorem ka:(∀ {α β:Type} (f:α→β) (l:List α),(l.map f).length = l.length)∧(∀ {α:Type} (a b:List α),(a++b).length = a.length+b.length)∧(∀ {α:Type} (l:List α) (n:Nat) (a:α),(l.set n a).length = l.length)∧(∀ {α:Type} (n:Nat) (a:α),(List.replicate n a).length = n)∧(∀ {α:Type} (a:α) (l:List α),(a :: l).length = l.length+1)∧(∀ {α:Type},([]:List α).length = 0)∧(∀ {α:Type} (n:Nat) (l:List α),(l.take n).length = min n l.length)∧(∀ {α:Type} (n:Nat) (l:List α),(l.drop n).length = l.length - n)∧(∀ {α:Type} (f:α→List T) (z:List T) (xs:List α) (n:Nat),(fill f z xs n).length = min n xs.length+ (xs.length - n))∧(∀ {α:Type} (g:Nat→α) (ys:List α) (n:Nat),(lu g ys n).length = n+ (ys.length - n))∧(∀ n:Nat,(List.range n).length = n)∧(∀ a:ByteArray,(cN a).length = a.size) :=
 ⟨fun _ _=>List.length_map _,fun _ _=>List.length_append,fun _ _ _=>List.length_set,fun _ _=>List.length_replicate,fun _ _=>List.length_cons,List.length_nil,fun _ _=>List.length_take,fun _ _=>List.length_drop,TB,Gr,fun _=>List.length_range,gR⟩
end Go.Tm
namespace Go.Tm
theorem J{a b:Prop}(x:a)(y:b):a∧b:=⟨x,y⟩
theorem OM{p:Prop}(h:p:=by omega):p:=h
theorem AS{p:Prop}(h:p:=by assumption):p:=h
theorem LN{p:Prop}(h:p:=by simp only[ka];omega):p:=h
theorem SI{p:Prop}(h:p:=by simp[*]):p:=h
theorem KR{p:Prop}(h:p:=by kernel_rfl):p:=h
theorem dO{p:Prop}[Decidable p](h:¬p:=by omega):decide p = false:=decide_eq_false h
theorem tO{p:Prop}[Decidable p](h:p:=by omega):decide p = true:=decide_eq_true h
theorem nO{p:Prop}{ip:Decidable p}(h:p:=by omega):(!decide p) = false:=lf h
theorem wO{z:Int}(h1:-9223372036854775808≤z:=by omega)(h2:z≤9223372036854775807:=by omega):IntKind.i64.wrap z = z:=w64 h1 h2
theorem xA{α:Type}{f:α→List T}{xs:List α}{n:Nat}{x:α}(h:xs[n]? = some x:=by assumption):(xs.map f)[n]? = some (f x):=ixl h
theorem mA{α:Type}{f:α→List T}{xs:List α}{n:Nat}{x:α}(h:xs[n]? = some x:=by assumption):0≤(n:Int)∧(xs.map f)[(n:Int).toNat]? = some (f x):=ixm h
theorem LM{α β:Type}{f:α→β}{l:List α}:(l.map f).length = l.length:=List.length_map _
structure Box (q:Prop):Prop where
 out:q
abbrev BT:Ans:=.b true
abbrev BF:Ans:=.b false
abbrev VT:V:=.b true
abbrev VF:V:=.b false
theorem UA:True∧True:=⟨I,I⟩
theorem UB:True∧True∧True:=⟨I,I,I⟩
theorem UC:True∧True∧True∧True:=⟨I,I,I,I⟩
theorem UD:True∧True∧True∧True∧True:=⟨I,I,I,I,I⟩
theorem UE:True∧True∧True∧True∧True∧True:=⟨I,I,I,I,I,I⟩
theorem UF:True∧True∧True∧True∧True∧True∧True:=⟨I,I,I,I,I,I,I⟩
theorem UG:True∧True∧True∧True∧True∧True∧True∧True:=⟨I,I,I,I,I,I,I,I⟩
theorem UH:True∧True∧True∧True∧True∧True∧True∧True∧True:=⟨I,I,I,I,I,I,I,I,I⟩
theorem UI:True∧True∧True∧True∧True∧True∧True∧True∧True∧True:=⟨I,I,I,I,I,I,I,I,I,I⟩
theorem UK:True∧True∧True∧True∧True∧True∧True∧True∧True∧True∧True∧True:=⟨I,I,I,I,I,I,I,I,I,I,I,I⟩
theorem UL:True∧True∧True∧True∧True∧True∧True∧True∧True∧True∧True∧True∧True:=⟨I,I,I,I,I,I,I,I,I,I,I,I,I⟩
theorem UM:True∧True∧True∧True∧True∧True∧True∧True∧True∧True∧True∧True∧True∧True:=⟨I,I,I,I,I,I,I,I,I,I,I,I,I,I⟩
theorem UQ:True∧True∧True∧True∧True∧True∧True∧True∧True∧True∧True∧True∧True∧True∧True∧True∧True∧True:=⟨I,I,I,I,I,I,I,I,I,I,I,I,I,I,I,I,I,I⟩
theorem UR:True∧True∧True∧True∧True∧True∧True∧True∧True∧True∧True∧True∧True∧True∧True∧True∧True∧True∧True:=⟨I,I,I,I,I,I,I,I,I,I,I,I,I,I,I,I,I,I,I⟩
theorem US:(True∧True)∧True:=⟨⟨I,I⟩,I⟩
theorem UT:(True∧True)∧(True∧True)∧True:=⟨⟨I,I⟩,⟨I,I⟩,I⟩
theorem UU:(True∧True)∧(True∧True)∧(True∧True)∧True:=⟨⟨I,I⟩,⟨I,I⟩,⟨I,I⟩,I⟩
theorem UV:True∧(True∧True)∧True:=⟨I,⟨I,I⟩,I⟩
theorem UW:True∧True∧True∧(True∧True)∧True:=⟨I,I,I,⟨I,I⟩,I⟩
end Go.Tm
namespace Go.Tm
theorem JD{p A B:Prop}{i:Decidable p}(x:p→A)(y:¬p→B):(decide p = true→A)∧(decide p = false→B):=⟨fun h=>x (dt h),fun h=>y (df h)⟩
theorem JN{p A B:Prop}{i:Decidable p}(x:¬p→A)(y:p→B):((!decide p) = true→A)∧((!decide p) = false→B):=⟨fun h=>x (ndt h),fun h=>y (ndf h)⟩
@[reducible] def RL:Nat→Ans→List Ans→List Ans|0,_,l=>l|n+1,x,l=>x :: RL n x l
theorem OX{p:Prop}(h:p:=by first|omega|decide|assumption|(simp only[ByteArray.size_extract,List.length_map];omega)|(simp[*];done)):p:=h
theorem FZ{p:Prop}(h:p:=by(repeat' first|exact True.intro|rfl|refine J ?_ ?_|refine Fits.mk ?_ ?_ ?_ ?_|apply Exists.intro);done):p:=h
@[reducible] def SK(s:HD):List Nat→List (Nat×V)→List (Nat×V)|[],l=>l|k :: ks,l=>(k,s.s k) :: SK s ks l
@[reducible] def CK(s:HD)(r i:Nat):Nat→List V→List V|0,l=>l|n+1,l=>s.c r i :: CK s r (i+1) n l
theorem Jf{b:Bool}{A B:Prop}(x:B)(h:b = false:=by exact dO):(b = true→A)∧(b = false→B):=⟨noT h,fun _=>x⟩
theorem Jn{b:Bool}{A B:Prop}(x:B)(h:b = false:=by exact nO):(b = true→A)∧(b = false→B):=⟨noT h,fun _=>x⟩
theorem Jr{b:Bool}{A B:Prop}(x:B)(h:b = false:=by exact rfl):(b = true→A)∧(b = false→B):=⟨noT h,fun _=>x⟩
theorem Kt{b:Bool}{A B:Prop}(x:A)(h:b = true:=by exact tO):(b = true→A)∧(b = false→B):=⟨fun _=>x,noF h⟩
theorem Kr{b:Bool}{A B:Prop}(x:A)(h:b = true:=by exact rfl):(b = true→A)∧(b = false→B):=⟨fun _=>x,noF h⟩
theorem Kn{b:Bool}{A B:Prop}(x:A)(h:b = true:=by exact gt OM):(b = true→A)∧(b = false→B):=⟨fun _=>x,noF h⟩
theorem R2{a b c:Prop}(y:c)(h1:a:=by exact rfl)(h2:b:=by exact rfl):a∧b∧c:=⟨h1,h2,y⟩
theorem R3{a0 a1 a2 a3:Prop}(y:a3)(h0:a0:=by exact rfl)(h1:a1:=by exact rfl)(h2:a2:=by exact rfl):a0∧a1∧a2∧a3:=⟨h0,h1,h2,y⟩
theorem R4{a0 a1 a2 a3 a4:Prop}(y:a4)(h0:a0:=by exact rfl)(h1:a1:=by exact rfl)(h2:a2:=by exact rfl)(h3:a3:=by exact rfl):a0∧a1∧a2∧a3∧a4:=⟨h0,h1,h2,h3,y⟩
theorem R5{a0 a1 a2 a3 a4 a5:Prop}(y:a5)(h0:a0:=by exact rfl)(h1:a1:=by exact rfl)(h2:a2:=by exact rfl)(h3:a3:=by exact rfl)(h4:a4:=by exact rfl):a0∧a1∧a2∧a3∧a4∧a5:=⟨h0,h1,h2,h3,h4,y⟩
theorem R6{a0 a1 a2 a3 a4 a5 a6:Prop}(y:a6)(h0:a0:=by exact rfl)(h1:a1:=by exact rfl)(h2:a2:=by exact rfl)(h3:a3:=by exact rfl)(h4:a4:=by exact rfl)(h5:a5:=by exact rfl):a0∧a1∧a2∧a3∧a4∧a5∧a6:=⟨h0,h1,h2,h3,h4,h5,y⟩
theorem R7{a0 a1 a2 a3 a4 a5 a6 a7:Prop}(y:a7)(h0:a0:=by exact rfl)(h1:a1:=by exact rfl)(h2:a2:=by exact rfl)(h3:a3:=by exact rfl)(h4:a4:=by exact rfl)(h5:a5:=by exact rfl)(h6:a6:=by exact rfl):a0∧a1∧a2∧a3∧a4∧a5∧a6∧a7:=⟨h0,h1,h2,h3,h4,h5,h6,y⟩
theorem R8{a0 a1 a2 a3 a4 a5 a6 a7 a8:Prop}(y:a8)(h0:a0:=by exact rfl)(h1:a1:=by exact rfl)(h2:a2:=by exact rfl)(h3:a3:=by exact rfl)(h4:a4:=by exact rfl)(h5:a5:=by exact rfl)(h6:a6:=by exact rfl)(h7:a7:=by exact rfl):a0∧a1∧a2∧a3∧a4∧a5∧a6∧a7∧a8:=⟨h0,h1,h2,h3,h4,h5,h6,h7,y⟩
theorem R10{a0 a1 a2 a3 a4 a5 a6 a7 a8 a9 a10:Prop}(y:a10)(h0:a0:=by exact rfl)(h1:a1:=by exact rfl)(h2:a2:=by exact rfl)(h3:a3:=by exact rfl)(h4:a4:=by exact rfl)(h5:a5:=by exact rfl)(h6:a6:=by exact rfl)(h7:a7:=by exact rfl)(h8:a8:=by exact rfl)(h9:a9:=by exact rfl):a0∧a1∧a2∧a3∧a4∧a5∧a6∧a7∧a8∧a9∧a10:=⟨h0,h1,h2,h3,h4,h5,h6,h7,h8,h9,y⟩
theorem R11{a0 a1 a2 a3 a4 a5 a6 a7 a8 a9 a10 a11:Prop}(y:a11)(h0:a0:=by exact rfl)(h1:a1:=by exact rfl)(h2:a2:=by exact rfl)(h3:a3:=by exact rfl)(h4:a4:=by exact rfl)(h5:a5:=by exact rfl)(h6:a6:=by exact rfl)(h7:a7:=by exact rfl)(h8:a8:=by exact rfl)(h9:a9:=by exact rfl)(h10:a10:=by exact rfl):a0∧a1∧a2∧a3∧a4∧a5∧a6∧a7∧a8∧a9∧a10∧a11:=⟨h0,h1,h2,h3,h4,h5,h6,h7,h8,h9,h10,y⟩
theorem R12{a0 a1 a2 a3 a4 a5 a6 a7 a8 a9 a10 a11 a12:Prop}(y:a12)(h0:a0:=by exact rfl)(h1:a1:=by exact rfl)(h2:a2:=by exact rfl)(h3:a3:=by exact rfl)(h4:a4:=by exact rfl)(h5:a5:=by exact rfl)(h6:a6:=by exact rfl)(h7:a7:=by exact rfl)(h8:a8:=by exact rfl)(h9:a9:=by exact rfl)(h10:a10:=by exact rfl)(h11:a11:=by exact rfl):a0∧a1∧a2∧a3∧a4∧a5∧a6∧a7∧a8∧a9∧a10∧a11∧a12:=⟨h0,h1,h2,h3,h4,h5,h6,h7,h8,h9,h10,h11,y⟩
theorem R13{a0 a1 a2 a3 a4 a5 a6 a7 a8 a9 a10 a11 a12 a13:Prop}(y:a13)(h0:a0:=by exact rfl)(h1:a1:=by exact rfl)(h2:a2:=by exact rfl)(h3:a3:=by exact rfl)(h4:a4:=by exact rfl)(h5:a5:=by exact rfl)(h6:a6:=by exact rfl)(h7:a7:=by exact rfl)(h8:a8:=by exact rfl)(h9:a9:=by exact rfl)(h10:a10:=by exact rfl)(h11:a11:=by exact rfl)(h12:a12:=by exact rfl):a0∧a1∧a2∧a3∧a4∧a5∧a6∧a7∧a8∧a9∧a10∧a11∧a12∧a13:=⟨h0,h1,h2,h3,h4,h5,h6,h7,h8,h9,h10,h11,h12,y⟩
theorem R15{a0 a1 a2 a3 a4 a5 a6 a7 a8 a9 a10 a11 a12 a13 a14 a15:Prop}(y:a15)(h0:a0:=by exact rfl)(h1:a1:=by exact rfl)(h2:a2:=by exact rfl)(h3:a3:=by exact rfl)(h4:a4:=by exact rfl)(h5:a5:=by exact rfl)(h6:a6:=by exact rfl)(h7:a7:=by exact rfl)(h8:a8:=by exact rfl)(h9:a9:=by exact rfl)(h10:a10:=by exact rfl)(h11:a11:=by exact rfl)(h12:a12:=by exact rfl)(h13:a13:=by exact rfl)(h14:a14:=by exact rfl):a0∧a1∧a2∧a3∧a4∧a5∧a6∧a7∧a8∧a9∧a10∧a11∧a12∧a13∧a14∧a15:=⟨h0,h1,h2,h3,h4,h5,h6,h7,h8,h9,h10,h11,h12,h13,h14,y⟩
theorem R16{a0 a1 a2 a3 a4 a5 a6 a7 a8 a9 a10 a11 a12 a13 a14 a15 a16:Prop}(y:a16)(h0:a0:=by exact rfl)(h1:a1:=by exact rfl)(h2:a2:=by exact rfl)(h3:a3:=by exact rfl)(h4:a4:=by exact rfl)(h5:a5:=by exact rfl)(h6:a6:=by exact rfl)(h7:a7:=by exact rfl)(h8:a8:=by exact rfl)(h9:a9:=by exact rfl)(h10:a10:=by exact rfl)(h11:a11:=by exact rfl)(h12:a12:=by exact rfl)(h13:a13:=by exact rfl)(h14:a14:=by exact rfl)(h15:a15:=by exact rfl):a0∧a1∧a2∧a3∧a4∧a5∧a6∧a7∧a8∧a9∧a10∧a11∧a12∧a13∧a14∧a15∧a16:=⟨h0,h1,h2,h3,h4,h5,h6,h7,h8,h9,h10,h11,h12,h13,h14,h15,y⟩
abbrev O1:List (List V):=[[]]
abbrev O2:List (List V):=[[],[]]
abbrev O3:List (List V):=[[],[],[]]
abbrev O4:List (List V):=[[],[],[],[]]
theorem Zaa{p:Prop}(h:p:=by exact⟨I,I,I,I,I,I,I,⟨SI,I⟩,⟨SI,I⟩,⟨SI,I⟩,⟨SI,I⟩,⟨SI,I⟩,⟨SI,I⟩,⟨SI,I⟩,⟨SI,AS,xA⟩,⟨SI,I⟩,⟨SI,I⟩,⟨SI,I⟩,⟨SI,I⟩,SI,I⟩):p:=h
theorem Zab{p:Prop}(h:p:=by exact⟨I,I,I,I,I,⟨rfl,LN⟩,xA,I,I,⟨nO,I⟩,⟨nO,I⟩,⟨nO,I⟩,⟨nO,I⟩,⟨nO,I⟩,⟨nO,rfl,LN⟩,⟨nO,I⟩,⟨nO,xA⟩,⟨nO,I⟩,nO,I,⟨nO,I⟩,⟨nO,I⟩,⟨nO,I⟩,⟨nO,I⟩,⟨nO,I⟩,⟨nO,I⟩,⟨nO,UB,I,UT,UA,AS⟩,⟨nO,I⟩,nO,I,⟨rfl,I⟩,⟨rfl,I⟩,⟨rfl,I⟩,⟨rfl,I⟩,⟨rfl,I⟩,rfl,I⟩):p:=h
theorem Zac{p:Prop}(h:p:=by exact⟨I,⟨I,⟨I,⟨I,⟨I,UA⟩⟩⟩⟩⟩):p:=h
theorem Zad{p:Prop}(h:p:=by exact⟨I,I,I,⟨rfl,LN⟩,I,xA,I,I,I,I,⟨tO,I⟩,⟨tO,I⟩,⟨tO,I⟩,⟨tO,rfl,LN⟩,⟨tO,I⟩,⟨tO,xA⟩,⟨tO,I⟩,⟨tO,I⟩,⟨tO,I⟩,tO,I⟩):p:=h
theorem Zae{p:Prop}(h:p:=by exact⟨I,I,⟨UB,I,⟨UQ,UQ,I⟩,UA,AS⟩,I,I,⟨rfl,I⟩,⟨rfl,I⟩,⟨rfl,I⟩,⟨rfl,I⟩,⟨rfl,wO⟩,⟨rfl,UB,I,⟨UQ,UA,I⟩,UA,AS⟩,⟨rfl,UB,I,⟨UQ,UQ,I⟩,UA,AS⟩,⟨rfl,I⟩,rfl,I⟩):p:=h
theorem Zaf{p:Prop}(h:p:=by exact⟨I,I,I,I,wO,I,I,I,I,wO,⟨OM,LN⟩,xA,I,I,I,⟨UC,I,⟨⟨I,I,I,I,I,I,I,I,xA,I,I,I⟩,UA,UH,I⟩,UA,AS⟩,I,⟨OM,LN⟩,⟨UK,xA⟩,I⟩):p:=h
theorem Zah{p:Prop}(h:p:=by exact⟨rfl,⟨rfl,rfl,rfl,I⟩,I,I⟩):p:=h
theorem Zaj{p:Prop}(h:p:=by exact⟨gt OM,I⟩):p:=h
theorem Zak{p:Prop}(h:p:=by exact⟨I,I,⟨UA,I,UA,UA,AS⟩,⟨⟨UQ,I,I⟩,I,⟨I,UD,I⟩,UA,AS⟩,UQ,I⟩):p:=h
theorem Zal{p:Prop}(h:p:=by exact⟨I,I,I,I,I,I,I,I,xA,I,I,I⟩):p:=h
theorem Zam{p:Prop}(h:p:=by exact⟨I,I,I,⟨UB,I,⟨UK,UA,I⟩,UA,AS⟩,⟨UH,I⟩,I,UL,I⟩):p:=h
theorem Zan{p:Prop}(h:p:=by exact⟨UA,I,US,UA,AS⟩):p:=h
theorem Zao{p:Prop}(h:p:=by exact⟨rfl,LN⟩):p:=h
theorem Zap{p:Prop}(h:p:=by exact⟨I,I,LN⟩):p:=h
theorem Zaq{p:Prop}(h:p:=by exact⟨OM,xA⟩):p:=h
theorem Zar{p:Prop}(h:p:=by exact⟨rfl,I⟩):p:=h
theorem Zas{p:Prop}(h:p:=by exact⟨OM,LN⟩):p:=h
end Go.Tm
