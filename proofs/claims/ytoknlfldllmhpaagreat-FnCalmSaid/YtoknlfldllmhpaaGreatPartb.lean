/- The tree machine, a library of this claim: the program's steps over closed value trees, and that they are sound. -/
import Derived.Test.YtoknlfldllmhpaaGreatParta
import Derived.Laws.Tables
import Derived.Great.BuildSlice
import Derived.Laws.MakeOwn
import Derived.Deep.AppendSrc
import Derived.Laws.IdiomStrings
import Derived.Deep.Upon
import Derived.MapKept
set_option maxHeartbeats 8000000
set_option maxRecDepth 20000
set_option linter.unusedVariables false
set_option linter.unusedSimpArgs false
namespace Go.Tm
variable {g:G} {X:Fp} {st st':St} {a:Act} {w:World} {base:Nat→Base} {mb:Nat→Nat} {F:Ix→Fp} {N:Fp} {P:Program}
theorem tL{w:World}{a:Addr}{y:Value}(h:w.cell? a = some y):w.setCell a y = w:=by
 have hh:w.heap.modify a.block (fun|.cells c elem frozen=>.cells (if a.spot.isSome then c else c.setIfInBounds a.off y) elem frozen|o=>o) = w.heap:=by
  apply Array.ext_getElem?
  intro i
  rw[Array.getElem?_modify]
  split
  ·rename_i hi
   subst hi
   unfold World.cell? at h
   cases hb:w.heap[a.block]? with
   |none=>rfl
   |some o =>
    rw[hb]at h
    cases o with
    |cells c e f =>
     simp only at h
     split at h
     ·cases h
     ·rename_i hs
      simp only[Option.map_some,hs]
      congr 2
      simp only[Bool.false_eq_true,if_false]
      apply Array.ext_getElem?
      intro j
      by_cases hj:a.off = j
      ·subst hj
       have hlt:a.off < c.size:=by
        rcases Nat.lt_or_ge a.off c.size with h'|h'
        ·exact h'
        ·rw[Array.getElem?_eq_none h']at h;cases h
       rw[Array.getElem?_setIfInBounds_self_of_lt hlt,h]
      ·rw[Array.getElem?_setIfInBounds_ne hj]
    |_=>rfl
  ·rfl
 exact congrArg (fun h=>({w with heap:=h}:World)) hh
inductive HeldO (w:World) (N:Fp) (base:Nat→Base) (st:St) (r:Nat):Nat→List (Option V)→List Value→Fp→Prop where
 |nil {o}:HeldO w N base st r o [] [] Fp.none
 |skip {o y xs ys F} (hi:InR st r o) (h:hd w base r o = some y) (h1:y.oneCell' = true) (t:HeldO w N base st r (o+1) xs ys F):HeldO w N base st r o (none :: xs) (y :: ys) F
 |cons {o x y xs ys F1 F2} (h:CellOk w N (some y) x F1) (h1:y.oneCell' = true) (t:HeldO w N base st r (o+1) xs ys F2) (hd:Fp.dis F1 F2):HeldO w N base st r o (some x :: xs) (y :: ys) (Fp.or F1 F2)
theorem HeldO.oneCell{r o:Nat}{xs:List (Option V)}{ys:List Value}{F:Fp}(h:HeldO w N base st r o xs ys F):∀ y∈ys,y.oneCell' = true:=by
 induction h with
 |nil=>simp
 |skip _ _ h1 _ ih=>intro y hy;rcases List.mem_cons.1 hy with rfl|hy;· exact h1
                    ·exact ih y hy
 |cons _ h1 _ _ ih=>intro y hy;rcases List.mem_cons.1 hy with rfl|hy;· exact h1
                    ·exact ih y hy
theorem HeldO.length{r o:Nat}{xs:List (Option V)}{ys:List Value}{F:Fp}(h:HeldO w N base st r o xs ys F):xs.length = ys.length:=by
 induction h with
 |nil=>rfl
 |skip _ _ _ _ ih=>simp[ih]
 |cons _ _ _ _ ih=>simp[ih]
theorem HeldO.mono{w w':World}{N N':Fp}{base:Nat→Base}{st st':St}{r o:Nat}{xs:List (Option V)}{ys:List Value}{F:Fp}(h:HeldO w N base st r o xs ys F)(hI:∀ ob,RepI w N ob→RepI w' N' ob)
 (hO:∀ ob G,(∀ b o,G b o→F b o)→(∀ b o,ob.reg b o→False)→RepO w ob G→RepO w' ob G) (hh:∀ o' y,o≤o'→InR st r o'→hd w base r o' = some y→hd w' base r o' = some y) (hin:∀ o',InR st r o'→InR st' r o') :
 HeldO w' N' base st' r o xs ys F:=by
 induction h with
 |nil=>exact .nil
 |skip hi h h1 _ ih=>exact .skip (hin _ hi) (hh _ _ (Nat.le_refl _) hi h) h1 (ih hO fun o' y ho=>hh o' y (by omega))
 |@cons o x y xs ys F1 F2 h h1 _ hd ih =>
  refine .cons ?_ h1 (ih (fun ob G hG hr=>hO ob G (fun b o h=>.inr (hG b o h)) hr) fun o' y ho=>hh o' y (by omega)) hd
  revert h
  unfold CellOk
  split
  ·rintro⟨⟨v,h,hi⟩,hf⟩;exact⟨⟨v,h,hI _ hi⟩,hf⟩
  ·rintro⟨v,h,ho⟩;exact⟨v,h,hO _ _ (fun b o h=>.inl h) (fun _ _ h=>h) ho⟩
  ·exact fun h=>h
  ·exact fun h=>h
theorem gO{w':World}{N':Fp}{base':Nat→Base}{st':St}(hk:od w N base mb st w' N' base' st'):∀ {vs:List V} {ys:List Value},RepSs w N base mb st vs ys→RepSs w' N' base' mb st' vs ys
 |[],[],_=>by simp only[RepSs]
 |[],_ :: _,h=>by simp only[RepSs]at h
 |_ :: _,[],h=>by simp only[RepSs]at h
 |c :: cs,y :: ys,h=>by simp only[RepSs]at *;exact⟨hk _ _ h.1,gO hk h.2⟩
theorem GP{p q:Place}(h:w9 p q = true):p = q:=by
 rcases p with⟨r,s,o⟩
 rcases q with⟨r',s',o'⟩
 cases s <;> cases s' <;> simp_all[w9]
theorem JS(R:Rel g X st a w base mb F){v:V}{y:Value}(hv:∀ q c,v = .ref ⟨q,none,c⟩→InR st q c∧hd w base q c = some y∧∃ A l n,y = .slice A l n)(h:(WH v).run st = some ((),st')) :
 Rel g X st' a w base mb F∧st'.rn = st.rn∧∀ v x,RepS w (tot F) base mb st v x→RepS w (tot F) base mb st' v x:=by
 have no:(Cmd.ret ():Cmd Unit).run st = some ((),st')→Rel g X st' a w base mb F∧st'.rn = st.rn∧∀ v x,RepS w (tot F) base mb st v x→RepS w (tot F) base mb st' v x:=fun h=>by
  obtain⟨_,rfl⟩:=af h
  exact⟨R,rfl,fun _ _ h=>h⟩
 cases v with
 |ref p =>
  rcases p with⟨q,s,c⟩
  cases s with
  |some s=>exact no h
  |none =>
   simp only[WH,Cmd.run]at h
   cases he:st.rc q c with
   |undef =>
    rw[he]at h
    obtain⟨_,rfl⟩:=af (show(Cmd.ret ()).run ((Wr.rc q c (.t .hole)).ap st) = _ from h)
    obtain⟨hin,hh,A,l,n,rfl⟩:=hv q c rfl
    have keep:∀ v x,RepS w (tot F) base mb st v x→RepS w (tot F) base mb ((Wr.rc q c (.t .hole)).ap st) v x:=fun v x hr=>RepS.rc (st:=st) _ _ rfl (fun r' c' k xs h=>by
     by_cases hh:r' = q∧c' = c
     ·obtain⟨rfl,rfl⟩:=hh
      simp only[Wr.ap,aW]at h;cases h
     ·simp only[Wr.ap,aV _ _ hh]at h;exact⟨xs,h,rfl⟩) hr
    refine⟨{nt:=R.nt,par:=R.par,df:=R.df,fx:=R.fx,hdr:=R.hdr,map:=R.map,dis:=R.dis,fresh:=R.fresh,ex:=R.ex,frame:=R.frame,npar:=R.npar,cell:=?_,live:=?_,al:=?_,slots:=fun i=>keep _ _ (R.slots i)},rfl,keep⟩
    ·intro r' c'
     by_cases h:r' = q∧c' = c
     ·obtain⟨rfl,rfl⟩:=h
      have hc:=R.cell r' c'
      rw[he]at hc
      simp only[Wr.ap,aW,YR]
      exact⟨⟨_,hh,.hole rfl⟩,hc⟩
     ·simp only[Wr.ap,aV _ _ h];exact R.cell r' c'
    ·intro r' c' h
     by_cases hh:r' = q∧c' = c
     ·obtain⟨rfl,rfl⟩:=hh
      obtain⟨n,h1,h2⟩:=hin
      exact absurd (h n h1) (by omega)
     ·simp only[Wr.ap,aV _ _ hh];exact R.live r' c' h
    ·intro r' c'
     by_cases h:r' = q∧c' = c
     ·obtain⟨rfl,rfl⟩:=h
      simp only[Wr.ap,aW,Sb]
     ·simp only[Wr.ap,aV _ _ h];exact R.al r' c'
   |_=>rw[he]at h;exact no h
 |_=>exact no h
theorem ki{r:Nat}:∀ {vs:List V} {X:Fp} {F:Ix→Fp} {st st':St} {o:Nat} {zs:List V} {xs:List (Option V)} {ans a':List Ans} {p:Prop} {ys:List Value},Rel g X st a w base mb F→(nl r o vs zs ans).run st = some ((xs,a',p),st')→p→RepSs w (tot F) base mb st vs ys→
 ∃ F1 F',Rel g (Fp.or X F1) st' a w base mb F'∧Fp.dis (Fp.or g.X0 X) F1∧HeldO w (tot F') base st' r o xs ys F1∧(∀ b o,tot F' b o→tot F b o)∧od w (tot F) base mb st w (tot F') base st'∧st'.rn = st.rn
 |[],X,F,st,st',o,zs,xs,ans,a',p,ys,R,h,hp,hv=>by
  simp only[nl]at h
  obtain⟨h1,h2⟩:=af h
  injection h1 with h1 h3
  subst h1;subst h2
  cases ys with
  |nil=>exact⟨Fp.none,F,by rw[Fp.or_none];exact R,fun _ _ _ h=>h,.nil,fun _ _ h=>h,fun _ _ h=>h,rfl⟩
  |cons=>simp only[RepSs]at hv
 |v :: vs,X,F,st,st',o,zs,xs,ans,a',p,ys,R,h,hp,hv=>by
  cases ys with
  |nil=>simp only[RepSs]at hv
  |cons y ys =>
   cases zs with
   |nil=>cases h
   |cons z zs =>
    simp only[nl]at h
    simp only[RepSs]at hv
    split at h
    ·rename_i hsame
     obtain⟨⟨xs1,a1,p1⟩,s1,h1,h2⟩:=Cmd.abt h
     obtain⟨h2,h3⟩:=af h2
     injection h2 with h2 h4
     injection h4 with _ h4
     subst h2;subst h4;subst h3
     cases v with
     |ref q =>
      have:=GP hsame
      subst this
      have hv1:=hv.1
      simp only[RepS]at hv1
      obtain⟨i1,i2,A,l,n,rfl⟩:=hv1
      obtain⟨F2,F'',k1,k2,k3,k4,k5,k6⟩:=ki R h1 hp hv.2
      exact⟨F2,F'',k1,k2,.skip (by obtain⟨m,e1,e2⟩:=i1;exact⟨m,by rw[k6];exact e1,e2⟩) i2 rfl k3,k4,k5,k6⟩
     |_=>cases hsame
    ·obtain⟨⟨x,a1,p1⟩,s1,h1,h2⟩:=Cmd.abt h
     obtain⟨_,s9,h9,h2⟩:=Cmd.abt h2
     obtain⟨⟨xs1,a2,p2⟩,s2,h3,h4⟩:=Cmd.abt h2
     obtain⟨h4,h5⟩:=af h4
     injection h4 with h4 h6
     injection h6 with _ h6
     subst h4;subst h6;subst h5
     obtain⟨F1,F',e1,e2,e3,e4,e5,e6,e7⟩:=nB R h1 hp.1 hv.1
     obtain⟨e1,e8,e9⟩:=JS e1 (y:=y) (fun q c e=>by
      have hv1:=hv.1
      subst e
      simp only[RepS]at hv1
      obtain⟨⟨m,i1,i3⟩,i2⟩:=hv1
      exact⟨⟨m,by rw[e7];exact i1,i3⟩,i2⟩) h9
     have e6:od w (tot F) base mb st w (tot F') base s9:=fun v x h=>e9 v x (e6 v x h)
     have e7:=e8.trans e7
     obtain⟨F2,F'',k1,k2,k3,k4,k5,k6⟩:=ki e1 h3 hp.2 (gO e6 hv.2)
     refine⟨Fp.or F1 F2,F'',by rw[←Fp.or_assoc];exact k1,fun b o h h'=>?_,.cons (e3.sub k4) e4 k3 (fun b o h h'=>k2 b o (.inr (.inr h)) h'),fun b o h=>e5 b o (k4 b o h),fun v x h=>k5 v x (e6 v x h),k6.trans e7⟩
     rcases h' with h'|h'
     ·exact e2 b o h h'
     ·exact k2 b o (h.imp id .inl) h'
theorem Gd{v:V}(h:IK v = true):∃ u,v = .t (.v u):=by
 unfold IK at h
 split at h
 ·exact⟨_,rfl⟩
 ·cases h
theorem Dh{F1:Fp}(R:Rel g (Fp.or X F1) st a w base mb F)(hX:Fp.dis (Fp.or g.X0 X) F1){r o b0 o0:Nat}(hb:base r = .mem b0 o0)(hin:InR st r o){y:Value}{x:V}(hx:CellOk w (tot F) (some y) x F1){u:Unit}(h:(H3 r o x).run st = some (u,st')) :
 ∃ F',Rel g X st' a (w.setCell ⟨b0,o0+o,none⟩ y) base mb F'∧st'.rn = st.rn∧(∀ b o,tot F' b o→tot F b o)∧(∀ ob,RepI w (tot F) ob→RepI (w.setCell ⟨b0,o0+o,none⟩ y) (tot F') ob):=by
 simp only[H3,Cmd.run]at h
 have hD:F (.hdr r) b0 (o0+o):=R.hdrAt hin hb
 split at h
 ·rename_i hs
  obtain⟨_,rfl⟩:=af (show(Cmd.ret ()).run _ = _ from h)
  obtain⟨h1,h2⟩:=Bool.and_eq_true_iff.1 hs
  obtain⟨u1,hu1⟩:=Gd h1
  obtain⟨u2,hu2⟩:=Gd h2
  exact⟨_,R.store hX hb hin x hx (.inr ⟨u1,u2,hu1,hu2⟩),rfl,R.wrTot (fun _ _ h=>.inr h),R.wrI (fun _ _ h=>.inr h) ⟨_,hD⟩ y⟩
 ·obtain⟨_,rfl⟩:=af (show(Cmd.ret ()).run _ = _ from h)
  have R1:=R.kill (.cell r o)
  exact⟨_,R1.store hX hb hin x hx (.inl (lx st (.cell r o))),rfl,R1.wrTot (fun _ _ h=>.inr h),R1.wrI (fun _ _ h=>.inr h) ⟨_,hD⟩ y⟩
theorem hJ{r b0 o0:Nat}(hb:base r = .mem b0 o0):∀ {xs:List (Option V)} {F1:Fp} {F:Ix→Fp} {st st':St} {w:World} {o:Nat} {ys:List Value} {u:Unit},Rel g (Fp.or X F1) st a w base mb F→Fp.dis (Fp.or g.X0 X) F1→
 HeldO w (tot F) base st r o xs ys F1→(∀ j,j < xs.length→InR st r (o+j))→(jz r o xs).run st = some (u,st')→∃ F',Rel g X st' a (w.setCells b0 (o0+o) ys) base mb F'∧(∀ b o,tot F' b o→tot F b o)∧st'.rn = st.rn
 |[],F1,F,st,st',w,o,ys,u,R,hX,h,_,hr=>by
  cases h
  simp only[jz]at hr
  obtain⟨_,rfl⟩:=af hr
  rw[Fp.or_none]at R
  exact⟨F,R,fun _ _ h=>h,rfl⟩
 |none :: xs,F1,F,st,st',w,o,ys,u,R,hX,h,hin,hr=>by
  cases h with
  |@skip _ y _ ys _ hi h h1 t =>
   simp only[jz]at hr
   have hc:w.cell? ⟨b0,o0+o,.none⟩ = some y:=by unfold hd at h;rw[hb]at h;exact h
   obtain⟨F',R',n1,n2⟩:=hJ hb (o:=o+1) R hX t (fun j hj=>by have:=hin (j+1) (by simp;omega);rwa [show o+ (j+1) = o+1+j by omega]at this) hr
   rw[World.setCells,tL hc,show o0+o+1 = o0+ (o+1) by omega]
   exact⟨F',R',n1,n2⟩
 |some x :: xs,F0,F,st,st',w,o,ys,u,R,hX,h,hin,hr=>by
  cases h with
  |@cons _ _ y _ ys F1 F2 h h1 t hd' =>
   simp only[jz]at hr
   obtain⟨_,s1,h2,h3⟩:=Cmd.abt hr
   have e:Fp.or X (Fp.or F1 F2) = Fp.or (Fp.or X F2) F1:=by rw[Fp.or_assoc,Fp.or_comm F2 F1]
   rw[e]at R
   have hX':Fp.dis (Fp.or g.X0 (Fp.or X F2)) F1:=fun b o h1 h2=>by
    rcases h1 with h1|h1|h1
    ·exact hX b o (.inl h1) (.inl h2)
    ·exact hX b o (.inr h1) (.inl h2)
    ·exact hd' b o h2 h1
   have hi0:=hin 0 (by simp)
   simp only[Nat.add_zero]at hi0
   obtain⟨F',R',hrn,n1,hI⟩:=Dh R hX' hb hi0 h h2
   have hD:F (.hdr r) b0 (o0+o):=R.hdrAt hi0 hb
   have hin':∀ o',InR st r o'→InR s1 r o':=fun o' ⟨m,e1,e2⟩=>⟨m,by rw[hrn];exact e1,e2⟩
   have t':HeldO (w.setCell ⟨b0,o0+o,.none⟩ y) (tot F') base s1 r (o+1) xs ys F2:=by
    refine t.mono hI (fun ob G hG hr' ho=>ho.frame fun b q hbq=>?_) (fun o' z ho hi hz=>?_) hin'
    ·rcases hbq with hbq|hbq
     ·refine eu w b0 (o0+o) y ?_
      rintro⟨rfl,rfl⟩
      exact R.dis (.hdr r) .x (by simp) _ _ hD (by rw[R.fx];exact .inr (.inl (.inr (hG _ _ hbq))))
     ·exact(hr' _ _ hbq).elim
    ·rw[R.hdWrite y (.inr ⟨o0,hb,rfl,hD⟩) hi (by omega)];exact hz
   obtain⟨F'',R'',n2,n3⟩:=hJ hb (o:=o+1) R' (fun b o h1 h2=>hX b o h1 (.inr h2)) t' (fun j hj=>hin' _ (by have:=hin (j+1) (by simp;omega);rwa [show o+ (j+1) = o+1+j by omega]at this)) h3
   rw[World.setCells,show o0+o+1 = o0+ (o+1) by omega]
   exact⟨F'',R'',fun b o h=>n1 b o (n2 b o h),n3.trans hrn⟩
end Go.Tm
namespace Go.Tm
variable {g:G} {X:Fp} {st st':St} {a:Act} {w:World} {base:Nat→Base} {mb:Nat→Nat} {F:Ix→Fp} {N:Fp} {P:Program}
inductive HeldT (w:World):List T→List Value→Fp→Prop where
 |nil:HeldT w [] [] Fp.none
 |cons {t y ts ys F1 F2} (h:RepO w (.tv t y) F1) (r:HeldT w ts ys F2) (hd:Fp.dis F1 F2):HeldT w (t :: ts) (y :: ys) (Fp.or F1 F2)
theorem HeldT.oneCell{ts:List T}{ys:List Value}{F:Fp}(h:HeldT w ts ys F):∀ y∈ys,y.oneCell' = true:=by
 induction h with
 |nil=>simp
 |cons h _ _ ih=>intro y hy;rcases List.mem_cons.1 hy with rfl|hy;· exact h.oneCell
                 ·exact ih y hy
theorem HeldT.length{ts:List T}{ys:List Value}{F:Fp}(h:HeldT w ts ys F):ts.length = ys.length:=by
 induction h with
 |nil=>rfl
 |cons _ _ _ ih=>simp[ih]
theorem HeldT.mono{w w':World}{ts:List T}{ys:List Value}{F:Fp}(h:HeldT w ts ys F)(hs:∀ b o,F b o→Same w w' b o):HeldT w' ts ys F:=by
 induction h with
 |nil=>exact .nil
 |cons h _ hd ih =>
  exact .cons (h.frame fun b o hbo=>hbo.elim (fun h=>hs b o (.inl h)) (fun h=>h.elim)) (ih fun b o h=>hs b o (.inr h)) hd
theorem HeldT.cells{w:World}{b:Nat}:∀ {ts:List T} {ys:List Value} {F:Fp} {o:Nat},HeldT w ts ys F→(∀ j y,ys[j]? = some y→w.cell? ⟨b,o+j,none⟩ = some y)→RepO w (.cells ts b o) F
 |_,_,_,o,.nil,_=>.nil
 |_,_,_,o,.cons (y:=y) (ys:=ys) h r hd,hc =>
  .cons (by simpa using hc 0 y rfl) h (HeldT.cells r fun j z hz=>by
   have:=hc (j+1) z (by simpa using hz)
   rwa [show o+ (j+1) = o+1+j by omega]at this) hd
theorem P4(R:Rel g X st a w base mb F){z v:V}{x:T}{ans a':List Ans}{p:Prop}{y:Value}(h:(toT z v ans).run st = some ((x,a',p),st'))(hp:p)(hv:RepS w (tot F) base mb st v y) :
 ∃ F1 F',Rel g (Fp.or X F1) st' a w base mb F'∧Fp.dis (Fp.or g.X0 X) F1∧RepO w (.tv x y) F1∧(∀ b o,tot F' b o→tot F b o)∧od w (tot F) base mb st w (tot F') base st'∧st'.rn = st.rn∧
  ((∃ kk zs,x = .slc kk zs∧OC z = true)∨∃ u,x = .v u∧OC z = false):=by
 unfold toT at h
 split at h
 ·split at h
  ·obtain⟨h1,h2⟩:=af h
   injection h1 with h1 h3
   subst h1;subst h2
   obtain⟨rfl,hs⟩:=aB hv
   exact⟨Fp.none,F,by rw[Fp.or_none];exact R,fun _ _ _ h=>h,.v hs,fun _ _ h=>h,fun _ _ h=>h,rfl,.inr ⟨_,rfl,rfl⟩⟩
  ·cases h
 ·split at h
  ·obtain⟨h1,h2⟩:=af h
   injection h1 with h1 h3
   subst h1;subst h2
   simp only[RepS]at hv
   subst hv
   exact⟨Fp.none,F,by rw[Fp.or_none];exact R,fun _ _ _ h=>h,ns w _,fun _ _ h=>h,fun _ _ h=>h,rfl,.inl ⟨_,_,rfl,rfl⟩⟩
  ·cases h
 ·split at h
  ·obtain⟨⟨kx,a1,p1⟩,s1,h1,h2⟩:=Cmd.abt h
   obtain⟨h2,h3⟩:=af h2
   injection h2 with h2 h4
   injection h4 with _ h4
   subst h2;subst h4;subst h3
   obtain⟨F1,F',e1,e2,e3,e4,e5,e6⟩:=gv R h1 hp hv
   exact⟨F1,F',e1,e2,e3,e4,e5,e6,.inl ⟨_,_,rfl,rfl⟩⟩
  ·cases h
theorem rZ:∀ {vs:List V} {X:Fp} {F:Ix→Fp} {st st':St} {zs:List V} {xs:List T} {ans a':List Ans} {p:Prop} {ys:List Value},Rel g X st a w base mb F→(Up vs zs ans).run st = some ((xs,a',p),st')→p→RepSs w (tot F) base mb st vs ys→
 ∃ F1 F',Rel g (Fp.or X F1) st' a w base mb F'∧Fp.dis (Fp.or g.X0 X) F1∧HeldT w xs ys F1∧(∀ b o,tot F' b o→tot F b o)∧od w (tot F) base mb st w (tot F') base st'∧st'.rn = st.rn∧
  ∀ (j:Nat) (x:T),xs[j]? = some x→(∃ kk zs',x = .slc kk zs'∧(zs.map OC)[j]? = some true)∨∃ u,x = .v u
 |[],X,F,st,st',zs,xs,ans,a',p,ys,R,h,hp,hv=>by
  cases zs with
  |cons=>cases h
  |nil =>
   simp only[Up]at h
   obtain⟨h1,h2⟩:=af h
   injection h1 with h1 h3
   subst h1;subst h2
   cases ys with
   |nil=>exact⟨Fp.none,F,by rw[Fp.or_none];exact R,fun _ _ _ h=>h,.nil,fun _ _ h=>h,fun _ _ h=>h,rfl,by simp⟩
   |cons=>simp only[RepSs]at hv
 |v :: vs,X,F,st,st',zs,xs,ans,a',p,ys,R,h,hp,hv=>by
  cases ys with
  |nil=>simp only[RepSs]at hv
  |cons y ys =>
   cases zs with
   |nil=>cases h
   |cons z zs =>
    simp only[Up]at h
    simp only[RepSs]at hv
    obtain⟨⟨x,a1,p1⟩,s1,h1,h2⟩:=Cmd.abt h
    obtain⟨⟨xs1,a2,p2⟩,s2,h3,h4⟩:=Cmd.abt h2
    obtain⟨h4,h5⟩:=af h4
    injection h4 with h4 h6
    injection h6 with _ h6
    subst h4;subst h6;subst h5
    obtain⟨F1,F',e1,e2,e3,e4,e5,e6,e7⟩:=P4 R h1 hp.1 hv.1
    obtain⟨F2,F'',k1,k2,k3,k4,k5,k6,k7⟩:=rZ e1 h3 hp.2 (gO e5 hv.2)
    refine⟨Fp.or F1 F2,F'',by rw[←Fp.or_assoc];exact k1,fun b o h h'=>?_,.cons e3 k3 (fun b o h h'=>k2 b o (.inr (.inr h)) h'),fun b o h=>e4 b o (k4 b o h),fun v x h=>k5 v x (e5 v x h),k6.trans e6,fun j x hx=>?_⟩
    ·rcases h' with h'|h'
     ·exact e2 b o h h'
     ·exact k2 b o (h.imp id .inl) h'
    ·cases j with
     |zero =>
      simp at hx;subst hx
      rcases e7 with⟨kk,zs',h1,h2⟩|⟨u,h1,_⟩
      ·exact .inl ⟨kk,zs',h1,by simp[h2]⟩
      ·exact .inr ⟨u,h1⟩
     |succ j=>simpa using k7 j x (by simpa using hx)
def okK:Bool→T→Prop
 |false,.v _=>True
 |true,.slc _ _=>True
 |true,.hole=>True
 |_,_=>False
theorem pF:∀ {k:List Bool} {x:List T},bT k x = true↔x.length = k.length∧∀ (j:Nat) (b:Bool) (t:T),k[j]? = some b→x[j]? = some t→okK b t
 |[],[]=>by simp[bT]
 |[],t :: x=>by simp[bT]
 |b :: k,[]=>by cases b <;> simp[bT]
 |b :: k,t :: x=>by
  have ih:=pF (k:=k) (x:=x)
  constructor
  ·intro h
   have:okK b t∧bT k x = true:=by cases b <;> cases t <;> first|exact⟨trivial,by simpa [bT]using h⟩|exact absurd h (by simp[bT])
   obtain⟨h1,h2⟩:=ih.1 this.2
   refine⟨by simp[h1],fun j b' t' hb ht=>?_⟩
   cases j with
   |zero=>simp at hb ht;subst hb;subst ht;exact this.1
   |succ j=>exact h2 j b' t' (by simpa using hb) (by simpa using ht)
  ·rintro⟨h1,h2⟩
   have h3:=h2 0 b t rfl rfl
   have h4:=ih.2 ⟨by simpa using h1,fun j b' t' hb ht=>h2 (j+1) b' t' (by simpa using hb) (by simpa using ht)⟩
   cases b <;> cases t <;> first|exact h3.elim|simpa [bT]using h4
theorem mZ:∀ {el:List T} {o:Nat} {cs:List T} {j:Nat},o+cs.length≤el.length→(aM el o cs)[j]? = if o≤j∧j < o+cs.length then cs[j - o]? else el[j]?
 |el,0,cs,j,h=>by
  simp only[aM,List.getElem?_append,Nat.zero_le,true_and,Nat.zero_add,Nat.sub_zero]
  split
  ·rfl
  ·rw[List.getElem?_drop];congr 1;omega
 |e :: el,o+1,cs,0,h=>by simp[aM]
 |e :: el,o+1,cs,j+1,h=>by
  simp only[aM,List.getElem?_cons_succ]
  rw[mZ (by simp at h;omega)]
  by_cases h1:o≤j∧j < o+cs.length
  ·rw[if_pos h1,if_pos (by omega)];congr 1;omega
  ·rw[if_neg h1,if_neg (by omega)]
 |[],o+1,cs,j,h=>by simp at h
theorem FY{el:List T}{o:Nat}(h:o≤el.length):aM el o [] = el:=by
 apply List.ext_getElem?
 intro j
 rw[mZ (by simpa using h),if_neg (by simp)]
theorem sw{el:List T}{o:Nat}{t:T}{ts:List T}(h:o+ (t :: ts).length≤el.length):aM el o (t :: ts) = aM (el.set o t) (o+1) ts:=by
 simp only[List.length_cons]at h
 apply List.ext_getElem?
 intro j
 rw[mZ (by simpa using h),mZ (by simp;omega)]
 by_cases h1:j = o
 ·subst h1
  rw[if_pos (by simp),if_neg (by omega)]
  rw[List.getElem?_set_self (by omega)];simp
 ·by_cases h2:o≤j∧j < o+ (ts.length+1)
  ·rw[if_pos (by simpa using h2),if_pos (by omega)]
   rw[show j - o = (j - (o+1)) +1 by omega];rfl
  ·rw[if_neg (by simpa using h2),if_neg (by omega),List.getElem?_set_ne (by omega)]
theorem aaQ(st:St)(r c:Nat)(x y:V):(Wr.rc r c y).ap ((Wr.rc r c x).ap st) = (Wr.rc r c y).ap st:=by
 simp only[Wr.ap]
 congr 1
 funext j l
 by_cases h:j = r∧l = c
 ·obtain⟨rfl,rfl⟩:=h;rw[aW,aW]
 ·rw[aV _ _ h,aV _ _ h,aV _ _ h]
theorem iP{r c i:Nat}{k:List Bool}{b q len cap:Nat}:∀ {ts:List T} {F1:Fp} {F:Ix→Fp} {st:St} {w:World} {o:Nat} {ys:List Value} {xs:List (List T)} {el:List T},Rel g (Fp.or X F1) st a w base mb F→Fp.dis (Fp.or g.X0 X) F1→
 HeldT w ts ys F1→st.rc r c = .own k xs→xs[i]? = some el→bT k (aM el o ts) = true→o+ts.length≤el.length→bT k el = true→
 (∀ (j:Nat) (x:T),ts[j]? = some x→(∃ kk zs',x = .slc kk zs'∧mc (.deep r c (o+j)) st)∨∃ u,x = .v u)→hd w base r c = some (.slice (some ⟨b,q,none⟩) len cap)→
 ∃ F',Rel g X ((Wr.rc r c (.own k (xs.set i (aM el o ts)))).ap st) a (w.setCells b (q+i * k.length+o) ys) base mb F'∧∀ b o,tot F' b o→tot F b o
 |[],F1,F,st,w,o,ys,xs,el,R,hX,h,he,hel,hk,ho,hkel,hcl,hh=>by
  cases h
  rw[Fp.or_none]at R
  rw[FY (by simpa using ho)]
  have e:xs.set i el = xs:=by
   apply List.ext_getElem?
   intro j
   by_cases hj:i = j
   ·subst hj;rw[List.getElem?_set_self (List.getElem?_eq_some_iff.1 hel).1,hel]
   ·rw[List.getElem?_set_ne hj]
  rw[e]
  have e2:(Wr.rc r c (.own k xs)).ap st = st:=by
   simp only[Wr.ap]
   have:HV st.rc r c (.own k xs) = st.rc:=by
    funext j l
    by_cases h:j = r∧l = c
    ·obtain⟨rfl,rfl⟩:=h;rw[aW,he]
    ·rw[aV _ _ h]
   rw[this]
  rw[e2]
  exact⟨F,R,fun _ _ h=>h⟩
 |t :: ts,F0,F,st,w,o,ys,xs,el,R,hX,h,he,hel,hk,ho,hkel,hcl,hh=>by
  cases h with
  |@cons _ y _ ys F1 F2 h1 t' hd' =>
   have e:Fp.or X (Fp.or F1 F2) = Fp.or (Fp.or X F2) F1:=by rw[Fp.or_assoc,Fp.or_comm F2 F1]
   rw[e]at R
   have hX':Fp.dis (Fp.or g.X0 (Fp.or X F2)) F1:=fun b o h1 h2=>by
    rcases h1 with h1|h1|h1
    ·exact hX b o (.inl h1) (.inl h2)
    ·exact hX b o (.inr h1) (.inl h2)
    ·exact hd' b o h2 h1
   have hlen:=bz hkel
   have ho':o < k.length:=by simp at ho;omega
   obtain⟨hc1,hc2⟩:=pF.1 hk
   obtain⟨bk,hbk⟩:∃ bk,k[o]? = some bk:=⟨_,List.getElem?_eq_getElem ho'⟩
   have hokt:okK bk t:=hc2 o bk t hbk (by rw[mZ (by simpa using ho)];simp)
   have hset:bT k (el.set o t) = true:=pF.2 ⟨by simpa using hlen,fun j b' t0 hb ht=>by
    by_cases hj:o = j
    ·subst hj
     rw[List.getElem?_set_self (by omega)]at ht
     rw[hbk]at hb
     injection hb with hb;injection ht with ht
     subst hb;subst ht;exact hokt
    ·rw[List.getElem?_set_ne hj]at ht
     exact(pF.1 hkel).2 j b' t0 hb ht⟩
   have hclean:mc (.deep r c o) st∨k[o]? = some false:=by
    rcases hcl 0 t rfl with⟨kk,zs',rfl,h⟩|⟨u,rfl⟩
    ·exact .inl (by simpa using h)
    ·right;cases bk
     ·exact hbk
     ·exact hokt.elim
   obtain⟨F',R',n1⟩:=R.storeElem hX' he hel ho' t h1 hset hclean (y:=y) hh
   have hD:F (.cell r c) b (q+i * k.length+o):=R.elemAt he ho' rfl (List.getElem?_eq_some_iff.1 hel).1 ⟨R.live' (by rw[he];simp),q,len,cap,hh,rfl⟩
   have t2:HeldT (w.setCell ⟨b,q+i * k.length+o,none⟩ y) ts ys F2:=t'.mono fun b1 o1 h=>eu w _ _ y (by
    rintro⟨rfl,rfl⟩
    exact R.dis (.cell r c) .x (by simp) _ _ hD (by rw[R.fx];exact .inr (.inl (.inr h))))
   have hi:i < xs.length:=(List.getElem?_eq_some_iff.1 hel).1
   obtain⟨F'',R'',n2⟩:=iP (o:=o+1) (xs:=xs.set i (el.set o t)) (el:=el.set o t) R' (fun b o h1 h2=>hX b o h1 (.inr h2)) t2 (aW _ _ _ _) (by rw[List.getElem?_set_self hi])
    (by rw[←sw (by simpa using ho)];exact hk) (by simp at ho ⊢;omega) hset (fun j x hx=>by
     have:=hcl (j+1) x (by simpa using hx)
     rcases this with⟨kk,zs',e1,e2⟩|h
     ·exact .inl ⟨kk,zs',e1,by rw[show o+1+j = o+ (j+1) by omega];exact e2⟩
     ·exact .inr h) (by rw[R.hdSame y hD (R.live' (by rw[he];simp))];exact hh)
   rw[aaQ,←sw (by simpa using ho),List.set_set]at R''
   refine⟨F'',?_,fun b o h=>n1 b o (n2 b o h)⟩
   rw[World.setCells,show q+i * k.length+o+1 = q+i * k.length+ (o+1) by omega]
   exact R''
end Go.Tm
namespace Go.Tm
variable {g:G} {X:Fp} {st st':St} {a:Act} {w:World} {base:Nat→Base} {mb:Nat→Nat} {F:Ix→Fp} {N:Fp} {P:Program}
theorem xI{t:TypeId}{ty:Ty}(hT:TyOk P t ty){b o:Nat}{y:Value}{ys:List Value}(hy:y.cells.toList = ys)(hl:ys.length = ty.zc.length)(h1:∀ y∈ys,y.oneCell' = true)
 (hw:∀ j,j < ys.length→(w.cell? ⟨b,o+j,none⟩).isSome = true∧w.frozen? ⟨b,o+j,none⟩ = false):(Instr.storeAt t (.pointer (some ⟨b,o,none⟩)) y).run P w = .ok () (w.setCells b o ys):=by
 have hst:=run_storeCells_cells (P:=P) b o ys 0 w (fun j hj=>by simpa using(hw j hj).1) (fun j hj=>by simpa using(hw j hj).2) h1
 have hsz:y.cells.size = ty.zc.length:=by rw[←hl,←hy];simp
 simp only[Instr.storeAt,Instr.sureAddr,Sem.run_bind,Sem.run_pure,Result.andThen_ok,storeVar,hT.runSize,hsz,ne_eq,not_true_eq_false,if_false,hy,Nat.add_zero]at hst ⊢
 exact hst
theorem nU{r c:Nat}:∀ {k:List Bool} {o:Nat} {st st':St} {u:Unit} {F:Ix→Fp},Rel g X st a w base mb F→(qI r c o k).run st = some (u,st')→Rel g X st' a w base mb F∧st'.rc = st.rc∧st'.rn = st.rn∧
 (∀ k',mc k' st→mc k' st')∧∀ j,k[j]? = some true→mc (.deep r c (o+j)) st'
 |[],o,st,st',u,F,R,h=>by
  simp only[qI]at h
  obtain⟨_,rfl⟩:=af h
  exact⟨R,rfl,rfl,fun _ h=>h,by simp⟩
 |true :: k,o,st,st',u,F,R,h=>by
  simp only[qI,Cmd.run]at h
  obtain⟨R',h1,h2,h3,h4⟩:=nU (R.kill (.deep r c o)) h
  have hcl:∀ k',mc k' st→mc k' ((Wr.kl (.deep r c o)).ap st):=fun k' h i=>V.abH _ _ _ (h i)
  refine⟨R',h1,h2,fun k' h=>h3 k' (hcl k' h),fun j hj=>?_⟩
  cases j with
  |zero=>exact h3 _ (lx st (.deep r c o))
  |succ j=>have:=h4 j (by simpa using hj);rwa [show o+1+j = o+ (j+1) by omega]at this
 |false :: k,o,st,st',u,F,R,h=>by
  simp only[qI]at h
  obtain⟨R',h1,h2,h3,h4⟩:=nU R h
  refine⟨R',h1,h2,h3,fun j hj=>?_⟩
  cases j with
  |zero=>simp at hj
  |succ j=>have:=h4 j (by simpa using hj);rwa [show o+1+j = o+ (j+1) by omega]at this
theorem aa4(R:Rel g X st a w base mb F){r b0 o0:Nat}(hb:base r = .mem b0 o0){c:Nat}(hi:InR st r c):(w.cell? ⟨b0,o0+c,none⟩).isSome = true∧w.frozen? ⟨b0,o0+c,none⟩ = false:=by
 obtain⟨n,h1,h2⟩:=hi
 have:=R.hdr r
 rw[hb,h1]at this
 exact this.2 c h2
theorem qT{vx:V}{y:Value}(hv:RepS w N base mb st vx y):∃ ys,RepSs w N base mb st (cellsOf vx) ys∧((∀ y∈ys,y.oneCell' = true)→y.cells.toList = ys):=by
 cases vx with
 |agg cs0 =>
  simp only[RepS]at hv
  obtain⟨ys,rfl,hys⟩:=hv
  exact⟨ys,hys,fun _=>rfl⟩
 |_=>exact⟨[y],by simp only[cellsOf,RepSs];exact⟨hv,trivial⟩,fun h=>Gx (h y (by simp))⟩
theorem Jd(R:Rel g X st a w base mb F){t:TypeId}{ty:Ty}(hT:TyOk P t ty){vx vy v:V}{x y:Value}{ans a':List Ans}{p:Prop}(h:(NF ty vx vy ans).run st = some ((v,a',p),st'))(hp:p)
 (hx:RepS w (tot F) base mb st vx x) (hy:RepS w (tot F) base mb st vy y) :
 ∃ w' F',(Instr.storeAt t x y).run P w = .ok () w'∧Rel g X st' a w' base mb F'∧v = .undef:=by
 unfold NF at h
 obtain⟨_,s1,h1,h2⟩:=Cmd.abt h
 obtain⟨hsz,rfl⟩:=bm h1
 have hsz:=Nat.eq_of_beq_eq_true hsz
 simp only[Ty.size]at hsz
 obtain⟨ys,hys,hcells⟩:=qT hy
 have hlen:=hZ hys
 split at h2
 ·rename_i r o
  simp only[RepS]at hx
  obtain⟨b,q,⟨o0,hb,rfl⟩,rfl⟩:=hx
  obtain⟨_,s0,h0,h20⟩:=Cmd.abt h2
  obtain⟨rfl,hin0⟩:=oi h0
  obtain⟨⟨xs,a1,p1⟩,s2,h3,h4⟩:=Cmd.abt h20
  obtain⟨_,s3,h5,h6⟩:=Cmd.abt h4
  obtain⟨h6,h7⟩:=af h6
  injection h6 with h6 h8
  injection h8 with _ h8
  subst h6;subst h8;subst h7
  obtain⟨F1,F',e1,e2,e3,e4,e5,e6⟩:=ki R h3 hp hys
  have hin:∀ j,j < xs.length→InR s2 r (o+j):=fun j hj=>by
   obtain⟨m,i1,i2⟩:=hin0 (o+j) (by have:=e3.length;simp only[Ty.size];omega)
   exact⟨m,by rw[e6];exact i1,i2⟩
  obtain⟨F'',R',_⟩:=hJ hb e1 e2 e3 hin h5
  refine⟨_,F'',?_,R',rfl⟩
  exact xI hT (hcells e3.oneCell) (by omega) e3.oneCell (fun j hj=>by
   have:=aa4 e1 hb (hin j (by rw[e3.length];exact hj))
   rwa [←Nat.add_assoc]at this)
 ·rename_i r c i s o
  split at h2
  ·rename_i el a0
   obtain⟨⟨xs,a1,p1⟩,s2,h3,h4⟩:=Cmd.abt h2
   obtain⟨kx,s3,h5,h6⟩:=Cmd.abt h4
   obtain⟨rfl,he⟩:=eY h5
   obtain⟨_,s4,h7,h8⟩:=Cmd.abt h6
   obtain⟨hneed,rfl⟩:=bm h7
   obtain⟨_,s5,h9,h10⟩:=Cmd.abt h8
   simp only[Cmd.run]at h10
   injection h10 with h10;injection h10 with h10 h11
   injection h10 with h12 h10
   injection h10 with _ h10
   subst h12;subst h10;subst h11
   obtain⟨hp1,hel⟩:=hp
   obtain⟨F1,F',e1,e2,e3,e4,e5,e6,e7⟩:=rZ R h3 hp1 hys
   have hx':=e5 _ _ hx
   simp only[RepS]at hx'
   obtain⟨b,q,⟨hin,q0,len,cap,hh,rfl⟩,rfl⟩:=hx'
   obtain⟨hn1,hn2⟩:=Bool.and_eq_true_iff.1 hneed
   obtain⟨hn1,hn3⟩:=Bool.and_eq_true_iff.1 hn1
   have hn3:=Nat.le_of_ble_eq_true hn3
   obtain rfl:=Nat.eq_of_beq_eq_true hn2
   simp only[Ty.size]at hn3
   obtain⟨R2,k1,k2,k3,k4⟩:=nU e1 h9
   have hxl:xs.length = ys.length:=e3.length
   have hlen0:=hT.len
   have hconf:bT kx.1 el = true:=by
    obtain⟨y',hy',ho⟩:=dH e1 he
    obtain⟨A,cap',b',off,G0,rfl,hle,hA,hF,hE',hd0,hw⟩:=bP ho
    exact(RepO.getElem hE' hel).choose_spec.choose_spec.2.2.2.1
   have hkl:=bz hconf
   obtain⟨F'',R',_⟩:=iP (o:=o) R2 e2 e3 (by rw[k1];exact he) hel hn1 (by omega) hconf (fun j x hx=>by
    rcases e7 j x hx with⟨kk,zs',rfl,h⟩|h
    ·exact .inl ⟨kk,zs',rfl,k4 j h⟩
    ·exact .inr h) hh
   refine⟨_,F'',?_,R',rfl⟩
   refine xI hT (hcells e3.oneCell) (by omega) e3.oneCell (fun j hj=>?_)
   obtain⟨y',hy',ho⟩:=dH e1 he
   obtain⟨A,cap',b',off,G0,rfl,hle,hA,hF,hE',hd0,hw⟩:=bP ho
   rw[hh]at hy'
   injection hy' with hy';injection hy' with e8 e9 e10
   have hi:i < kx.2.length:=(List.getElem?_eq_some_iff.1 hel).1
   rw[hA (Nat.mul_pos (by omega) (by omega))]at e8
   injection e8 with e8;injection e8 with e8 e11
   subst e8;subst e11
   have:=qG (show i < cap' by omega) (show o+j < kx.1.length by omega)
   have:=hw (i * kx.1.length+ (o+j)) this
   rwa [show q0+ (i * kx.1.length+ (o+j)) = q0+i * kx.1.length+o+j by omega]at this
  ·cases h2
 ·cases h2
end Go.Tm
namespace Go.Tm
variable {g:G} {X:Fp} {st st':St} {a:Act} {w:World} {base:Nat→Base} {mb:Nat→Nat} {F:Ix→Fp} {N:Fp} {P:Program}
/-! ### fill -/
theorem Gk:∀ (l:List Value) (k off:Nat) (cells:Array Value),off+k+l.length≤cells.size→
 ((l.zipIdx k).foldl (fun cs (p:Value×Nat)=>cs.setIfInBounds (off+p.2) p.1) cells).toList = cells.toList.take (off+k) ++l++cells.toList.drop (off+k+l.length)
 |[],k,off,cells,h=>by simp
 |x :: l,k,off,cells,h=>by
  simp only[List.zipIdx_cons,List.foldl_cons]
  rw[Gk l (k+1) off _ (by simp at h ⊢;omega)]
  simp only[Array.toList_setIfInBounds,List.length_cons]at *
  have hlt:off+k < cells.toList.length:=by simp;omega
  rw[List.drop_set_of_lt (by omega),List.set_eq_take_append_cons_drop,if_pos hlt]
  have:List.take (off+ (k+1)) (List.take (off+k) cells.toList++x :: List.drop (off+k+1) cells.toList) = List.take (off+k) cells.toList++ [x]:=by
   rw[List.take_append]
   have e:(List.take (off+k) cells.toList).length = off+k:=by simp;omega
   rw[e,List.take_of_length_le (by rw[e];omega),show off+ (k+1) - (off+k) = 1 by omega]
   rfl
  rw[this,show off+ (k+1) +l.length = off+k+ (l.length+1) by omega]
  simp
theorem Gp{place:Nat→Option (Nat×Nat)}{cells:Array Value}{i off size:Nat}{v:Value}{rest:List (Nat×Value)}(hp:place i = some (off,size))(hs:v.cells.size = size)(hl:off+size≤cells.size) :
 Instr.fill place cells ((i,v) :: rest) = Instr.fill place (cells.toList.take off++v.cells.toList++cells.toList.drop (off+size)).toArray rest:=by
 simp only[Instr.fill,hp,hs]
 rw[if_neg (by simp;omega)]
 congr 1
 apply Array.toList_inj.1
 rw[←Array.foldl_toList,Array.toList_zipIdx]
 have:=Gk v.cells.toList 0 off cells (by simp;omega)
 simp only[Nat.add_zero,Array.length_toList,hs]at this
 simpa using this
theorem nD{as bs:List V}:∀ {xs ys:List Value},RepSs w N base mb st as xs→RepSs w N base mb st bs ys→RepSs w N base mb st (as++bs) (xs++ys):=by
 induction as with
 |nil=>intro xs ys h1 h2;cases xs with
  |nil=>exact h2
  |cons=>simp only[RepSs]at h1
 |cons a as ih=>intro xs ys h1 h2;cases xs with
  |nil=>simp only[RepSs]at h1
  |cons x xs=>simp only[List.cons_append,RepSs]at *;exact⟨h1.1,ih h1.2 h2⟩
theorem oL(w:World)(N:Fp)(base:Nat→Base)(mb:Nat→Nat)(st:St):∀ {zc:List V},Aa zc→RepSs w N base mb st (zc.map Q4) (zc.map zv)
 |[],_=>by simp[RepSs]
 |.t (.v x) :: cs,h=>by
  simp only[Aa]at h
  simp only[List.map_cons,RepSs,Q4,zv]
  exact⟨eL h.1,oL w N base mb st h.2⟩
 |.own k [] :: cs,h=>by
  simp only[Aa]at h
  simp only[List.map_cons,RepSs,Q4,zv]
  exact⟨by simp only[RepS],oL w N base mb st h⟩
 |.t (.slc _ _) :: _,h=>h.elim
 |.t .hole :: _,h=>h.elim
 |.own _ (_ :: _) :: _,h=>h.elim
 |.nils :: _,h|.ref _ :: _,h|.sub _ _ _ :: _,h|.ptr _ :: _,h|.iptr _ :: _,h|.agg _ :: _,h|.tup _ :: _,h|.mref _ :: _,h|.al _ _ :: _,h|.undef :: _,h=>h.elim
inductive Parts (w:World) (N:Fp) (base:Nat→Base) (mb:Nat→Nat) (st:St):List (Nat×V)→List (Nat×Value)→Prop where
 |nil:Parts w N base mb st [] []
 |cons {i v x ps xs} (h:RepS w N base mb st v x) (t:Parts w N base mb st ps xs):Parts w N base mb st ((i,v) :: ps) ((i,x) :: xs)
theorem A3{vx:V}{y:Value}(hv:RepS w N base mb st vx y)(hu:K1 vx = true):RepSs w N base mb st (cellsOf vx) y.cells.toList:=by
 have one:∀ {z:Value},(∀ cs,z≠.agg cs)→z.cells.toList = [z]:=by
  intro z h;cases z <;> first|rfl|exact absurd rfl (h _)
 have key:∀ {v:V},RepS w N base mb st v y→cellsOf v = [v]→(∀ cs,y≠.agg cs)→RepSs w N base mb st (cellsOf v) y.cells.toList:=by
  intro v h e hn;rw[e,one hn];simp only[RepSs];exact⟨h,trivial⟩
 cases vx with
 |agg cs0 =>
  simp only[RepS]at hv
  obtain⟨ys,rfl,hys⟩:=hv
  exact hys
 |undef=>cases hu
 |own _ _=>simp only[RepS]at hv
 |t x =>
  refine key hv rfl fun cs e=>?_
  simp only[RepS]at hv
  have:=hv.oneCell
  rw[e]at this;cases this
 |nils=>refine key hv rfl fun cs e=>?_;simp only[RepS]at hv;rw[e]at hv;cases hv
 |ref p =>
  rcases p with⟨r,s,o⟩
  have h0:=hv
  cases s with
  |none =>
   refine key hv rfl fun cs e=>?_
   simp only[RepS]at hv
   obtain⟨_,_,A,l,n,e'⟩:=hv
   rw[e]at e';cases e'
  |some s=>cases hu
 |sub p lo hi=>cases hu
 |ptr p=>refine key hv rfl fun cs e=>?_;simp only[RepS]at hv;obtain⟨b,o,_,e'⟩:=hv;rw[e]at e';cases e'
 |iptr cs0=>refine key hv rfl fun cs e=>?_;simp only[RepS]at hv;obtain⟨b,o,e',_⟩:=hv;rw[e]at e';cases e'
 |tup vs=>refine key hv rfl fun cs e=>?_;simp only[RepS]at hv;obtain⟨b,e',_⟩:=hv;rw[e]at e';cases e'
 |mref r=>refine key hv rfl fun cs e=>?_;simp only[RepS]at hv;rw[e]at hv;cases hv
 |al r c=>refine key hv rfl fun cs e=>?_;simp only[RepS]at hv;obtain⟨_,_,_,A,l,n,k⟩:=hv;rw[e]at k;cases k
theorem Om:∀ (vs cs:List V),over vs cs = vs++cs.drop vs.length
 |[],cs=>rfl
 |v :: vs,[]=>by simp[over]
 |v :: vs,_ :: cs=>by simp[over,Om vs cs]
theorem KO:∀ (n:Nat) (vs cs:List V),Iz n vs cs = cs.take n++vs++cs.drop (n+vs.length)
 |0,vs,cs=>by simp[Iz,Om]
 |n+1,vs,[]=>by simp[Iz]
 |n+1,vs,c :: cs=>by
  rw[show n+1+vs.length = (n+vs.length) +1 by omega]
  simp[Iz,KO n vs cs]
theorem xP{E:Env}{fs:List (Nat×TypeId)}{place:Nat→Option (Nat×Nat)}(hpl:∀ i off ft,fs[i]? = some (off,ft)→∀ fty,E.ty ft = some fty→place i = some (off,fty.zc.length)) :
 ∀ {ps:List (Nat×V)} {xs:List (Nat×Value)} {cs cs':List V} {ys:List Value} {n:Nat},Parts w N base mb st ps xs→Di E fs n ps cs = some cs'→RepSs w N base mb st cs ys→cs.length = n→
  ∃ ys',Instr.fill place ys.toArray xs = some ys'.toArray∧RepSs w N base mb st cs' ys'
 |[],_,cs,cs',ys,n,.nil,h,hc,hn=>by
  simp only[Di,Option.some.injEq]at h
  subst h
  exact⟨ys,rfl,hc⟩
 |(i,v) :: ps,_,cs,cs',ys,n,.cons (x:=x) (xs:=xs) hv t,h,hc,hn=>by
  simp only[Di]at h
  split at h
  ·rename_i off ft hf
   split at h
   ·rename_i fty hft
    split at h
    ·rename_i hlen
     obtain⟨hlen,hu⟩:=Bool.and_eq_true_iff.1 hlen
     obtain⟨hlen,hfit⟩:=Bool.and_eq_true_iff.1 hlen
     have hlen:=Nat.eq_of_beq_eq_true hlen
     have hfit:=Nat.le_of_ble_eq_true hfit
     simp only[Ty.size]at hfit
     have hcs:=A3 hv hu
     have hl:=hZ hcs
     have hp:=hpl i off ft hf fty hft
     have hl2:=hZ hc
     simp only[Ty.size]at hlen
     have hfc:=Gp (place:=place) (cells:=ys.toArray) (i:=i) (off:=off) (size:=fty.zc.length) (v:=x) (rest:=xs) hp (by rw[←hlen,hl];simp) (by simp;omega)
     rw[hfc]
     rw[KO,hlen]at h
     exact xP hpl t h (nD (nD (se off hc) hcs) (sf _ hc)) (by simp;omega)
    ·cases h
   ·cases h
  ·cases h
theorem uf{E:Env}(hE:EnvOk P E):∀ {f:List Field},RU E (f.map fun f=>(f.offset,f.type)) = true→
 ∃ places:List (Nat×Nat),f.mapM (fun f=>(P.info? f.type).map fun i=>(f.offset,i.size)) = some places∧
  ∀ (i off:Nat) (ft:TypeId),(f.map fun f=>(f.offset,f.type))[i]? = some (off,ft)→∀ fty,E.ty ft = some fty→places[i]? = some (off,fty.zc.length)
 |[],_=>⟨[],rfl,fun i off ft h=>by simp at h⟩
 |x :: f,h=>by
  simp only[List.map_cons,RU]at h
  split at h
  ·rename_i ty hty
   obtain⟨places,h1,h2⟩:=uf hE h
   obtain⟨i,e1,e2,e3,e4⟩:=(hE _ _ hty).infos
   refine⟨(x.offset,i.size) :: places,by simp[List.mapM_cons,e1,h1],fun j off ft hj fty hft=>?_⟩
   cases j with
   |zero =>
    simp only[List.map_cons,List.getElem?_cons_zero,Option.some.injEq,Prod.mk.injEq]at hj
    obtain⟨rfl,rfl⟩:=hj
    rw[hty]at hft
    injection hft with hft
    subst hft
    simp[e3]
   |succ j=>exact h2 j off ft (by simpa using hj) fty hft
  ·cases h
theorem J8{E:Env}(hE:EnvOk P E){t:TypeId}{ty:Ty}(hT:TyOk P t ty){ps:List (Nat×V)}{xs:Array (Nat×Value)}{v:V}{ans a':List Ans}{p:Prop}(h:(NV E ty ps ans).run st = some ((v,a',p),st'))
 (hps:Parts w N base mb st ps xs.toList):st' = st∧ug P (Instr.build t xs) w N base mb st v:=by
 unfold NV at h
 split at h
 ·rename_i fs hd
  split at h
  ·rename_i cs hcs hall
   obtain⟨h1,rfl⟩:=af h
   injection h1 with h1 _
   subst h1
   refine⟨rfl,?_⟩
   obtain⟨f,hf,hfs⟩:=hT.struct hd
   subst hfs
   obtain⟨places,hp1,hp2⟩:=uf hE hall
   obtain⟨i,e1,e2,e3,e4⟩:=hT.infos
   obtain⟨ys',h1,h2⟩:=xP (E:=E) (place:=(places.toArray[·]?)) (fun i off ft hi fty hft=>by simpa using hp2 i off ft hi fty hft) hps hcs (oL w N base mb st hT.zc) (by simp)
   refine⟨_,run_build w t xs ys'.toArray ?_,by simp only[RepS];exact⟨ys',rfl,h2⟩⟩
   unfold Program.built
   rw[e1,hf]
   simp only[e2,hp1,hT.zcells,h1]
  ·cases h
 ·cases h
end Go.Tm
namespace Go.Tm
variable {g:G} {X:Fp} {st st':St} {a:Act} {w:World} {base:Nat→Base} {mb:Nat→Nat} {F:Ix→Fp} {N:Fp} {P:Program}
theorem HeldT.append{w:World}{ts:List T}{ys:List Value}{F1:Fp}(h:HeldT w ts ys F1):∀ {ts':List T} {ys':List Value} {F2:Fp},HeldT w ts' ys' F2→Fp.dis F1 F2→HeldT w (ts++ts') (ys++ys') (Fp.or F1 F2):=by
 induction h with
 |nil=>intro ts' ys' F2 h2 _;rw[Fp.none_or];exact h2
 |cons h r hd ih =>
  intro ts' ys' F2 h2 hd2
  rw[Fp.or_assoc]
  refine .cons h (ih h2 fun b o x y=>hd2 b o (.inr x) y) fun b o x y=>?_
  rcases y with y|y
  ·exact hd b o x y
  ·exact hd2 b o (.inl x) y
theorem HeldT.split{w:World}:∀ {ts ts':List T} {ys:List Value} {F:Fp},HeldT w (ts++ts') ys F→∃ ys1 ys2 F1 F2,ys = ys1++ys2∧HeldT w ts ys1 F1∧HeldT w ts' ys2 F2∧Fp.dis F1 F2∧F = Fp.or F1 F2
 |[],ts',ys,F,h=>⟨[],ys,Fp.none,F,rfl,.nil,h,fun _ _ h=>h.elim,(Fp.none_or F).symm⟩
 |t :: ts,ts',_,_,.cons (y:=y) (ys:=ys) (F1:=F1) (F2:=F2) h r hd=>by
  obtain⟨ys1,ys2,G1,G2,rfl,h1,h2,h3,rfl⟩:=HeldT.split r
  exact⟨y :: ys1,ys2,Fp.or F1 G1,G2,rfl,.cons h h1 (fun b o x z=>hd b o x (.inl z)),h2,fun b o x z=>x.elim (fun x=>hd b o x (.inr z)) (fun x=>h3 b o x z),by rw[Fp.or_assoc]⟩
theorem HeldT.elems{w:World}{k:List Bool}{b:Nat}:∀ {xs:List (List T)} {ys:List Value} {F:Fp} {o:Nat},HeldT w xs.flatten ys F→(∀ x∈xs,bT k x = true)→(∀ j y,ys[j]? = some y→w.cell? ⟨b,o+j,none⟩ = some y)→RepO w (.elems k xs b o) F
 |[],_,_,o,.nil,_,_=>.enil
 |x :: xs,ys,F,o,h,hk,hc=>by
  rw[List.flatten_cons]at h
  obtain⟨ys1,ys2,F1,F2,rfl,h1,h2,hd,rfl⟩:=HeldT.split h
  have hl:=h1.length
  have hx:=hk x (by simp)
  have hxl:=bz hx
  refine .econs hx (h1.cells fun j y hj=>hc j y (by rw[List.getElem?_append_left (List.getElem?_eq_some_iff.1 hj).1];exact hj)) (HeldT.elems h2 (fun y hy=>hk y (by simp[hy])) fun j y hj=>?_) hd
  have:=hc (ys1.length+j) y (by rw[List.getElem?_append_right (by omega),Nat.add_sub_cancel_left];exact hj)
  rwa [←hl,hxl,←Nat.add_assoc]at this
theorem Rel.newSliceM{F1:Fp}(R:Rel g (Fp.or X F1) st a w base mb F)(hX:Fp.dis (Fp.or g.X0 X) F1)(d:Nat)(hdn:d < g.nt){k:List Bool}{xs:List (List T)}{ys cl:List Value}(h:HeldT w xs.flatten ys F1)(hk:∀ x∈xs,bT k x = true)
 {cap:Nat} (hcap:xs.length≤cap) (hcl:cl.length = cap * k.length) (hpre:ys <+: cl) (e:TypeId) (w1:World) (hw1:w1 = w∨w1 = w.drew) (lo hi:Nat) (hmark:∀ j,j < cl.length→(decide (lo≤j) && decide (j < hi)) = false) :
 ∃ F' base',Rel g X ((st.cleared d 1).fills d 0 [.own k xs]) a (w1.alloc (.cells cl.toArray e (lo,hi))) base' mb F'∧
  RepS (w1.alloc (.cells cl.toArray e (lo,hi))) (tot F') base' mb ((st.cleared d 1).fills d 0 [.own k xs]) (.ref ⟨d,none,0⟩) (.slice (some ⟨w.heap.size,0,none⟩) xs.length cap):=by
 have hh:w1.heap = w.heap:=by rcases hw1 with rfl|rfl <;> rfl
 have hsz:w1.heap.size = w.heap.size:=by rw[hh]
 have hs:∀ b o,b < w.heap.size→Same w (w1.alloc (.cells cl.toArray e (lo,hi))) b o:=fun b o hb=>by
  have:Same w1 (w1.alloc (.cells cl.toArray e (lo,hi))) b o:=⟨World.cell?_alloc_lt _ _ _ (by simpa [hsz]using hb),World.frozen?_alloc_old _ _ _ (by rw[hsz];exact Nat.ne_of_lt hb)⟩
  rcases hw1 with rfl|rfl
  ·exact this
  ·exact this
 have hnew:∀ j,(w1.alloc (.cells cl.toArray e (lo,hi))).cell? ⟨w.heap.size,j,none⟩ = cl[j]?:=fun j=>by
  have:=World.cell?_alloc_mark w1 cl.toArray e (lo,hi) j
  rw[hsz]at this
  rw[this];simp
 have hfr:∀ j,j < cl.length→(w1.alloc (.cells cl.toArray e (lo,hi))).frozen? ⟨w.heap.size,j,none⟩ = false:=fun j hj=>by
  have:=World.frozen?_alloc_mark w1 cl.toArray e lo hi j
  rw[hsz]at this
  rw[this];exact hmark j hj
 have hF1:∀ b o,F1 b o→b < w.heap.size:=fun b o hb=>R.ex b o ⟨.x,by rw[R.fx];exact .inr (.inr hb)⟩
 obtain⟨R1,e1,e2,e3,e4⟩:=R.ext hX (w1.alloc (.cells cl.toArray e (lo,hi))) (by rcases hw1 with rfl|rfl <;> rfl) (by rcases hw1 with rfl|rfl <;> rfl) (by rcases hw1 with rfl|rfl <;> rfl) (by simp[hsz]) (fun b o hb _=>hs b o hb)
  (fun b hb _=>by simp only[World.alloc];rw[Array.getElem?_push,if_neg (by rw[hsz];omega),hh]) (Fq:=Fp.or (region w.heap.size 0 (cap * k.length)) F1) (fun b o hq=>by
   rcases hq with hq|hq
   ·exact .inr ⟨by rw[hq.1];exact Nat.le_refl _,by rw[hq.1];simp[hsz]⟩
   ·exact .inl hq)
 have hO:RepO (w1.alloc (.cells cl.toArray e (lo,hi))) (.tv (.slc k xs) (.slice (some ⟨w.heap.size,0,none⟩) xs.length cap)) (Fp.or (region w.heap.size 0 (cap * k.length)) F1):=by
  refine .slc (fun _=>rfl) hcap (fun i hi=>⟨by rw[hnew];simp;omega,hfr _ (by omega)⟩) ?_ (fun b o hb hf=>?_)
  ·refine HeldT.elems (h.mono fun b o hb=>hs b o (hF1 b o hb)) hk fun j y hj=>?_
   rw[Nat.zero_add,hnew]
   obtain⟨t,rfl⟩:=hpre
   rw[List.getElem?_append_left (List.getElem?_eq_some_iff.1 hj).1];exact hj
  ·have:=hF1 b o hf;have:=hb.1;omega
 obtain⟨F',R2⟩:=R1.newTmp e2 d hdn (cs:=[.own k xs]) (ys:=[.slice (some ⟨w.heap.size,0,none⟩) xs.length cap]) (by
  have:=Held.cons (w:=w1.alloc (.cells cl.toArray e (lo,hi))) (N:=tot (du F Ix.x (Fp.or g.X0 (Fp.or X (Fp.or (region w.heap.size 0 (cap * k.length)) F1))))) (x:=.own k xs) ⟨_,rfl,hO⟩ rfl Held.nil (fun _ _ _ h=>h)
  rwa [Fp.or_none]at this)
 refine⟨F',_,R2,?_⟩
 simp only[RepS,j5]
 refine⟨⟨1,by simp[St.fills,St.cleared,Wr.ap,upd],by omega⟩,by simp[hd,ba],_,_,_,rfl⟩
theorem Rel.newSlice{F1:Fp}(R:Rel g (Fp.or X F1) st a w base mb F)(hX:Fp.dis (Fp.or g.X0 X) F1)(d:Nat)(hdn:d < g.nt){k:List Bool}{xs:List (List T)}{ys cl:List Value}(h:HeldT w xs.flatten ys F1)(hk:∀ x∈xs,bT k x = true)
 {cap:Nat} (hcap:xs.length≤cap) (hcl:cl.length = cap * k.length) (hpre:ys <+: cl) (e:TypeId) (w1:World) (hw1:w1 = w∨w1 = w.drew) :
 ∃ F' base',Rel g X ((st.cleared d 1).fills d 0 [.own k xs]) a (w1.alloc (.cells cl.toArray e)) base' mb F'∧
  RepS (w1.alloc (.cells cl.toArray e)) (tot F') base' mb ((st.cleared d 1).fills d 0 [.own k xs]) (.ref ⟨d,none,0⟩) (.slice (some ⟨w.heap.size,0,none⟩) xs.length cap) :=
 R.newSliceM hX d hdn h hk hcap hcl hpre e w1 hw1 0 0 (fun j _=>by simp)
/-! ### Elements in a row -/
theorem BR{w':World}{N':Fp}{base':Nat→Base}{st':St}(hk:od w N base mb st w' N' base' st'):∀ {ps:List (Nat×V)} {xs:List (Nat×Value)},Parts w N base mb st ps xs→Parts w' N' base' mb st' ps xs
 |_,_,.nil=>.nil
 |_,_,.cons h t=>.cons (hk _ _ h) (BR hk t)
theorem x8{ety:Ty}:∀ {ps:List (Nat×V)} {X:Fp} {F:Ix→Fp} {st st':St} {i:Nat} {xs:List (List T)} {ans a':List Ans} {p:Prop} {vs:List (Nat×Value)},Rel g X st a w base mb F→(EF ety i ps ans).run st = some ((xs,a',p),st')→p→
 Parts w (tot F) base mb st ps vs→
 ∃ F1 F' ys,Rel g (Fp.or X F1) st' a w base mb F'∧Fp.dis (Fp.or g.X0 X) F1∧HeldT w xs.flatten ys F1∧(∀ x∈xs,bT ety.kd x = true)∧xs.length = ps.length∧(∀ b o,tot F' b o→tot F b o)∧od w (tot F) base mb st w (tot F') base st'∧
  ys.length = ps.length * ety.zc.length∧∀ cells:Array Value,i * ety.zc.length+ps.length * ety.zc.length≤cells.size→
   Instr.fill (fun i=>some (i * ety.zc.length,ety.zc.length)) cells vs = some (cells.toList.take (i * ety.zc.length) ++ys++cells.toList.drop (i * ety.zc.length+ps.length * ety.zc.length)).toArray
 |[],X,F,st,st',i,xs,ans,a',p,vs,R,h,hp,hv=>by
  simp only[EF]at h
  obtain⟨h1,rfl⟩:=af h
  injection h1 with h1 _
  subst h1
  cases hv
  exact⟨Fp.none,F,[],by rw[Fp.or_none];exact R,fun _ _ _ h=>h,.nil,by simp,rfl,fun _ _ h=>h,fun _ _ h=>h,by simp,fun cells _=>by simp[Instr.fill]⟩
 |(j,v) :: ps,X,F,st,st',i,xs,ans,a',p,_,R,h,hp,.cons (x:=y) (xs:=ws) hv ht=>by
  simp only[EF]at h
  obtain⟨_,s0,h1,h2⟩:=Cmd.abt h
  obtain⟨hij,rfl⟩:=bm h1
  obtain rfl:=Nat.eq_of_beq_eq_true hij
  obtain⟨⟨x,a1,p1⟩,s1,h3,h4⟩:=Cmd.abt h2
  obtain⟨_,s2,h5,h6⟩:=Cmd.abt h4
  obtain⟨hconf,rfl⟩:=bm h5
  obtain⟨⟨xs1,a2,p2⟩,s3,h7,h8⟩:=Cmd.abt h6
  obtain⟨q8,rfl⟩:=af h8
  simp only[Prod.mk.injEq]at q8
  obtain⟨q9,_,q10⟩:=q8
  subst q9;subst q10
  obtain⟨ys0,hys,hcells⟩:=qT hv
  obtain⟨F1,F',e1,e2,e3,e4,e5,e6,_⟩:=rZ R h3 hp.1 hys
  have hc:=hcells e3.oneCell
  obtain⟨F2,F'',ys,k1,k2,k3,k4,k5,k6,k7,k8,k9⟩:=x8 e1 h7 hp.2 (BR e5 ht)
  have hxl:=bz hconf
  have hyl:=e3.length
  simp only[Ty.kd,List.length_map]at hxl
  refine⟨Fp.or F1 F2,F'',ys0++ys,by rw[←Fp.or_assoc];exact k1,fun b o h h'=>?_,?_,?_,by simp[k5],fun b o h=>e4 b o (k6 b o h),fun v x h=>k7 v x (e5 v x h),?_,fun cells hle=>?_⟩
  ·rcases h' with h'|h'
   ·exact e2 b o h h'
   ·exact k2 b o (h.imp id .inl) h'
  ·rw[List.flatten_cons]
   exact e3.append k3 fun b o h h'=>k2 b o (.inr (.inr h)) h'
  ·intro z hz
   rcases List.mem_cons.1 hz with rfl|hz
   ·exact hconf
   ·exact k4 z hz
  ·simp only[List.length_append,List.length_cons,k8,←hyl,hxl]
   rw[Nat.add_mul];omega
  ·simp only[List.length_cons,Nat.add_mul,Nat.one_mul]at hle
   rw[Gp (off:=i * ety.zc.length) (size:=ety.zc.length) rfl (by rw[←Array.length_toList,hc,←hyl,hxl]) (by omega),hc]
   have hlen:(cells.toList.take (i * ety.zc.length) ++ys0++cells.toList.drop (i * ety.zc.length+ety.zc.length)).length = cells.size:=by
    simp only[List.length_append,List.length_take,List.length_drop,Array.length_toList,←hyl,hxl];omega
   rw[k9 _ (by rw[List.size_toArray,hlen,Nat.add_mul];omega)]
   congr 2
   have ht:(cells.toList.take (i * ety.zc.length)).length = i * ety.zc.length:=by simp only[List.length_take,Array.length_toList];omega
   have hp1:(cells.toList.take (i * ety.zc.length) ++ys0).length = (i+1) * ety.zc.length:=by rw[List.length_append,ht,←hyl,hxl,Nat.add_mul];omega
   rw[List.take_append_of_le_length (by rw[hp1];exact Nat.le_refl _),List.take_of_length_le (by rw[hp1];exact Nat.le_refl _),List.drop_append,hp1]
   rw[List.drop_of_length_le (by rw[hp1];omega),List.drop_drop]
   simp only[List.nil_append,List.append_assoc,List.length_cons]
   rw[show i * ety.zc.length+ety.zc.length+ ((i+1) * ety.zc.length+ps.length * ety.zc.length - (i+1) * ety.zc.length) = i * ety.zc.length+ (ps.length+1) * ety.zc.length by rw[Nat.add_mul ps.length];omega]
end Go.Tm
namespace Go.Tm
variable {g:G} {X:Fp} {st st':St} {a:Act} {w:World} {base:Nat→Base} {mb:Nat→Nat} {F:Ix→Fp} {N:Fp} {P:Program}
theorem pq(w:World)(t e:TypeId)(len:Nat)(parts:Array (Nat×Value))(cells:Array Value)(ie:TypeInfo)
 (hu:P.underlying t = some (.slice e)) (hie:P.info? e = some ie) (h0:len * ie.size = 0)
 (h:Instr.fill (fun i=>some (i * ie.size,ie.size)) #[] parts.toList = some cells) :
 (Instr.buildSlice t len parts).run P w = .ok (.slice (some ⟨w.heap.size,0,none⟩) len len) (w.alloc (.cells cells e)):=by
 have he:∀ f:Nat→Value,(Array.range 0).map f = #[]:=fun f=>by simp
 simp[Instr.buildSlice,run_underlying hu,sizeOf,typeInfo,hie,h0,he,h,newRow]
theorem HeldT.abz{k:List Bool}:∀ {xs:List (List T)},(∀ x∈xs,bT k x = true)→xs.flatten.length = xs.length * k.length
 |[],_=>by simp
 |x :: xs,h=>by
  rw[List.flatten_cons,List.length_append,HeldT.abz (xs:=xs) (fun y hy=>h y (by simp[hy])),bz (h x (by simp)),List.length_cons,Nat.add_mul]
  omega
theorem wQ(R:Rel g X st a w base mb F){E:Env}(hE:EnvOk P E){t:TypeId}{ty:Ty}(hT:TyOk P t ty){n:Nat}{ps:List (Nat×V)}{xs:Array (Nat×Value)}{d:Option Nat}{v:V}{ans a':List Ans}{p:Prop}
 (hdn:∀ d',d = some d'→d' < g.nt) (h:(pk E ty n ps d ans).run st = some ((v,a',p),st')) (hp:p) (hps:Parts w (tot F) base mb st ps xs.toList) :
 ∃ x w' base' F',(Instr.buildSlice t n xs).run P w = .ok x w'∧Rel g X st' a w' base' mb F'∧RepS w' (tot F') base' mb st' v x:=by
 unfold pk at h
 split at h
 ·rename_i e d hd
  split at h
  ·rename_i ety hety
   have hT':=hE _ _ hety
   obtain⟨_,s0,h1,h2⟩:=Cmd.abt h
   obtain⟨hn,rfl⟩:=bm h1
   obtain⟨hn,hn2⟩:=Bool.and_eq_true_iff.1 hn
   obtain rfl:=Nat.eq_of_beq_eq_true hn
   have hn2:=Nat.le_of_ble_eq_true hn2
   simp only[Ty.size]at hn2
   obtain⟨⟨ys,a1,p1⟩,s1,h3,h4⟩:=Cmd.abt h2
   obtain⟨_,s2,h5,h6⟩:=Cmd.abt h4
   rw[dA]at h5
   injection h5 with h5;injection h5 with _ h5
   obtain⟨q6,q7⟩:=af h6
   simp only[Prod.mk.injEq]at q6
   obtain⟨rfl,_,q8⟩:=q6
   subst q7;subst h5;subst q8
   obtain⟨F1,F',zs,e1,e2,e3,e4,e5,e6,e7,e8,e9⟩:=x8 R h3 hp hps
   have hkl:ety.kd.length = ety.zc.length:=by simp[Ty.kd]
   obtain⟨F'',base'',R',hr⟩:=e1.newSlice e2 d (hdn d rfl) e3 e4 (cap:=ps.length) (cl:=zs) (by rw[e5];exact Nat.le_refl _) (by rw[e8,hkl]) (List.prefix_refl _) e w (.inl rfl)
   refine⟨_,_,base'',F'',?_,R',hr⟩
   obtain⟨i,i1,i2,i3,i4⟩:=hT'.infos
   rw[e5]
   by_cases h0:ps.length * ety.zc.length = 0
   ·have hfill:=e9 #[] (by simp[h0])
    simp only[Nat.zero_mul,List.take_nil,List.nil_append,List.drop_nil,List.append_nil]at hfill
    rw[←i3]at hfill
    exact pq w t e ps.length xs zs.toArray i (hT.slice hd) i1 (by rw[i3];exact h0) hfill
   ·have hfill:=e9 ((Array.range (ps.length * ety.zc.length)).map (ety.zval.cells[· % ety.zval.cells.size]!)) (by simp)
    rw[List.drop_of_length_le (by simp),List.append_nil]at hfill
    simp only[Nat.zero_mul,List.take_zero,List.nil_append]at hfill
    rw[←i3]at hfill
    exact run_buildSlice w t e ps.length xs zs.toArray i _ (hT.slice hd) i1 i2 (by rw[i3];omega) (by rw[i3];exact h0) hfill
  ·cases h
 ·cases h
/-! ### 'make' -/
theorem KH{α:Type}{l:List α}:∀ {m i:Nat},i < m * l.length→(List.replicate m l).flatten[i]? = l[i % l.length]?
 |0,i,h=>by simp at h
 |m+1,i,h=>by
  rw[List.replicate_succ,List.flatten_cons]
  by_cases hi:i < l.length
  ·rw[List.getElem?_append_left hi,Nat.mod_eq_of_lt hi]
  ·rw[Nat.add_mul]at h
   rw[List.getElem?_append_right (by omega),KH (by omega),Nat.mod_eq_sub_mod (a:=i) (by omega)]
theorem Qn(l:List Value)(m:Nat):(madeCells l.toArray (m * l.length)).toList = (List.replicate m l).flatten:=by
 apply List.ext_getElem?
 intro i
 have hlen:((List.replicate m l).flatten).length = m * l.length:=by simp
 by_cases hi:i < m * l.length
 ·rw[KH hi]
  have hl:0 < l.length:=Nat.pos_of_ne_zero fun h=>by rw[h]at hi;simp at hi
  have hm:=Nat.mod_lt i hl
  simp[madeCells,hi,List.getElem?_eq_getElem hm]
 ·rw[List.getElem?_eq_none (by simp[madeCells];omega),List.getElem?_eq_none (by rw[hlen];omega)]
theorem Bj(w:World):∀ {zc:List V},Aa zc→HeldT w (zc.map zT) (zc.map zv) Fp.none∧bT (zc.map OC) (zc.map zT) = true
 |[],_=>⟨.nil,rfl⟩
 |.t (.v x) :: cs,h=>by
  simp only[Aa]at h
  obtain⟨h1,h2⟩:=Bj w h.2
  have:=HeldT.cons (w:=w) (t:=.v x) (y:=x) (.v h.1) h1 (fun _ _ h=>h.elim)
  rw[Fp.or_none]at this
  exact⟨this,h2⟩
 |.own k [] :: cs,h=>by
  simp only[Aa]at h
  obtain⟨h1,h2⟩:=Bj w h
  have:=HeldT.cons (w:=w) (t:=.slc k []) (y:=.slice none 0 0) (ns w k) h1 (fun _ _ h=>h.elim)
  rw[Fp.or_none]at this
  exact⟨this,h2⟩
 |.t (.slc _ _) :: _,h=>h.elim
 |.t .hole :: _,h=>h.elim
 |.own _ (_ :: _) :: _,h=>h.elim
 |.nils :: _,h|.ref _ :: _,h|.sub _ _ _ :: _,h|.ptr _ :: _,h|.iptr _ :: _,h|.agg _ :: _,h|.tup _ :: _,h|.mref _ :: _,h|.al _ _ :: _,h|.undef :: _,h=>h.elim
theorem T4(w:World){zc:List V}(h:Aa zc):∀ m:Nat,HeldT w (List.replicate m (zc.map zT)).flatten (List.replicate m (zc.map zv)).flatten Fp.none
 |0=>.nil
 |m+1=>by
  rw[List.replicate_succ,List.flatten_cons,List.replicate_succ,List.flatten_cons]
  have:=(Bj w h).1.append (T4 w h m) (fun _ _ h=>h.elim)
  rwa [Fp.or_none]at this
theorem yV(R:Rel g X st a w base mb F){E:Env}(hE:EnvOk P E){t:TypeId}{ty:Ty}(hT:TyOk P t ty){vl vc:V}{xl xc:Value}{d:Option Nat}{v:V}{ans a':List Ans}{p:Prop}
 (hdn:∀ d',d = some d'→d' < g.nt) (h:(sz E ty vl vc d ans).run st = some ((v,a',p),st')) (hp:p) (hl:RepS w (tot F) base mb st vl xl) (hc:RepS w (tot F) base mb st vc xc) :
 ∃ x w' base' F',(Instr.makeSlice t xl xc).run P w = .ok x w'∧Rel g X st' a w' base' mb F'∧RepS w' (tot F') base' mb st' v x:=by
 unfold sz at h
 split at h
 ·rename_i e d l c m a0 hd
  obtain rfl:=pu hl
  obtain rfl:=pu hc
  split at h
  ·rename_i ety hety
   have hT':=hE _ _ hety
   obtain⟨_,s0,h1,h2⟩:=Cmd.abt h
   rw[dA]at h1
   injection h1 with h1;injection h1 with _ h1
   obtain⟨q6,q7⟩:=af h2
   simp only[Prod.mk.injEq]at q6
   obtain⟨rfl,_,q8⟩:=q6
   subst q7;subst h1;subst q8
   obtain⟨rfl,rfl,hb⟩:=hp
   obtain⟨i,i1,i2,i3,i4⟩:=hT'.infos
   have hkl:ety.kd.length = ety.zc.length:=by simp[Ty.kd]
   have hz:=T4 w hT'.zc m
   obtain⟨F',base',R',hr⟩:=Rel.newSlice (F1:=Fp.none) (by rw[Fp.or_none];exact R) (fun _ _ _ h=>h) d (hdn d rfl) (k:=ety.kd) (xs:=List.replicate m (ety.zc.map zT)) hz (fun x hx=>by
    rw[(List.mem_replicate.1 hx).2];exact(Bj w hT'.zc).2) (cap:=m) (by simp) (cl:=(List.replicate m (ety.zc.map zv)).flatten) (by rw[hz.length.symm];simp[Ty.kd]) (List.prefix_refl _) e w (.inl rfl)
   have hm:m≤m * ety.bytes:=Nat.le_mul_of_pos_right _ hT'.pos
   have hrun:=run_make (P:=P) w t e i _ (hT.slice hd) i1 i2 .i64 .i64 m m (by omega) (Int.le_refl _) (by
    rw[i4,Int.mul_comm]
    have:((m * ety.bytes:Nat):Int)≤281474976710656:=by omega
    rwa [Int.natCast_mul]at this) (by omega)
   refine⟨_,_,base',F',?_,R',by simpa using hr⟩
   simp only[Int.toNat_natCast]at hrun
   rw[hrun,hT'.zcells]
   have:=Qn (ety.zc.map zv) m
   rw[List.length_map]at this
   rw[i3,←this]
  ·cases h
 ·cases h
end Go.Tm
namespace Go.Tm
variable {g:G} {X:Fp} {st st':St} {a:Act} {w:World} {base:Nat→Base} {mb:Nat→Nat} {F:Ix→Fp} {N:Fp} {P:Program}
theorem Rel.shrink{F1 F1':Fp}(R:Rel g (Fp.or X F1) st a w base mb F)(hX:Fp.dis (Fp.or g.X0 X) F1)(hs:∀ b o,F1' b o→F1 b o) :
 ∃ F',Rel g (Fp.or X F1') st a w base mb F'∧Fp.dis (Fp.or g.X0 X) F1':=by
 obtain⟨R1,_,e2,_⟩:=R.ext hX w rfl rfl rfl (Nat.le_refl _) (fun _ _ _ _=>Same.refl _ _ _) (fun _ _ _=>rfl) (Fq:=F1') (fun b o h=>.inl (hs b o h))
 exact⟨_,R1,e2⟩
theorem Rel.tmpSlice{F1:Fp}(R:Rel g (Fp.or X F1) st a w base mb F)(hX:Fp.dis (Fp.or g.X0 X) F1)(d:Nat)(hdn:d < g.nt){k:List Bool}{xs:List (List T)}{y:Value}(h:RepO w (.tv (.slc k xs) y) F1) :
 ∃ F' base',Rel g X ((st.cleared d 1).fills d 0 [.own k xs]) a w base' mb F'∧RepS w (tot F') base' mb ((st.cleared d 1).fills d 0 [.own k xs]) (.ref ⟨d,none,0⟩) y:=by
 obtain⟨F',R2⟩:=R.newTmp hX d hdn (cs:=[.own k xs]) (ys:=[y]) (by
  have:=Held.cons (w:=w) (N:=tot F) (x:=.own k xs) ⟨_,rfl,h⟩ h.oneCell Held.nil (fun _ _ _ h=>h)
  rwa [Fp.or_none]at this)
 refine⟨F',_,R2,?_⟩
 obtain⟨A,cap,b,off,G0,rfl,_⟩:=bP h
 simp only[RepS,j5]
 exact⟨⟨1,by simp[St.fills,St.cleared,Wr.ap,upd],by omega⟩,by simp[hd,ba],_,_,_,rfl⟩
theorem Cf{N':Fp}:∀ {k:List Bool} {cs:List T} {b o:Nat},Ln k = true→bT k cs = true→RepI w N' (.cells cs b o)→∃ ys,HeldT w cs ys Fp.none∧∀ j y,ys[j]? = some y→w.cell? ⟨b,o+j,none⟩ = some y
 |[],[],b,o,_,_,_=>⟨[],.nil,by simp⟩
 |false :: k,.v x :: cs,b,o,hf,hc,.cons hy hn h t=>by
  simp only[bT]at hc
  simp only[Ln]at hf
  obtain⟨ys,h1,h2⟩:=Cf hf hc t
  cases h with
  |v hx =>
   have:=HeldT.cons (w:=w) (.v hx) h1 (fun _ _ h=>h.elim)
   rw[Fp.or_none]at this
   refine⟨x :: ys,this,fun j y hj=>?_⟩
   cases j with
   |zero=>simp at hj;subst hj;exact hy
   |succ j=>have:=h2 j y (by simpa using hj);rwa [show o+1+j = o+ (j+1) by omega]at this
 |[],_ :: _,_,_,_,h,_=>by simp[bT]at h
 |false :: _,[],_,_,_,h,_=>by simp[bT]at h
 |false :: _,.slc _ _ :: _,_,_,_,h,_=>by simp[bT]at h
 |false :: _,.hole :: _,_,_,_,h,_=>by simp[bT]at h
 |true :: _,_,_,_,h,_,_=>by simp[Ln]at h
theorem Ce{N':Fp}{k:List Bool}(hf:Ln k = true):∀ {xs:List (List T)} {b o:Nat},RepI w N' (.elems k xs b o)→∃ ys,HeldT w xs.flatten ys Fp.none∧(∀ j y,ys[j]? = some y→w.cell? ⟨b,o+j,none⟩ = some y)∧∀ x∈xs,bT k x = true
 |[],b,o,_=>⟨[],.nil,by simp,by simp⟩
 |x :: xs,b,o,.econs hk h t=>by
  obtain⟨ys,h1,h2⟩:=Cf hf hk h
  obtain⟨zs,h3,h4,h5⟩:=Ce hf t
  have:=h1.append h3 (fun _ _ h=>h.elim)
  rw[Fp.or_none]at this
  refine⟨ys++zs,by rw[List.flatten_cons];exact this,fun j y hj=>?_,by simp[hk];exact h5⟩
  have hl:=h1.length
  have hl2:=bz hk
  by_cases hlt:j < ys.length
  ·exact h2 j y (by rwa [List.getElem?_append_left hlt]at hj)
  ·rw[List.getElem?_append_right (by omega)]at hj
   have:=h4 _ y hj
   rwa [show o+k.length+ (j - ys.length) = o+j by omega]at this
theorem xd:∀ {cs:List T} {b o:Nat} {F:Fp},RepO w (.cells cs b o) F→∃ ys,HeldT w cs ys F∧∀ j y,ys[j]? = some y→w.cell? ⟨b,o+j,none⟩ = some y
 |[],b,o,_,.nil=>⟨[],.nil,by simp⟩
 |c :: cs,b,o,_,.cons (y:=y) hy h t hd=>by
  obtain⟨ys,h1,h2⟩:=xd t
  refine⟨y :: ys,.cons h h1 hd,fun j z hj=>?_⟩
  cases j with
  |zero=>simp at hj;subst hj;exact hy
  |succ j=>have:=h2 j z (by simpa using hj);rwa [show o+1+j = o+ (j+1) by omega]at this
theorem xb{k:List Bool}:∀ {xs:List (List T)} {b o:Nat} {F:Fp},RepO w (.elems k xs b o) F→∃ ys,HeldT w xs.flatten ys F∧(∀ j y,ys[j]? = some y→w.cell? ⟨b,o+j,none⟩ = some y)∧∀ x∈xs,bT k x = true
 |[],b,o,_,.enil=>⟨[],.nil,by simp,by simp⟩
 |x :: xs,b,o,_,.econs hk h t hd=>by
  obtain⟨ys,h1,h2⟩:=xd h
  obtain⟨zs,h3,h4,h5⟩:=xb t
  refine⟨ys++zs,by rw[List.flatten_cons];exact h1.append h3 hd,fun j y hj=>?_,by simp[hk];exact h5⟩
  have hl:=h1.length
  have hl2:=bz hk
  by_cases hlt:j < ys.length
  ·exact h2 j y (by rwa [List.getElem?_append_left hlt]at hj)
  ·rw[List.getElem?_append_right (by omega)]at hj
   have:=h4 _ y hj
   rwa [show o+k.length+ (j - ys.length) = o+j by omega]at this
theorem Uq{tx e':TypeId}(hk:P.underlying tx = some (.slice e')){A:Option Addr}{n cap size b off:Nat}{ys:List Value}(hl:ys.length = n * size)(hA:0 < ys.length→A = some ⟨b,off,none⟩)
 (hc:∀ j y,ys[j]? = some y→w.cell? ⟨b,off+j,none⟩ = some y) (h1:∀ y∈ys,y.oneCell' = true):Src P size tx (.slice A n cap) n ys w:=by
 cases A with
 |some ad =>
  refine Src.ofSlice w hk ad n cap ys hl (fun j u hj=>?_) h1
  have:=hA (Nat.lt_of_le_of_lt (Nat.zero_le _) (List.getElem?_eq_some_iff.1 hj).1)
  injection this with this
  subst this
  rw[Addr.add_lit];exact hc j u hj
 |none =>
  have h0:ys = []:=by
   cases ys with
   |nil=>rfl
   |cons=>exact absurd (hA (by simp)) (by simp)
  subst h0
  exact⟨.inl ⟨e',hk⟩,fun _=>rfl,run_firstCells_none w size n n cap,run_firstCells_none w.drew size n n cap,hl,fun _ h=>by cases h⟩
theorem lz(u:ByteArray):HeldT w (cN u).flatten (byteCells u) Fp.none∧(∀ x∈cN u,bT [false] x = true):=by
 unfold cN byteCells
 induction u.data.toList with
 |nil=>exact⟨.nil,by simp⟩
 |cons b bs ih =>
  have:=HeldT.cons (w:=w) (t:=.v (.int .u8 b.toNat)) (y:=.int .u8 b.toNat) (.v rfl) ih.1 (fun _ _ h=>h.elim)
  rw[Fp.or_none]at this
  refine⟨by simpa using this,?_⟩
  intro x hx
  simp only[List.map_cons,List.mem_cons]at hx
  rcases hx with rfl|hx
  ·rfl
  ·exact ih.2 x hx
theorem lZ(u:ByteArray):(cN u).length = u.size:=by
 simp[cN]
theorem Bx(R:Rel g X st a w base mb F){e u:TypeId}{ety tx:Ty}(hT:TyOk P e ety)(hU:TyOk P u tx){vx:V}{x:Value}{ys:List (List T)}{ans a':List Ans}{p:Prop}
 (h:(aar ety tx vx ans).run st = some ((ys,a',p),st')) (hp:p) (hx:RepS w (tot F) base mb st vx x) :
 ∃ F1 F' news,Rel g (Fp.or X F1) st' a w base mb F'∧Fp.dis (Fp.or g.X0 X) F1∧HeldT w ys.flatten news F1∧(∀ x∈ys,bT ety.kd x = true)∧Src P ety.zc.length u x ys.length news w∧od w (tot F) base mb st w (tot F') base st':=by
 have hkl:ety.kd.length = ety.zc.length:=by simp[Ty.kd]
 have conv:∀ {k:List Bool} {xs:List (List T)},D0 (k,xs) ety.kd = true→(∀ x∈xs,bT k x = true)→(∀ x∈xs,bT ety.kd x = true)∧xs.flatten.length = xs.length * ety.zc.length:=by
  intro k xs hk hc
  simp only[D0,Bool.or_eq_true]at hk
  rcases hk with hk|hk
  ·obtain rfl:=gY hk
   exact⟨hc,by rw[HeldT.abz hc,hkl]⟩
  ·cases xs with
   |nil=>simp
   |cons=>cases hk
 have sl:∀ {k:List Bool} {xs:List (List T)} {N:Fp},RepI w N (.tv (.slc k xs) x)→∃ A cap,x = .slice A xs.length cap:=by
  intro k xs N h
  cases h with
  |slc ha hc h=>exact⟨_,_,rfl⟩
 unfold aar at h
 split at h
 ·rename_i s hd
  obtain⟨rfl,_⟩:=aB hx
  obtain⟨_,s1,h1,h2⟩:=Cmd.abt h
  obtain⟨hk,rfl⟩:=bm h1
  obtain⟨q1,rfl⟩:=af h2
  simp only[Prod.mk.injEq]at q1
  obtain⟨rfl,_,_⟩:=q1
  have hk:=gY hk
  have hu:P.underlying u = some .string:=hU.str hd
  have h1:ety.zc.length = 1:=by rw[←hkl,hk];rfl
  refine⟨Fp.none,F,byteCells s,by rw[Fp.or_none];exact R,fun _ _ _ h=>h,(lz s).1,by rw[hk];exact(lz (w:=w) s).2,?_,fun _ _ h=>h⟩
  rw[h1,lZ]
  exact Src.ofString w hu s
 ·rename_i vx e' hd
  have he':=hU.slice hd
  split at h
  ·rename_i hf
   obtain⟨⟨kx,a1,p1⟩,s1,h1,h2⟩:=Cmd.abt h
   obtain⟨_,s2,h3,h4⟩:=Cmd.abt h2
   obtain⟨hk,rfl⟩:=bm h3
   obtain⟨q1,rfl⟩:=af h4
   simp only[Prod.mk.injEq]at q1
   obtain⟨rfl,_,rfl⟩:=q1
   obtain⟨rfl,hI⟩:=oV R h1 hp hx Fp.none (fun _ _ h=>h.elim)
   obtain⟨A,cap,rfl⟩:=sl hI
   rcases kx with⟨k,xs⟩
   simp only at hk hI ⊢
   have hfe:∃ b o ys,HeldT w xs.flatten ys Fp.none∧(∀ j y,ys[j]? = some y→w.cell? ⟨b,o+j,none⟩ = some y)∧(∀ x∈xs,bT k x = true)∧(0 < xs.length * k.length→A = some ⟨b,o,none⟩):=by
    generalize hz:Value.slice A xs.length cap = z at hI
    cases hI with
    |@slc _ _ A' cap' b off ha hc h =>
     injection hz with e1 e2 e3
     subst e1
     simp only[D0,Bool.or_eq_true]at hk
     rcases hk with hk|hk
     ·obtain rfl:=gY hk
      obtain⟨ys,k1,k2,k3⟩:=Ce hf h
      exact⟨b,off,ys,k1,k2,k3,ha⟩
     ·cases xs with
      |nil=>exact⟨b,off,[],.nil,by simp,by simp,ha⟩
      |cons=>cases hk
   obtain⟨b,o,zs,k1,k2,k3,k4⟩:=hfe
   obtain⟨c1,c2⟩:=conv hk k3
   refine⟨Fp.none,F,zs,by rw[Fp.or_none];exact R,fun _ _ _ h=>h,k1,c1,Uq he' (b:=b) (off:=o) (by rw[←k1.length,c2]) (fun h0=>k4 ?_) k2 k1.oneCell,fun _ _ h=>h⟩
   rw[←k1.length,HeldT.abz k3]at h0;exact h0
  ·obtain⟨⟨kx,a1,p1⟩,s1,h1,h2⟩:=Cmd.abt h
   obtain⟨_,s2,h3,h4⟩:=Cmd.abt h2
   obtain⟨hk,rfl⟩:=bm h3
   obtain⟨q1,rfl⟩:=af h4
   simp only[Prod.mk.injEq]at q1
   obtain⟨rfl,_,rfl⟩:=q1
   obtain⟨F1,F',e1,e2,e3,e4,e5,e6⟩:=gv R h1 hp hx
   obtain⟨A,cap,b,off,G0,rfl,hle,hA,hF,hE,hd0,hw⟩:=bP e3
   obtain⟨zs,k1,k2,k3⟩:=xb hE
   rcases kx with⟨k,xs⟩
   obtain⟨c1,c2⟩:=conv hk k3
   obtain⟨F'',R',hd'⟩:=e1.shrink e2 (F1':=G0) (fun b o h=>by rw[hF];exact .inr h)
   obtain⟨R1,_,e2',_,e5'⟩:=e1.ext e2 w rfl rfl rfl (Nat.le_refl _) (fun _ _ _ _=>Same.refl _ _ _) (fun _ _ _=>rfl) (Fq:=G0) (fun b o h=>.inl (by rw[hF];exact .inr h))
   refine⟨G0,_,zs,R1,e2',k1,c1,Uq he' (b:=b) (off:=off) (by rw[←k1.length,c2]) (fun h0=>hA ?_) k2 k1.oneCell,fun v x h=>e5' v x (e5 v x h)⟩
   rw[←k1.length,HeldT.abz k3]at h0
   exact Nat.lt_of_lt_of_le h0 (Nat.mul_le_mul_right _ hle)
 ·cases h
end Go.Tm
namespace Go.Tm
variable {g:G} {X:Fp} {st st':St} {a:Act} {w:World} {base:Nat→Base} {mb:Nat→Nat} {F:Ix→Fp} {N:Fp} {P:Program}
theorem fw(b:Nat):∀ (vs:List Value) (o:Nat) (w:World),(w.setCells b o vs).heap.size = w.heap.size∧(w.setCells b o vs).os = w.os∧(w.setCells b o vs).tape = w.tape∧(w.setCells b o vs).output = w.output
 |[],o,w=>⟨rfl,rfl,rfl,rfl⟩
 |v :: vs,o,w=>by
  obtain⟨h1,h2,h3,h4⟩:=fw b vs (o+1) (w.setCell ⟨b,o,none⟩ v)
  exact⟨h1.trans (World.size_setCell ..),h2,h3,h4⟩
theorem yp{F1 F2:Fp}(R:Rel g (Fp.or X (Fp.or F1 F2)) st a w base mb F)(hX:Fp.dis (Fp.or g.X0 X) (Fp.or F1 F2))(h12:Fp.dis F1 F2){t u rt e:TypeId}{ety:Ty}(ht:P.underlying t = some (.slice e))(hT:TyOk P e ety)
 {xs ys:List (List T)} {news:List Value} {s x:Value} (hnew:HeldT w ys.flatten news F1) (hconf:∀ x∈ys,bT ety.kd x = true) (hsrc:Src P ety.zc.length u x ys.length news w) (hs:RepO w (.tv (.slc ety.kd xs) s) F2)
 (hb:(xs.length+ys.length) * ety.bytes≤1099511627776) (d:Nat) (hdn:d < g.nt) :
 ∃ y w' base' F',(Builtin.append_ #[t,u] rt #[s,x]).run P w = .ok y w'∧Rel g X ((st.cleared d 1).fills d 0 [.own ety.kd (xs++ys)]) a w' base' mb F'∧RepS w' (tot F') base' mb ((st.cleared d 1).fills d 0 [.own ety.kd (xs++ys)]) (.ref ⟨d,none,0⟩) y:=by
 obtain⟨A,cap,b,off,G0,rfl,hle,hA,hF,hE,hd0,hw⟩:=bP hs
 obtain⟨i,i1,i2,i3,i4⟩:=hT.infos
 have hkl:ety.kd.length = ety.zc.length:=by simp[Ty.kd]
 have hkp:0 < ety.kd.length:=by rw[hkl];exact hT.len
 have hnl:news.length = ys.length * ety.kd.length:=by rw[hkl];exact hsrc.newsLen
 rw[←i3]at hsrc
 by_cases hroom:xs.length+ys.length≤cap
 ·have hrun:∃ w',(Builtin.append_ #[t,u] rt #[.slice A xs.length cap,x]).run P w = .ok (.slice A (xs.length+ys.length) cap) w'∧w' = w.setCells b (off+xs.length * ety.kd.length) news:=by
   by_cases hn:ys.length = 0
   ·have h0:news = []:=by
     have:news.length = 0:=by rw[hnl,hn];simp
     exact List.eq_nil_of_length_eq_zero this
    subst h0
    rw[hn]at hsrc
    exact⟨w,by rw[run_append_nothing w t u rt e i ht i1 A xs.length cap hle x hsrc,hn];rfl,rfl⟩
   ·rw[hA (Nat.mul_pos (by omega) hkp)]
    have hin:∀ j,j < news.length→(w.cell? ⟨b,off+xs.length * ety.kd.length+j,none⟩).isSome = true∧w.frozen? ⟨b,off+xs.length * ety.kd.length+j,none⟩ = false:=fun j hj=>by
     rw[Nat.add_assoc]
     refine hw _ ?_
     have:=Nat.mul_le_mul_right ety.kd.length hroom
     rw[Nat.add_mul]at this;omega
    have hr:=run_append_room_src (P:=P) w t u rt e i ht i1 b off xs.length cap x ys.length news hsrc hroom (by rw[i3,←hkl];exact fun j hj=>(hin j hj).1) (by rw[i3,←hkl];exact fun j hj=>(hin j hj).2)
    rw[i3,←hkl]at hr
    exact⟨_,hr,rfl⟩
  obtain⟨w',hrun,rfl⟩:=hrun
  have hwr:∀ q p,¬(q = b∧off+xs.length * ety.kd.length≤p∧p < off+ (xs.length * ety.kd.length+ys.length * ety.kd.length))→Same w (w.setCells b (off+xs.length * ety.kd.length) news) q p:=fun q p h =>
   ⟨World.cell?_setCells_out b news _ w ⟨q,p,none⟩ (fun e1 _=>by
    simp only at e1
    by_cases hlt:p < off+xs.length * ety.kd.length
    ·exact .inl hlt
    ·exact .inr (Classical.byContradiction fun h2=>h ⟨e1,by omega,by simp only[Nat.not_le]at h2;rw[hnl]at h2;omega⟩)),World.frozen?_setCells b news _ w _⟩
  have hsub:xs.length * ety.kd.length+ys.length * ety.kd.length≤cap * ety.kd.length:=by rw[←Nat.add_mul];exact Nat.mul_le_mul_right _ hroom
  obtain⟨hsz,hos,htp,hop⟩:=fw b news (off+xs.length * ety.kd.length) w
  have hreg:∀ q p,(q = b∧off+xs.length * ety.kd.length≤p∧p < off+ (xs.length * ety.kd.length+ys.length * ety.kd.length))→F2 q p:=fun q p h=>by
   rw[hF];exact .inl ⟨h.1,by omega,by omega⟩
  obtain⟨R1,e1,e2,e3,e4⟩:=R.ext hX (w.setCells b (off+xs.length * ety.kd.length) news) hos htp hop (by rw[hsz];exact Nat.le_refl _) (fun q p _ hn=>hwr q p fun h=>hn (.inr (hreg q p h)))
   (fun q hq hn=>by
    by_cases hqb:q = b
    ·by_cases h0:news = []
     ·subst h0;rfl
     ·have hpos:0 < news.length:=List.length_pos_iff.2 h0
      exact(hn (off+xs.length * ety.kd.length) (.inr (hreg q _ ⟨hqb,Nat.le_refl _,by omega⟩))).elim
    ·exact World.heap_setCells_other w b _ news hq hqb) (Fq:=Fp.or F1 F2) (fun b o h=>.inl h)
  have hO:RepO (w.setCells b (off+xs.length * ety.kd.length) news) (.tv (.slc ety.kd (xs++ys)) (.slice A (xs.length+ys.length) cap)) (Fp.or F1 F2):=by
   have h1:RepO (w.setCells b (off+xs.length * ety.kd.length) news) (.elems ety.kd xs b off) G0:=hE.frame fun q p hqp=>hwr q p fun h=>by
    rcases hqp with hqp|hqp
    ·exact hd0 q p ⟨h.1,by omega,by omega⟩ hqp
    ·have:=hqp.2.2;omega
   have h2:RepO (w.setCells b (off+xs.length * ety.kd.length) news) (.elems ety.kd ys b (off+xs.length * ety.kd.length)) F1 :=
    HeldT.elems (hnew.mono fun q p hqp=>hwr q p fun h=>h12 q p hqp (hreg q p h)) hconf fun j y hj=>by
     have hlt:=(List.getElem?_eq_some_iff.1 hj).1
     rw[World.cell?_setCells_in b news _ w (fun j hj=>by
      rw[Nat.add_assoc];exact(hw _ (by omega)).1) j hlt]
     rw[←hj,List.getElem?_eq_getElem hlt]
   have hd12:Fp.dis G0 F1:=fun q p h h'=>h12 q p h' (by rw[hF];exact .inr h)
   have:=RepO.slc (w:=w.setCells b (off+xs.length * ety.kd.length) news) (k:=ety.kd) (xs:=xs++ys) (A:=A) (cap:=cap) hA (by simp;omega) (fun j hj=>by
    by_cases hin:xs.length * ety.kd.length≤j∧j < xs.length * ety.kd.length+news.length
    ·refine⟨?_,by rw[World.frozen?_setCells];exact(hw j hj).2⟩
     have:=World.cell?_setCells_in b news (off+xs.length * ety.kd.length) w (fun j hj=>by
      rw[Nat.add_assoc];exact(hw _ (by omega)).1) (j - xs.length * ety.kd.length) (by omega)
     rw[show off+xs.length * ety.kd.length+ (j - xs.length * ety.kd.length) = off+j by omega]at this
     rw[this];rfl
    ·have:=hwr b (off+j) (fun h=>hin ⟨by omega,by omega⟩)
     rw[this.1,this.2];exact hw j hj) (RepO.joinElems h1 h2 hd12) (fun q p h h'=>by
      rcases h' with h'|h'
      ·exact hd0 q p h h'
      ·exact h12 q p h' (by rw[hF];exact .inl h))
   rw[List.length_append]at this
   have he:Fp.or (region b off (cap * ety.kd.length)) (Fp.or G0 F1) = Fp.or F1 F2:=by rw[hF,←Fp.or_assoc,Fp.or_comm]
   rwa [he]at this
  obtain⟨F',base',R2,hr⟩:=R1.tmpSlice e2 d hdn hO
  exact⟨_,_,base',F',hrun,R2,hr⟩
 ·have hg:cap < xs.length+ys.length:=by omega
  obtain⟨olds,k1,k2,k3⟩:=xb hE
  have hol:olds.length = xs.length * ety.kd.length:=by rw[←k1.length,HeldT.abz k3]
  have hold:(Builtin.firstCells i.size xs.length (.slice A xs.length cap)).run P w.drew = .ok olds.toArray w.drew:=by
   by_cases h0:olds = []
   ·subst h0
    have hx:xs.length = 0:=by
     simp only[List.length_nil]at hol
     exact(Nat.mul_eq_zero.1 hol.symm).resolve_right (by omega)
    rw[hx]
    cases A with
    |none=>exact run_firstCells_none _ _ _ _ _
    |some ad=>exact run_firstCells_some w.drew i.size 0 ad 0 cap [] (by simp) (by simp)
   ·have hpos:0 < olds.length:=List.length_pos_iff.2 h0
    rw[hA (Nat.lt_of_lt_of_le (by omega) (Nat.mul_le_mul_right _ hle))]
    refine run_firstCells_some w.drew i.size xs.length _ _ _ olds (by rw[hol,hkl,i3]) fun j y hj=>?_
    rw[Addr.add_lit,World.cell?_drew]
    exact k2 j y hj
  have hm:xs.length+ys.length≤(xs.length+ys.length) * ety.bytes:=Nat.le_mul_of_pos_right _ hT.pos
  have hrun:=run_append_grow_src (P:=P) w t u rt e i _ ht i1 i2 A xs.length cap olds hold x ys.length news hsrc hg (by omega) (by rw[i4];exact growslice_fits hg (by omega))
  have hge:=grownCap_ge w (xs.length+ys.length) cap e
  obtain⟨F',R',hX'⟩:=R.shrink hX (F1':=Fp.or G0 F1) (fun q p h=>by
   rcases h with h|h
   ·exact .inr (by rw[hF];exact .inr h)
   ·exact .inl h)
  have hzl:(Builtin.zeroCells ety.zval.cells (grownCap w (xs.length+ys.length) cap e - (xs.length+ys.length))).toList.length = (grownCap w (xs.length+ys.length) cap e - (xs.length+ys.length)) * ety.kd.length:=by
   simp[Builtin.zeroCells,hT.zcells,Ty.kd]
  obtain⟨F'',base',R'',hr⟩:=R'.newSlice hX' d hdn (k:=ety.kd) (xs:=xs++ys) (ys:=olds++news)
   (cl:=olds++news++ (Builtin.zeroCells ety.zval.cells (grownCap w (xs.length+ys.length) cap e - (xs.length+ys.length))).toList)
   (by rw[List.flatten_append];exact k1.append hnew fun q p h h'=>h12 q p h' (by rw[hF];exact .inr h))
   (fun z hz=>(List.mem_append.1 hz).elim (k3 z) (hconf z)) (cap:=grownCap w (xs.length+ys.length) cap e) (by simpa using hge)
   (by
    rw[List.length_append,List.length_append,hol,hnl,hzl,←Nat.add_mul,←Nat.add_mul]
    congr 1;omega)
   (List.prefix_append _ _) e w.drew (.inr rfl)
  refine⟨_,_,base',F'',?_,R'',by simpa using hr⟩
  rw[hrun]
  congr 3
  apply Array.ext'
  simp
theorem HQ(R:Rel g X st a w base mb F){E:Env}(hE:EnvOk P E){t u rt:TypeId}{ty tx:Ty}(hT:TyOk P t ty)(hU:TyOk P u tx){vs vx:V}{s x:Value}{d:Option Nat}{v:V}{ans a':List Ans}{p:Prop}
 (hdn:∀ d',d = some d'→d' < g.nt) (h:(Ik E ty tx vs vx d ans).run st = some ((v,a',p),st')) (hp:p) (hs:RepS w (tot F) base mb st vs s) (hx:RepS w (tot F) base mb st vx x) :
 ∃ y w' base' F',(Builtin.append_ #[t,u] rt #[s,x]).run P w = .ok y w'∧Rel g X st' a w' base' mb F'∧RepS w' (tot F') base' mb st' v y:=by
 unfold Ik at h
 split at h
 ·rename_i e d hd
  split at h
  ·rename_i ety hety
   have hT':=hE _ _ hety
   obtain⟨⟨ys,a1,p1⟩,s1,h1,h2⟩:=Cmd.abt h
   simp only at h2
   split at h2
   ·obtain⟨_,s2,h3,h4⟩:=Cmd.abt h2
    rw[dA]at h3
    injection h3 with h3;injection h3 with _ h3
    obtain⟨q1,q2⟩:=af h4
    simp only[Prod.mk.injEq]at q1
    obtain⟨rfl,_,q3⟩:=q1
    subst q2;subst h3;subst q3
    obtain⟨hp1,hb⟩:=hp
    obtain⟨F1,F',news,e1,e2,e3,e4,e5,e6⟩:=Bx (P:=P) R hT' hU h1 hp1 hx
    simp only[RepS]at hs
    subst hs
    exact yp (F2:=Fp.none) (by rw[Fp.or_none];exact e1) (by rw[Fp.or_none];exact e2) (fun _ _ _ h=>h) (hT.slice hd) hT' (xs:=[]) e3 e4 e5 (ns w _) (by simpa using hb) d (hdn d rfl)
   ·obtain⟨⟨kx,a2,p2⟩,s2,h3,h4⟩:=Cmd.abt h2
    obtain⟨_,s3,h5,h6⟩:=Cmd.abt h4
    obtain⟨hk,rfl⟩:=bm h5
    obtain⟨_,s4,h7,h8⟩:=Cmd.abt h6
    rw[dA]at h7
    injection h7 with h7;injection h7 with _ h7
    obtain⟨q1,q2⟩:=af h8
    simp only[Prod.mk.injEq]at q1
    obtain⟨rfl,_,q3⟩:=q1
    subst q2;subst h7;subst q3
    obtain⟨hp1,hp2,hb⟩:=hp
    obtain⟨F1,F',news,e1,e2,e3,e4,e5,e6⟩:=Bx (P:=P) R hT' hU h1 hp1 hx
    obtain⟨F2,F'',k1,k2,k3,k4,k5,k6⟩:=gv e1 h3 hp2 (e6 _ _ hs)
    rcases kx with⟨k,xs⟩
    obtain rfl:=gY hk
    rw[Fp.or_assoc]at k1
    exact yp k1 (fun b o h h'=>by
     rcases h' with h'|h'
     ·exact e2 b o h h'
     ·exact k2 b o (h.imp id .inl) h') (fun b o h h'=>k2 b o (.inr (.inr h)) h') (hT.slice hd) hT' e3 e4 e5 k3 hb d (hdn d rfl)
  ·cases h
 ·cases h
end Go.Tm
namespace Go.Tm
variable {g:G} {X:Fp} {st st':St} {a:Act} {w:World} {base:Nat→Base} {mb:Nat→Nat} {F:Ix→Fp} {N:Fp} {P:Program}
def aaS:List T→Int
 |[.v (.int .u8 n)]=>n
 |_=>0
theorem HM:∀ {xs:List (List T)},sW xs→(⟨(bZ xs).toArray⟩:ByteArray) = strOfNums (xs.map aaS):=by
 intro xs h
 unfold strOfNums bZ
 congr 2
 rw[List.map_map]
 apply List.map_congr_left
 intro x hx
 obtain⟨n,rfl⟩:=h x hx
 rfl
theorem Ng{k:List Bool}{xs:List (List T)}{x:Value}{src dst e:TypeId}(hs:P.underlying src = some (.slice e))(he:P.underlying e = some (.int .u8))(hd:P.underlying dst = some .string)
 (hI:RepI w N (.tv (.slc k xs) x)) (hall:sW xs):(convert src dst x).run P w = .ok (.string ⟨(bZ xs).toArray⟩) w:=by
 cases hI with
 |@slc _ _ A cap b off ha hc h =>
  cases xs with
  |nil =>
   cases A with
   |none=>exact run_convert_bytes_nil w src e hs he 0 cap dst hd
   |some ad=>exact run_convert_bytes_back w src dst e ad cap [] hs he hd (fun j hj=>by simp at hj)
  |cons y ys =>
   have hk:k.length = 1:=by
    cases h with
    |econs hk h t =>
     obtain⟨n,rfl⟩:=hall y (by simp)
     exact(bz hk).symm
   have hA:=ha (by rw[hk];simp)
   subst hA
   rw[HM hall]
   refine run_convert_bytes_arg w src e hs he b off _ cap _ (by simp) (fun i hi=>?_) dst hd
   have hget:(y :: ys)[i]? = some ((y :: ys)[i]):=List.getElem?_eq_getElem hi
   obtain⟨h1,h2⟩:=h.getElem hget
   obtain⟨n,hn⟩:=hall _ (List.getElem_mem hi)
   rw[hn]at h1
   obtain⟨z,h3,h4,h5⟩:=RepI.getCell (j:=0) h1 rfl
   cases h5 with
   |v hv =>
    rw[hk,Nat.mul_one,Nat.add_zero]at h3
    rw[h3,List.getD_eq_getElem?_getD,List.getElem?_map,hget,Option.map_some,Option.getD_some,hn]
    rfl
theorem EG(R:Rel g X st a w base mb F){E:Env}(hE:EnvOk P E){src dst:TypeId}{vx v:V}{x:Value}{d:Option Nat}{ans a':List Ans}{p:Prop}
 (hdn:∀ d',d = some d'→d' < g.nt) (h:(CX E src dst vx d ans).run st = some ((v,a',p),st')) (hp:p) (hx:RepS w (tot F) base mb st vx x) :
 ∃ y w' base' F',(convert src dst x).run P w = .ok y w'∧Rel g X st' a w' base' mb F'∧RepS w' (tot F') base' mb st' v y:=by
 unfold CX at h
 split at h
 ·rename_i s t hs ht
  have hS:=hE _ _ hs
  have hT:=hE _ _ ht
  split at h
  ·rename_i k n hk
   obtain⟨ds,hds,_⟩:=hS.runUnderlying w
   obtain rfl:=pu hx
   split at h
   ·obtain⟨q1,rfl⟩:=af h
    simp only[Prod.mk.injEq]at q1
    obtain⟨rfl,_,q3⟩:=q1
    subst q3
    refine⟨_,w,base,F,?_,R,eL rfl⟩
    simp only[convert,Sem.run_bind,hds,run_underlying (hT.int hk),Result.andThen_ok]
    simp[Conv.intToInt,hp]
   ·cases h
  ·rename_i u hk
   obtain⟨ds,hds,_⟩:=hS.runUnderlying w
   obtain⟨rfl,_⟩:=aB hx
   obtain⟨q1,rfl⟩:=af h
   simp only[Prod.mk.injEq]at q1
   obtain⟨rfl,_,q3⟩:=q1
   refine⟨_,w,base,F,?_,R,eL rfl⟩
   simp only[convert,Sem.run_bind,hds,run_underlying (hT.str hk),Result.andThen_ok]
   rfl
  ·rename_i e u hks hkt
   obtain⟨rfl,_⟩:=aB hx
   split at h
   ·rename_i zc by_ d he
    obtain⟨_,s1,h1,h2⟩:=Cmd.abt h
    rw[dA]at h1
    injection h1 with h1;injection h1 with _ h1
    obtain⟨q1,q2⟩:=af h2
    simp only[Prod.mk.injEq]at q1
    obtain⟨rfl,_,q3⟩:=q1
    subst q2;subst h1;subst q3
    have hrun:=run_bytes_of_string (P:=P) w src dst e u (hS.str hks) (hT.slice hkt) ((hE _ _ he).int rfl)
    have hge:=grownCap_ge w u.size 0 e
    have hsz:(bytesRow u (grownCap w u.size 0 e)).toList.length = grownCap w u.size 0 e:=by
     have hd:u.data.size = u.size:=rfl
     simp only[bytesRow,Array.toList_append,List.length_append,Array.toList_map,List.length_map,Array.length_toList,Array.size_replicate,hd]
     omega
    obtain⟨F',base',R',hr⟩:=Rel.newSliceM (F1:=Fp.none) (by rw[Fp.or_none];exact R) (fun _ _ _ h=>h) d (hdn d rfl) (lz (w:=w) u).1 (lz (w:=w) u).2 (cap:=grownCap w u.size 0 e) (by rw[lZ];exact hge)
     (cl:=(bytesRow u (grownCap w u.size 0 e)).toList) (by rw[hsz];simp) (by simp[bytesRow,byteCells]) e w.drew (.inr rfl) (bytesRow u (grownCap w u.size 0 e)).size ((bytesRow u (grownCap w u.size 0 e)).size+1)
     (fun j hj=>by
      rw[Array.length_toList]at hj
      simp;omega)
    rw[lZ]at hr
    exact⟨_,_,base',F',hrun,by simpa using R',by simpa using hr⟩
   ·cases h
  ·rename_i e x' hks hkt hne
   split at h
   ·rename_i zc by_ he
    obtain⟨⟨kx,a1,p1⟩,s1,h1,h2⟩:=Cmd.abt h
    simp only at h2
    split at h2
    ·obtain⟨q1,rfl⟩:=af h2
     simp only[Prod.mk.injEq]at q1
     obtain⟨rfl,_,q3⟩:=q1
     subst q3
     obtain⟨hp1,hall,rfl⟩:=hp
     obtain⟨rfl,hI⟩:=oV R h1 hp1 hx Fp.none (fun _ _ h=>h.elim)
     refine⟨_,w,base,F,?_,R,eL rfl⟩
     exact Ng (hS.slice hks) ((hE _ _ he).int rfl) (hT.str hkt) hI hall
    ·cases h2
   ·cases h
  ·cases h
 ·cases h
/-! ### Parts -/
def Ft(w:World)(N:Fp)(base:Nat→Base)(mb:Nat→Nat)(st:St):Option V→Option Value→Prop
 |none,none=>True
 |some v,some x=>RepS w N base mb st v x
 |_,_=>False
theorem jY{dflt:Nat}{o:Option V}{x:Option Value}{n:Nat}{ans a':List Ans}{p:Prop}(h:zZ dflt o ans = some (n,a',p))(hp:p)(ho:Ft w N base mb st o x) :
 (o = none∧x = none∧n = dflt)∨(o≠none∧x = some (.int .i64 n)):=by
 unfold zZ at h
 split at h
 ·injection h with h;injection h with h1 h2
  cases x with
  |none=>exact .inl ⟨rfl,rfl,h1.symm⟩
  |some x=>exact ho.elim
 ·injection h with h;injection h with h1 h2;injection h2 with h2 h3
  subst h1;subst h3
  subst hp
  cases x with
  |none=>exact ho.elim
  |some x =>
   have ho':RepS w N base mb st (.t (.v (.int .i64 _))) x:=ho
   exact .inr ⟨by simp,by rw[pu ho']⟩
 ·cases h
theorem Cq{isSlice:Bool}{len cap l h:Nat}{lo hi:Option Value}(w:World)(hlo:(lo = none∧l = 0)∨lo = some (.int .i64 l))(hhi:(hi = none∧h = len)∨hi = some (.int .i64 h))(h1:l≤h)(h2:h≤cap) :
 (Instr.sliceBounds isSlice len cap lo hi none).run P w = .ok (l,h,cap) w:=by
 have hb:∀ (n m:Nat) (c:BoundsCode),n≤m→(Instr.sliceBound (.int .i64 n) m c).run P w = .ok n w:=fun n m c hnm=>by
  have:=run_sliceBound (P:=P) w .i64 n m c (by omega) (by omega)
  simpa using this
 rcases hlo with⟨rfl,rfl⟩|rfl <;> rcases hhi with⟨rfl,rfl⟩|rfl <;> simp[Instr.sliceBounds,hb,h1,h2]
theorem Jg(R:Rel g X st a w base mb F){E:Env}(hE:EnvOk P E){t:TypeId}{ty:Ty}(hT:TyOk P t ty){vx v:V}{x:Value}{lo hi mx:Option V}{xlo xhi xmx:Option Value}{ans a':List Ans}{p:Prop}
 (h:(Da E ty vx lo hi mx ans).run st = some ((v,a',p),st')) (hp:p) (hx:RepS w (tot F) base mb st vx x)
 (hlo:Ft w (tot F) base mb st lo xlo)
 (hhi:Ft w (tot F) base mb st hi xhi)
 (hmx:Ft w (tot F) base mb st mx xmx) :
 st' = st∧ug P (Instr.slice t x xlo xhi xmx) w (tot F) base mb st v:=by
 unfold Da at h
 split at h
 ·cases h
 ·cases xmx with
  |some _=>exact hmx.elim
  |none =>
   split at h
   ·rename_i s hd
    obtain⟨rfl,_⟩:=aB hx
    split at h
    ·rename_i n1 a1 p1 hb1
     split at h
     ·rename_i n2 a2 p2 hb2
      split at h
      ·obtain⟨q1,rfl⟩:=af h
       simp only[Prod.mk.injEq]at q1
       obtain⟨rfl,_,q3⟩:=q1
       subst q3
       obtain⟨hp1,hp2,hle1,hle2,rfl⟩:=hp
       refine⟨rfl,.string (s.extract n2 n1),?_,eL rfl⟩
       have k1:=jY hb1 hp1 hhi
       have k2:=jY hb2 hp2 hlo
       have hr:=Cq (P:=P) (isSlice:=false) (len:=s.size) (cap:=s.size) (lo:=xlo) (hi:=xhi) w (k2.imp (fun h=>h.2) (fun h=>h.2)) (k1.imp (fun h=>h.2) (fun h=>h.2)) hle1 hle2
       simp[Instr.slice,run_underlying (hT.str hd),hr]
      ·cases h
     ·cases h
    ·cases h
   ·rename_i e hd
    split at h
    ·rename_i ety hety
     have hT':=hE _ _ hety
     obtain⟨⟨kx,a0,p0⟩,s1,h1,h2⟩:=Cmd.abt h
     obtain⟨_,s2,h3,h4⟩:=Cmd.abt h2
     obtain⟨hk,rfl⟩:=bm h3
     have hk:=gY hk
     split at h4
     ·rename_i n1 a1 p1 hb1
      split at h4
      ·rename_i n2 a2 p2 hb2
       have fin:∀ {A:Option Addr} {len cap:Nat},len≤cap→len = kx.2.length→x = .slice A len cap→p1→p2→n2≤n1→n1≤len→(Instr.slice t x xlo xhi none).run P w = .ok (.slice (if cap = n2 then A else A.map (·.add (n2 * kx.1.length))) (n1 - n2) (cap - n2)) w:=by
        intro A len cap hlc hlen hxe hp1 hp2 hle1 hle2
        subst hlen;subst hxe
        have k1:=jY hb1 hp1 hhi
        have k2:=jY hb2 hp2 hlo
        have hr:=Cq (P:=P) (isSlice:=true) (len:=kx.2.length) (cap:=cap) (lo:=xlo) (hi:=xhi) w (k2.imp (fun h=>h.2) (fun h=>h.2)) (k1.imp (fun h=>h.2) (fun h=>h.2)) hle1 (by omega)
        simp[Instr.slice,run_underlying (hT.slice hd),hr,hT'.runSize,hk,Ty.kd]
       split at h4
       ·rename_i k xs
        obtain⟨q1,rfl⟩:=af h4
        simp only[Prod.mk.injEq]at q1
        obtain⟨rfl,_,q3⟩:=q1
        subst q3
        obtain⟨hp0,hp1,hp2,hle1,hle2⟩:=hp
        obtain⟨q4,q5⟩:=af h1
        simp only[Prod.mk.injEq]at q4
        obtain⟨rfl,_,_⟩:=q4
        subst q5
        simp only[RepS]at hx
        have hx':=hx
        refine⟨rfl,?_⟩
        generalize hz:T.slc k xs = z at hx'
        cases hx' with
        |v _=>cases hz
        |hole _=>cases hz
        |@slc k' xs' A cap b off ha hc hh =>
         injection hz with z1 z2
         subst z1;subst z2
         refine⟨_,fin hc rfl rfl hp1 hp2 hle1 hle2,?_⟩
         simp only[RepS]
         exact hx.part hle1 hle2
       ·rename_i r c
        obtain⟨q1,rfl⟩:=af h4
        simp only[Prod.mk.injEq]at q1
        obtain⟨rfl,_,q3⟩:=q1
        subst q3
        obtain⟨hp0,hp1,hp2,hle1,hle2⟩:=hp
        obtain⟨kx',s3,h5,h6⟩:=Cmd.abt h1
        obtain⟨rfl,he⟩:=eY h5
        obtain⟨q4,q5⟩:=af h6
        simp only[Prod.mk.injEq]at q4
        obtain⟨rfl,_,_⟩:=q4
        subst q5
        refine⟨rfl,?_⟩
        simp only[RepS]at hx
        obtain⟨y,hy,ho⟩:=dH R he
        obtain⟨A,cap,b,off,G0,rfl,hle,hA,hF,hE',hd0,hw⟩:=bP ho
        have hxe:=hx.2.1
        rw[hy]at hxe
        injection hxe with hxe
        subst hxe
        refine⟨_,fin hle rfl rfl hp1 hp2 hle1 hle2,?_⟩
        simp only[RepS,sY]
        intro k2 xs2 he2
        rw[he]at he2
        injection he2 with he2 he3
        subst he2;subst he3
        exact⟨hle1,hle2,A,cap,hy,rfl⟩
       ·cases h4
      ·cases h4
     ·cases h4
    ·cases h
   ·cases h
end Go.Tm
namespace Go.Tm
variable {g:G} {X:Fp} {st st':St} {a:Act} {w:World} {base:Nat→Base} {mb:Nat→Nat} {F:Ix→Fp} {N:Fp} {P:Program}
theorem RepS.mp{st:St}{mp':Nat→Option (List Value)}{v:V}{x:Value}(h:RepS w N base mb st v x):RepS w N base mb {st with mp:=mp'} v x :=
 RepS.move (st:=st) (st':={st with mp:=mp'}) (fun _ _=>True) (fun _=>True) (fun _ h=>h) (fun p x _ h=>by
  rcases p with⟨r,s,o⟩
  cases s with
  |none=>exact h
  |some s=>exact h) (fun _ _ _ _ _ _ h=>h) (fun p b o _ h=>by
  rcases p with⟨r,s,o'⟩
  cases s with
  |none=>exact h
  |some s=>exact h) (fun _ _=>rfl) _ _ (V.abu _) h
theorem RepI.less{N N':Fp}{ob:Ob}(h:RepI w N ob)(hs:∀ b o,N' b o→N b o):RepI w N' ob:=h.frame fun b o v hn hv=>⟨hv,fun h'=>hn (hs _ _ h')⟩
theorem Rel.putMap{Fm:Fp}(R:Rel g (Fp.or X Fm) st a w base mb F)(hX:Fp.dis (Fp.or g.X0 X) Fm)(m bk:Nat)(hFm:Fm = fun b' _=>b' = bk)(hmb:mb m = bk∨∀ i,V.all (fun _ _=>True) (fun j=>j≠m) (st.sl i)){es:Array MapEntry}{cl:Nat}{ks:List Value}
 (hw:w.heap[bk]? = some (.map es cl)) (hk:∀ x,x∈es.toList.map (·.key)↔x∈ks) (hv:∀ e∈es.toList,e.val = .bool true) :
 ∃ F',Rel g X {st with mp:=upd st.mp m (some ks)} a w base (upd mb m bk) F'∧∀ b o,tot F' b o→tot F b o:=by
 have hsub:∀ b o,tot (du (du F (.map m) Fm) .x (Fp.or g.X0 X)) b o→tot F b o:=by
  rintro b o ⟨i,hi⟩
  by_cases hix:i = .x
  ·subst hix;rw[aD]at hi
   exact⟨.x,by rw[R.fx];exact hi.elim .inl (fun h=>.inr (.inl h))⟩
  ·rw[az _ _ hix]at hi
   by_cases him:i = .map m
   ·subst him;rw[aD]at hi;exact⟨.x,by rw[R.fx];exact .inr (.inr hi)⟩
   ·rw[az _ _ him]at hi;exact⟨i,hi⟩
 refine⟨_,{nt:=R.nt,par:=R.par,df:=R.df,fx:=aD _ _ _,cell:=fun r c=>?_,hdr:=fun r=>?_,map:=fun j=>?_,dis:=?_,fresh:=fun b o h=>R.fresh b o (hsub b o h),ex:=fun b o h=>R.ex b o (hsub b o h),live:=R.live,slots:=fun i=>?_,frame:=R.frame,npar:=R.npar,al:=R.al},hsub⟩
 ·rw[az _ _ (by simp),az _ _ (by simp)]
  exact(R.cell r c).sub hsub
 ·rw[az _ _ (by simp),az _ _ (by simp)]
  exact R.hdr r
 ·rw[az _ _ (by simp)]
  by_cases hj:j = m
  ·subst hj
   rw[aD,ba]
   simp only[ba,I4]
   exact⟨hFm,es,cl,hw,hk,hv⟩
  ·rw[az _ _ (by simp[hj]),bH _ _ hj]
   simp only[bH _ _ hj]
   exact R.map j
 ·have key:∀ i b o,du (du F (.map m) Fm) .x (Fp.or g.X0 X) i b o→(i = .x∧Fp.or g.X0 X b o)∨(i = .map m∧Fm b o)∨(i≠.x∧i≠.map m∧F i b o):=by
   intro i b o hi
   by_cases hix:i = .x
   ·subst hix;rw[aD]at hi;exact .inl ⟨rfl,hi⟩
   ·rw[az _ _ hix]at hi
    by_cases him:i = .map m
    ·subst him;rw[aD]at hi;exact .inr (.inl ⟨rfl,hi⟩)
    ·rw[az _ _ him]at hi;exact .inr (.inr ⟨hix,him,hi⟩)
  have hx1:∀ {b o},Fp.or g.X0 X b o→F .x b o:=fun h=>by rw[R.fx];exact h.elim .inl (fun h=>.inr (.inl h))
  have hx2:∀ {b o},Fm b o→F .x b o:=fun h=>by rw[R.fx];exact .inr (.inr h)
  intro i j hij b o hi hj
  rcases key i b o hi with⟨rfl,h⟩|⟨rfl,h⟩|⟨h1,h2,h⟩ <;> rcases key j b o hj with⟨rfl,h'⟩|⟨rfl,h'⟩|⟨h1',h2',h'⟩
  ·exact hij rfl
  ·exact hX b o h h'
  ·exact R.dis j .x h1' b o h' (hx1 h)
  ·exact hX b o h' h
  ·exact hij rfl
  ·exact R.dis j .x h1' b o h' (hx2 h)
  ·exact R.dis i .x h1 b o h (hx1 h')
  ·exact R.dis i .x h1 b o h (hx2 h')
  ·exact R.dis i j hij b o h h'
 ·have h0:=RepS.mp (mp':=upd st.mp m (some ks)) (R.slots i)
  have hpl:∀ p b o,PlaceAt w base {st with mp:=upd st.mp m (some ks)} p b o→PlaceAt w base {st with mp:=upd st.mp m (some ks)} p b o:=fun _ _ _ h=>h
  rcases hmb with hmb|hmb
  ·refine RepS.move (st:={st with mp:=upd st.mp m (some ks)}) (st':={st with mp:=upd st.mp m (some ks)}) (fun _ _=>True) (fun _=>True) (fun ob h=>h.less hsub) (fun _ _ _ h=>h) (fun _ _ _ _ _ _ h=>h) (fun _ _ _ _ h=>h) (fun j _=>?_) _ _ (V.abu _) h0
   by_cases hj:j = m
   ·subst hj;rw[ba];exact hmb.symm
   ·rw[bH _ _ hj]
  ·refine RepS.move (st:={st with mp:=upd st.mp m (some ks)}) (st':={st with mp:=upd st.mp m (some ks)}) (fun _ _=>True) (fun j=>j≠m) (fun ob h=>h.less hsub) (fun _ _ _ h=>h) (fun _ _ _ _ _ _ h=>h) (fun _ _ _ _ h=>h) (fun j hj=>bH _ _ hj) _ _ (hmb i) h0
theorem Rel.takeMap(R:Rel g X st a w base mb F){m:Nat}{ks:List Value}(hm:st.mp m = some ks) :
 ∃ F',Rel g (Fp.or X (fun b' _=>b' = mb m)) {st with mp:=upd st.mp m none} a w base mb F'∧Fp.dis (Fp.or g.X0 X) (fun b' _=>b' = mb m)∧∃ es cl,w.heap[mb m]? = some (.map es cl)∧(∀ x,x∈es.toList.map (·.key)↔x∈ks)∧∀ e∈es.toList,e.val = .bool true:=by
 have h0:=R.map m
 rw[hm]at h0
 obtain⟨hF,es,cl,h1,h2,h3⟩:=h0
 have hsub:∀ b o,tot (du (du F (.map m) Fp.none) .x (Fp.or g.X0 (Fp.or X (fun b' _=>b' = mb m)))) b o→tot F b o:=by
  rintro b o ⟨i,hi⟩
  by_cases hix:i = .x
  ·subst hix;rw[aD]at hi
   rcases hi with hi|hi|hi
   ·exact⟨.x,by rw[R.fx];exact .inl hi⟩
   ·exact⟨.x,by rw[R.fx];exact .inr hi⟩
   ·exact⟨.map m,by rw[hF];exact hi⟩
  ·rw[az _ _ hix]at hi
   by_cases him:i = .map m
   ·subst him;rw[aD]at hi;exact hi.elim
   ·rw[az _ _ him]at hi;exact⟨i,hi⟩
 refine⟨_,{nt:=R.nt,par:=R.par,df:=R.df,fx:=aD _ _ _,cell:=fun r c=>?_,hdr:=fun r=>?_,map:=fun j=>?_,dis:=?_,fresh:=fun b o h=>R.fresh b o (hsub b o h),ex:=fun b o h=>R.ex b o (hsub b o h),live:=R.live,slots:=fun i=>?_,frame:=R.frame,npar:=R.npar,al:=R.al},?_,es,cl,h1,h2,h3⟩
 ·rw[az _ _ (by simp),az _ _ (by simp)]
  exact(R.cell r c).sub hsub
 ·rw[az _ _ (by simp),az _ _ (by simp)]
  exact R.hdr r
 ·rw[az _ _ (by simp)]
  by_cases hj:j = m
  ·subst hj
   rw[aD]
   simp only[ba,I4]
   exact fun _ _ h=>h
  ·rw[az _ _ (by simp[hj])]
   simp only[bH _ _ hj]
   exact R.map j
 ·have key:∀ i b o,du (du F (.map m) Fp.none) .x (Fp.or g.X0 (Fp.or X (fun b' _=>b' = mb m))) i b o→(i = .x∧(F .x b o∨F (.map m) b o))∨(i≠.x∧i≠.map m∧F i b o):=by
   intro i b o hi
   by_cases hix:i = .x
   ·subst hix;rw[aD]at hi
    refine .inl ⟨rfl,?_⟩
    rcases hi with hi|hi|hi
    ·exact .inl (by rw[R.fx];exact .inl hi)
    ·exact .inl (by rw[R.fx];exact .inr hi)
    ·exact .inr (by rw[hF];exact hi)
   ·rw[az _ _ hix]at hi
    by_cases him:i = .map m
    ·subst him;rw[aD]at hi;exact hi.elim
    ·rw[az _ _ him]at hi;exact .inr ⟨hix,him,hi⟩
  intro i j hij b o hi hj
  rcases key i b o hi with⟨rfl,h⟩|⟨h1,h2,h⟩ <;> rcases key j b o hj with⟨rfl,h'⟩|⟨h1',h2',h'⟩
  ·exact hij rfl
  ·rcases h with h|h
   ·exact R.dis _ _ hij b o h h'
   ·exact R.dis _ _ (fun e=>h2' e.symm) b o h h'
  ·rcases h' with h'|h'
   ·exact R.dis _ _ hij b o h h'
   ·exact R.dis _ _ h2 b o h h'
  ·exact R.dis _ _ hij b o h h'
 ·have h0:=RepS.mp (mp':=upd st.mp m none) (R.slots i)
  exact RepS.move (st:={st with mp:=upd st.mp m none}) (st':={st with mp:=upd st.mp m none}) (fun _ _=>True) (fun _=>True) (fun ob h=>h.less hsub) (fun _ _ _ h=>h) (fun _ _ _ _ _ _ h=>h) (fun _ _ _ _ h=>h) (fun _ _=>rfl) _ _ (V.abu _) h0
 ·intro b o h h'
  exact R.dis (.map m) .x (by simp) b o (by rw[hF];exact h') (by rw[R.fx];exact h)
theorem DX(R:Rel g X st a w base mb F){t:TypeId}{d:Option Nat}{v:V}{ans a':List Ans}{p:Prop}(h:(CN d ans).run st = some ((v,a',p),st')) :
 ∃ x w' mb' F',(Instr.makeMap t none).run P w = .ok x w'∧Rel g X st' a w' base mb' F'∧RepS w' (tot F') base mb' st' v x:=by
 unfold CN at h
 split at h
 ·rename_i d
  simp only[Cmd.run]at h
  injection h with h;injection h with h h2
  injection h with h h3
  subst h;subst h2
  have R1:=R.kill (.root d)
  rw[show X = Fp.or X Fp.none from(Fp.or_none X).symm]at R1
  have hpush:∀ b,b < w.heap.size→(w.alloc (.map #[] 0)).heap[b]? = w.heap[b]?:=fun b hb=>by simp only[World.alloc];rw[Array.getElem?_push,if_neg (by omega)]
  obtain⟨R2,e1,e2,e3,e4⟩:=R1.ext (fun _ _ _ h=>h) (w.alloc (.map #[] 0)) rfl rfl rfl (by simp) (fun b o hb _=>⟨World.cell?_alloc_lt _ _ _ hb,World.frozen?_alloc_old _ _ _ (Nat.ne_of_lt hb)⟩) (fun b hb _=>hpush b hb)
   (Fq:=fun b' _=>b' = w.heap.size) (fun b o h=>.inr ⟨by rw[h];exact Nat.le_refl _,by rw[h];simp⟩)
  obtain⟨F',R3,_⟩:=R2.putMap e2 d w.heap.size rfl (.inr fun i=>by
   have:=V.abA (.root d) (st.sl i)
   refine V.abw (fun _ _ _=>trivial) (fun m hm=>?_) _ this
   intro e
   subst e
   simp only[Kl.m,bJ]at hm
   cases hm) (es:=#[]) (cl:=0) (ks:=[]) (MapKept.heap_alloc w _).1 (fun x=>Iff.rfl) (fun e he=>nomatch he)
  refine⟨.map (some w.heap.size),_,_,F',rfl,R3,?_⟩
  simp only[RepS,ba]
 ·cases h
theorem Gb{E:Env}(hE:EnvOk P E){kt:TypeId}{vk:V}{xk key:Value}(hk:Ri E kt vk = some key)(hx:RepS w N base mb st vk xk) :
 xk = key∧∃ d,P.underlying kt = some d∧MapKept.IsKey d key∧∀ x,kin key x→MapKept.IsKey d x:=by
 unfold Ri at hk
 split at hk
 ·obtain rfl:=pu hx
  split at hk
  ·rename_i he
   injection hk with hk
   subst hk
   exact⟨rfl,_,(hE _ _ he).int rfl,rfl,fun x hx=>by cases x <;> first|exact hx.elim|exact hx.symm⟩
  ·cases hk
 ·obtain⟨rfl,_⟩:=aB hx
  split at hk
  ·rename_i he
   injection hk with hk
   subst hk
   exact⟨rfl,_,(hE _ _ he).str rfl,trivial,fun x hx=>by cases x <;> first|exact hx.elim|trivial⟩
  ·cases hk
 ·cases hk
theorem KD{m:Nat}{ks:List Value}(h:(Y8 m).run st = some (ks,st')):st' = st∧st.mp m = some ks:=by
 simp only[Y8,Cmd.run]at h
 split at h
 ·rename_i k hq
  obtain⟨rfl,rfl⟩:=af h
  exact⟨rfl,hq⟩
 ·cases h
theorem Hi(R:Rel g X st a w base mb F){E:Env}(hE:EnvOk P E){t:TypeId}{ty:Ty}(hT:TyOk P t ty){vx vk v:V}{x xk:Value}{ok:Bool}{ans a':List Ans}{p:Prop}
 (h:(H9 E ty vx vk ok ans).run st = some ((v,a',p),st')) (hp:p) (hx:RepS w (tot F) base mb st vx x) (hk:RepS w (tot F) base mb st vk xk):st' = st∧ug P (Instr.lookup t x xk ok) w (tot F) base mb st v:=by
 unfold H9 at h
 split at h
 ·rename_i kt et m r a0 hd
  split at h
  ·rename_i key by_ hkey het
   obtain⟨ks,s1,h1,h2⟩:=Cmd.abt h
   obtain⟨rfl,hm⟩:=KD h1
   obtain⟨q1,rfl⟩:=af h2
   simp only[Prod.mk.injEq]at q1
   obtain⟨rfl,_,q3⟩:=q1
   subst q3
   obtain⟨hin,hkin⟩:=hp
   obtain⟨rfl,d,hd1,hd2,hd3⟩:=Gb hE hkey hk
   simp only[RepS]at hx
   subst hx
   have hmo:=R.map m
   rw[hm]at hmo
   obtain⟨hF,es,cl,k1,k2,k3⟩:=hmo
   have hks:∀ e∈es.toList,MapKept.IsKey d e.key:=fun e he=>hd3 _ (hkin _ ((k2 _).1 (List.mem_map.2 ⟨e,he,rfl⟩)))
   refine⟨rfl,.bool r,?_,eL rfl⟩
   rcases MapKept.findNow_spec hd2 es.toList 0 hks with⟨f1,f2⟩|⟨j,e,f1,f2,f3⟩
   ·have hr:r = false:=by
     cases r with
     |false=>rfl
     |true =>
      obtain⟨e,he,hek⟩:=List.mem_map.1 ((k2 _).2 (hin.2 rfl))
      exact absurd hek (f2 e he)
    subst hr
    simp[Instr.lookup,run_underlying (hT.map hd),MapKept.run_getObj_map k1,MapKept.run_checkKey hd1 hd2,MapKept.run_findKey hd1 f1,(hE _ _ het).runZero,Ty.zval,Ty.agg,zv]
   ·have he:=List.mem_of_getElem? f2
    have hr:r = true:=hin.1 ((k2 _).1 (List.mem_map.2 ⟨e,he,f3⟩))
    subst hr
    simp[Instr.lookup,run_underlying (hT.map hd),MapKept.run_getObj_map k1,MapKept.run_checkKey hd1 hd2,MapKept.run_findKey hd1 f1,k3 e he]
  ·cases h
 ·cases h
theorem yU(R:Rel g X st a w base mb F){E:Env}(hE:EnvOk P E){t:TypeId}{ty:Ty}(hT:TyOk P t ty){vx vk vv v:V}{x xk xv:Value}{ans a':List Ans}{p:Prop}
 (h:(sy E ty vx vk vv ans).run st = some ((v,a',p),st')) (hp:p) (hx:RepS w (tot F) base mb st vx x) (hk:RepS w (tot F) base mb st vk xk) (hv:RepS w (tot F) base mb st vv xv) :
 ∃ w' mb' F',(Instr.mapUpdate t x xk xv).run P w = .ok () w'∧Rel g X st' a w' base mb' F'∧v = .undef:=by
 unfold sy at h
 split at h
 ·rename_i kt et m hd
  obtain⟨rfl,_⟩:=aB hv
  split at h
  ·rename_i key hkey
   obtain⟨ks,s1,h1,h2⟩:=Cmd.abt h
   obtain⟨rfl,hm⟩:=KD h1
   simp only[Cmd.run]at h2
   injection h2 with h2;injection h2 with q1 q2
   simp only[Prod.mk.injEq]at q1
   obtain⟨rfl,_,q3⟩:=q1
   subst q3;subst q2
   obtain⟨rfl,d,hd1,hd2,hd3⟩:=Gb hE hkey hk
   simp only[RepS]at hx
   subst hx
   obtain⟨F1,R1,e1,es,cl,k1,k2,k3⟩:=R.takeMap hm
   have hks:∀ e∈es.toList,MapKept.IsKey d e.key:=fun e he=>hd3 _ (hp _ ((k2 _).1 (List.mem_map.2 ⟨e,he,rfl⟩)))
   have fin:∀ (es':Array MapEntry) (cl':Nat),(∀ x,x∈es'.toList.map (·.key)↔x∈ks++ [xk])→(∀ e∈es'.toList,e.val = .bool true)→
    (Instr.mapUpdate t (.map (some (mb m))) xk (.bool true)).run P w = .ok () {w with heap:=w.heap.setIfInBounds (mb m) (.map es' cl')}→
    ∃ w' mb' F',(Instr.mapUpdate t (.map (some (mb m))) xk (.bool true)).run P w = .ok () w'∧Rel g X ((Wr.mp m (ks++ [xk])).ap s1) a w' base mb' F'∧V.undef = .undef:=by
    intro es' cl' he1 he2 hrun
    obtain⟨hs1,hs2⟩:=MapKept.heap_set (o':=.map es' cl') k1
    have hsame:∀ b o,b≠mb m→Same w {w with heap:=w.heap.setIfInBounds (mb m) (.map es' cl')} b o:=fun b o hb=>by
     have:=hs2 b hb
     simp only[Same,World.cell?,World.frozen?]
     rw[this];exact⟨rfl,rfl⟩
    obtain⟨R2,_,e2,_⟩:=R1.ext e1 {w with heap:=w.heap.setIfInBounds (mb m) (.map es' cl')} rfl rfl rfl (by simp) (fun b o _ hn=>hsame b o hn) (fun b _ hn=>hs2 b (hn 0)) (Fq:=fun b' _=>b' = mb m) (fun b o h=>.inl h)
    obtain⟨F3,R3,_⟩:=R2.putMap e2 m (mb m) rfl (.inl rfl) hs1 he1 he2
    refine⟨_,upd mb m (mb m),F3,hrun,?_,rfl⟩
    have e:(Wr.mp m (ks++ [xk])).ap s1 = {({s1 with mp:=upd s1.mp m none}:St)with mp:=upd ({s1 with mp:=upd s1.mp m none}:St).mp m (some (ks++ [xk]))}:=by
     simp only[Wr.ap,St.mk.injEq,true_and]
     funext j
     by_cases hj:j = m
     ·subst hj;rw[ba,ba]
     ·rw[bH _ _ hj,bH _ _ hj,bH _ _ hj]
    rw[e];exact R3
   rcases MapKept.findNow_spec hd2 es.toList 0 hks with⟨f1,f2⟩|⟨j,e,f1,f2,f3⟩
   ·refine fin (es.push {key:=xk,val:=.bool true,born:=cl}) (cl+1) (fun x=>?_) (fun e he=>?_) ?_
    ·simp only[Array.toList_push,List.map_append,List.mem_append,k2 x,List.map_cons,List.map_nil]
    ·simp only[Array.toList_push,List.mem_append,List.mem_singleton]at he
     rcases he with he|rfl
     ·exact k3 e he
     ·rfl
    ·simp[Instr.mapUpdate,run_underlying (hT.map hd),MapKept.run_getObj_map k1,MapKept.run_checkKey hd1 hd2,MapKept.run_findKey hd1 f1,MapKept.run_setObj_map _ k1]
   ·have hj:es[j]? = some e:=by simpa using f2
    have hkey':∀ e',es[j]? = some e'→({e' with key:=xk,val:=.bool true}:MapEntry).key = e'.key:=fun e' he'=>by rw[hj]at he';cases he';exact f3.symm
    refine fin (es.modify j fun e=>{e with key:=xk,val:=.bool true}) cl (fun x=>?_) (fun e' he=>?_) ?_
    ·rw[MapKept.modify_keys j _ hkey',k2 x,List.mem_append,List.mem_singleton]
     constructor
     ·exact .inl
     ·rintro(h|rfl)
      ·exact h
      ·exact(k2 _).1 (List.mem_map.2 ⟨e,List.mem_of_getElem? f2,f3⟩)
    ·obtain⟨i,hi⟩:=List.mem_iff_getElem?.1 he
     rw[Array.getElem?_toList,Array.getElem?_modify]at hi
     split at hi
     ·rename_i hij
      cases hei:es[i]? with
      |none=>rw[hei]at hi;cases hi
      |some ei=>rw[hei]at hi;simp only[Option.map_some,Option.some.injEq]at hi;rw[←hi]
     ·exact k3 e' (Array.mem_toList_iff.2 (Array.mem_of_getElem? hi))
    ·simp[Instr.mapUpdate,run_underlying (hT.map hd),MapKept.run_getObj_map k1,MapKept.run_checkKey hd1 hd2,MapKept.run_findKey hd1 f1,hj,f3,MapKept.run_keyThatStays hd2,MapKept.run_setObj_map _ k1]
  ·cases h
 ·cases h
end Go.Tm
namespace Go.Tm
def VR:V→Value→List Value→Prop
 |.agg _,x,ys=>x = .agg ys.toArray
 |_,x,ys=>ys = [x]
def I3(w:World)(b0 o0 n:Nat):Option (Nat×Nat×Nat)→Nat→Value→Prop
 |none,off,x=>x = .pointer (some ⟨b0,o0+off,none⟩)
 |some (c,i,s),off,x=>c < n∧∃ b o len cap,w.cell? ⟨b0,o0+c,none⟩ = some (.slice (some ⟨b,o,none⟩) len cap)∧x = .pointer (some ⟨b,o+i * s+off,none⟩)
def CellsAt(w:World)(b o:Nat)(ys:List Value):Prop:=∀ j y,ys[j]? = some y→w.cell? ⟨b,o+j,none⟩ = some y∧w.frozen? ⟨b,o+j,none⟩ = false
inductive ArgsR (w:World) (N:Fp) (as0:List A) (xs0:List Value):List A→List Value→Fp→Fp→Prop where
 |nil:ArgsR w N as0 xs0 [] [] Fp.none Fp.none
 |val {v x ys F1 as xs F2 W} (h:VR v x ys) (hh:Held w N (cellsOf v) ys F1) (t:ArgsR w N as0 xs0 as xs F2 W) (hd:Fp.dis F1 F2):ArgsR w N as0 xs0 (.val v :: as) (x :: xs) (Fp.or F1 F2) W
 |bor {v x ys F1 as xs F2 W} (h:VR v x ys) (hh:Held w N (cellsOf v) ys F1) (t:ArgsR w N as0 xs0 as xs F2 W) (hd:Fp.dis F1 F2):ArgsR w N as0 xs0 (.bor v :: as) (x :: xs) (Fp.or F1 F2) W
 |ptr {cs b o ys F1 as xs F2} (hh:Held w N cs ys F1) (hc:CellsAt w b o ys) (t:ArgsR w N as0 xs0 as xs F2 Fp.none) (hd:Fp.dis F1 F2) :
  ArgsR w N as0 xs0 (.ptr cs :: as) (.pointer (some ⟨b,o,none⟩) :: xs) (Fp.or F1 F2) (region b o cs.length)
 |rel {j st off cs b o x as xs F2 W} (hj:as0[j]? = some (.ptr cs)) (hx:xs0[j]? = some (.pointer (some ⟨b,o,none⟩))) (h:I3 w b o cs.length st off x) (t:ArgsR w N as0 xs0 as xs F2 W) :
  ArgsR w N as0 xs0 (.rel j st off :: as) (x :: xs) F2 W
inductive OutsR (w:World) (N:Fp):List A→List Value→List (List V)→Fp→Prop where
 |nil:OutsR w N [] [] [] Fp.none
 |val {v x as xs outs F} (t:OutsR w N as xs outs F):OutsR w N (.val v :: as) (x :: xs) ([] :: outs) F
 |rel {j st off x as xs outs F} (t:OutsR w N as xs outs F):OutsR w N (.rel j st off :: as) (x :: xs) ([] :: outs) F
 |bor {v x ys cs F1 as xs outs F2} (h:VR v x ys) (hh:Held w N cs ys F1) (t:OutsR w N as xs outs F2) (hd:Fp.dis F1 F2):OutsR w N (.bor v :: as) (x :: xs) (cs :: outs) (Fp.or F1 F2)
 |ptr {cs0 cs b o ys F1 as xs outs F2} (hl:cs.length = cs0.length) (hh:Held w N cs ys F1) (hc:CellsAt w b o ys) (t:OutsR w N as xs outs F2) (hd:Fp.dis F1 F2) :
  OutsR w N (.ptr cs0 :: as) (.pointer (some ⟨b,o,none⟩) :: xs) (cs :: outs) (Fp.or F1 F2)
inductive VRs:List V→List Value→List Value→Prop where
 |nil:VRs [] [] []
 |cons {v x ys vs xs zs} (h:VR v x ys) (hl:ys.length = (cellsOf v).length) (t:VRs vs xs zs):VRs (v :: vs) (x :: xs) (ys++zs)
def ResR(w:World)(N:Fp)(as:List A)(args:List Value)(res:V)(x:Value)(F:Fp):Prop :=
 match res with
 |.ptr ⟨j,st,off⟩=>F = Fp.none∧∃ cs b o,as[j]? = some (.ptr cs)∧args[j]? = some (.pointer (some ⟨b,o,none⟩))∧I3 w b o cs.length st off x
 |.tup []=>F = Fp.none
 |.tup [.tup cs]=>∃ b o ys F1,x = .pointer (some ⟨b,o,none⟩)∧Held w N cs ys F1∧CellsAt w b o ys∧F = Fp.or F1 (region b o cs.length)∧Fp.dis F1 (region b o cs.length)
 |.tup vs=>∃ xs ys,x = .tuple xs.toArray∧VRs vs xs ys∧Held w N (vs.flatMap cellsOf) ys F
 |v=>∃ ys,VR v x ys∧Held w N (cellsOf v) ys F
def Fn(P:Program)(f:FuncId)(as:List A)(res:V)(outs:List (List V)):Prop :=
 ∀ (w:World) (X0 F W:Fp) (args:List Value),ArgsR w (Fp.or X0 (Fp.or F W)) as args as args F W→Fp.dis X0 (Fp.or F W)→Fp.dis F W→(∀ b o,X0 b o∨F b o∨W b o→b < w.heap.size)→
  Calls P f args.toArray w fun e w'=>∃ x Fr Fo,e = .returned x∧Frame w (Fp.or F W) w'∧(∀ b o,Fr b o∨Fo b o→F b o∨w.heap.size≤b)∧(∀ b o,Fr b o∨Fo b o→b < w'.heap.size)∧
   Fp.dis Fr Fo∧ResR w' (Fp.or X0 (Fp.or (Fp.or Fr Fo) W)) as args res x Fr∧OutsR w' (Fp.or X0 (Fp.or (Fp.or Fr Fo) W)) as args outs Fo
end Go.Tm
namespace Go.Tm
variable {g:G} {X:Fp} {st st':St} {a:Act} {w:World} {base:Nat→Base} {mb:Nat→Nat} {F:Ix→Fp} {N:Fp} {P:Program}
theorem qo{z v x:V}{ans a':List Ans}{p:Prop}(h:(ov z v ans).run st = some ((x,a',p),st')):bQ x = true:=by
 have tk:∀ {v:V},((kO v ans).bind fun(kx,a,p)=>Cmd.ret (V.own kx.1 kx.2,a,p)).run st = some ((x,a',p),st')→bQ x = true:=by
  intro v h
  obtain⟨⟨kx,a1,p1⟩,s1,h1,h2⟩:=Cmd.abt h
  obtain⟨q,_⟩:=af h2
  simp only[Prod.mk.injEq]at q
  rw[←q.1];rfl
 unfold ov at h
 split at h
 ·obtain⟨q,_⟩:=af h
  simp only[Prod.mk.injEq]at q
  rw[←q.1];rfl
 ·split at h
  ·obtain⟨q,_⟩:=af h
   simp only[Prod.mk.injEq]at q
   rw[←q.1];rfl
  ·cases h
 ·exact tk h
theorem ua{v:V}(h:bQ v = true):cellsOf v = [v]:=by cases v <;> first|rfl|cases h
theorem oU(R:Rel g X st a w base mb F){ty:Ty}{x v:V}{y:Value}{ans a':List Ans}{p:Prop}(h:(Fv ty x ans).run st = some ((v,a',p),st'))(hp:p)(hx:RepS w (tot F) base mb st x y) :
 ∃ F1 F' ys,Rel g (Fp.or X F1) st' a w base mb F'∧Fp.dis (Fp.or g.X0 X) F1∧VR v y ys∧Held w (tot F') (cellsOf v) ys F1∧(∀ b o,tot F' b o→tot F b o)∧od w (tot F) base mb st w (tot F') base st'∧st'.rn = st.rn:=by
 obtain⟨⟨xs,a1,p1⟩,s1,h1,h2⟩:=Cmd.abt h
 obtain⟨q,rfl⟩:=af h2
 simp only[Prod.mk.injEq]at q
 obtain⟨rfl,_,rfl⟩:=q
 cases x with
 |agg cs =>
  simp only[RepS]at hx
  obtain⟨ys,rfl,hys⟩:=hx
  obtain⟨F1,F',e1,e2,e3,e4,e5,e6⟩:=lF R h1 hp hys
  exact⟨F1,F',ys,e1,e2,rfl,e3,e4,e5,e6⟩
 |_ =>
  obtain⟨F1,F',e1,e2,e3,e4,e5,e6⟩:=lF (ys:=[y]) R h1 hp (by simp only[cellsOf,RepSs];exact⟨hx,trivial⟩)
  have hf:∃ c,xs = [c]∧bQ c = true:=by
   revert h1
   cases hz:ty.zc with
   |nil=>intro h1;cases h1
   |cons z zs =>
    intro h1
    simp only[cellsOf,boxV.toCells]at h1
    obtain⟨⟨c,a2,p2⟩,s2,h3,h4⟩:=Cmd.abt h1
    obtain⟨⟨ds,a3,p3⟩,s3,h5,h6⟩:=Cmd.abt h4
    obtain⟨q1,_⟩:=af h6
    obtain⟨q2,_⟩:=af h5
    simp only[Prod.mk.injEq]at q1 q2
    refine⟨c,?_,qo h3⟩
    rw[←q1.1,←q2.1]
  obtain⟨c,rfl,hc⟩:=hf
  refine⟨F1,F',[y],e1,e2,?_,?_,e4,e5,e6⟩
  ·simp only[oG]
   cases c <;> first|rfl|cases hc
  ·simp only[oG]
   rw[ua hc];exact e3
theorem HB(R:Rel g X st a w base mb F){z v x:V}{y:Value}{ans a':List Ans}{p:Prop}(h:(NU z v ans).run st = some ((x,a',p),st'))(hp:p)(hv:RepS w (tot F) base mb st v y)
 (N':Fp) (hN:∀ b o,N' b o→tot F b o) (hN2:∀ r c,kA r c v = true→∀ b o,N' b o→¬F (.cell r c) b o):st' = st∧∃ t,x = .t t∧RepI w N' (.tv t y):=by
 unfold NU at h
 split at h
 ·obtain⟨q,rfl⟩:=af h
  simp only[Prod.mk.injEq]at q
  simp only[RepS]at hv
  exact⟨rfl,_,q.1.symm,hv.less hN⟩
 ·split at h
  ·rename_i k _
   obtain⟨q,rfl⟩:=af h
   simp only[Prod.mk.injEq]at q
   simp only[RepS]at hv
   subst hv
   exact⟨rfl,_,q.1.symm,RepI.slc (xs:=[]) (b:=0) (off:=0) (fun h=>by simp at h) (Nat.le_refl _) .enil⟩
  ·cases h
 ·obtain⟨⟨kx,a1,p1⟩,s1,h1,h2⟩:=Cmd.abt h
  obtain⟨q,rfl⟩:=af h2
  simp only[Prod.mk.injEq]at q
  obtain⟨rfl,_,rfl⟩:=q
  obtain⟨rfl,hI⟩:=tK R h1 hp hv N' hN hN2
  exact⟨rfl,_,rfl,hI⟩
theorem lW(R:Rel g X st a w base mb F)(N':Fp)(hN:∀ b o,N' b o→tot F b o):∀ {vs zs xs:List V} {ys:List Value} {ans a':List Ans} {p:Prop} {st':St},(Cn zs vs ans).run st = some ((xs,a',p),st')→p→RepSs w (tot F) base mb st vs ys→
 (∀ v∈vs,∀ r c,kA r c v = true→∀ b o,N' b o→¬F (.cell r c) b o)→st' = st∧Held w N' xs ys Fp.none∧∀ x∈xs,bQ x = true
 |[],zs,xs,ys,ans,a',p,st',h,hp,hv,_=>by
  cases zs with
  |cons=>cases h
  |nil =>
   obtain⟨q,rfl⟩:=af h
   simp only[Prod.mk.injEq]at q
   obtain⟨rfl,_,rfl⟩:=q
   cases ys with
   |nil=>exact⟨rfl,.nil,by simp⟩
   |cons=>simp only[RepSs]at hv
 |v :: vs,zs,xs,ys,ans,a',p,st',h,hp,hv,ht=>by
  cases zs with
  |nil=>cases h
  |cons z zs =>
   cases ys with
   |nil=>simp only[RepSs]at hv
   |cons y ys =>
    simp only[RepSs]at hv
    simp only[Cn]at h
    obtain⟨⟨x,a1,p1⟩,s1,h1,h2⟩:=Cmd.abt h
    obtain⟨⟨xs1,a2,p2⟩,s2,h3,h4⟩:=Cmd.abt h2
    obtain⟨q,rfl⟩:=af h4
    simp only[Prod.mk.injEq]at q
    obtain⟨rfl,_,rfl⟩:=q
    obtain⟨q1,t,rfl,hI⟩:=HB R h1 hp.1 hv.1 N' hN (ht v (by simp))
    have q1:=q1.symm
    subst q1
    obtain⟨q2,hh,hc⟩:=lW R N' hN h3 hp.2 hv.2 (fun v hv=>ht v (by simp[hv]))
    have:=Held.cons (w:=w) (N:=N') (x:=.t t) (y:=y) (F1:=Fp.none) ⟨⟨y,rfl,hI⟩,fun _ _ h=>h⟩ hI.oneCell hh (fun _ _ h=>h.elim)
    rw[Fp.or_none]at this
    refine⟨q2,this,?_⟩
    intro z hz
    rcases List.mem_cons.1 hz with rfl|hz
    ·rfl
    ·exact hc z hz
theorem Jl(R:Rel g X st a w base mb F){ty:Ty}{x v:V}{y:Value}{ans a':List Ans}{p:Prop}(h:(Y0 ty x ans).run st = some ((v,a',p),st'))(hp:p)(hx:RepS w (tot F) base mb st x y)
 (N':Fp) (hN:∀ b o,N' b o→tot F b o) (ht:∀ v∈cellsOf x,∀ r c,kA r c v = true→∀ b o,N' b o→¬F (.cell r c) b o):st' = st∧∃ ys,VR v y ys∧Held w N' (cellsOf v) ys Fp.none:=by
 obtain⟨⟨xs,a1,p1⟩,s1,h1,h2⟩:=Cmd.abt h
 obtain⟨q,rfl⟩:=af h2
 simp only[Prod.mk.injEq]at q
 obtain⟨rfl,_,rfl⟩:=q
 cases x with
 |agg cs =>
  simp only[RepS]at hx
  obtain⟨ys,rfl,hys⟩:=hx
  obtain⟨e1,e2,_⟩:=lW R N' hN h1 hp hys ht
  exact⟨e1,ys,rfl,e2⟩
 |_ =>
  obtain⟨e1,e2,e3⟩:=lW (ys:=[y]) R N' hN h1 hp (by simp only[cellsOf,RepSs];exact⟨hx,trivial⟩) ht
  refine⟨e1,[y],?_⟩
  have hl:=e2.length
  match xs,hl with
  |[c],_ =>
   have hc:=e3 c (by simp)
   simp only[oG]
   refine⟨?_,by rw[ua hc];exact e2⟩
   cases c <;> first|rfl|cases hc
end Go.Tm
namespace Go.Tm
variable {g:G} {X:Fp} {st st':St} {a:Act} {w:World} {base:Nat→Base} {mb:Nat→Nat} {F:Ix→Fp} {N:Fp} {P:Program}
inductive Pre0 (w:World) (N:Fp):List (Option A)→List Value→Fp→Prop where
 |nil:Pre0 w N [] [] Fp.none
 |none {x ys xs F} (t:Pre0 w N ys xs F):Pre0 w N (none :: ys) (x :: xs) F
 |val {v x zs F1 ys xs F2} (h:VR v x zs) (hh:Held w N (cellsOf v) zs F1) (t:Pre0 w N ys xs F2) (hd:Fp.dis F1 F2):Pre0 w N (some (.val v) :: ys) (x :: xs) (Fp.or F1 F2)
 |bor {v x zs F1 ys xs F2} (h:VR v x zs) (hh:Held w N (cellsOf v) zs F1) (t:Pre0 w N ys xs F2) (hd:Fp.dis F1 F2):Pre0 w N (some (.bor v) :: ys) (x :: xs) (Fp.or F1 F2)
theorem Pre0.sub{N N':Fp}(hs:∀ b o,N' b o→N b o){ys:List (Option A)}{xs:List Value}{F:Fp}(h:Pre0 w N ys xs F):Pre0 w N' ys xs F:=by
 induction h with
 |nil=>exact .nil
 |none _ ih=>exact .none ih
 |val h hh _ hd ih=>exact .val h (hh.sub hs) ih hd
 |bor h hh _ hd ih=>exact .bor h (hh.sub hs) ih hd
theorem pm{E:Env}:∀ {ms:List Md} {vs:List V} {ts:List TypeId} {X:Fp} {F:Ix→Fp} {st st':St} {ys:List (Option A)} {xs:List Value} {ans a':List Ans} {p:Prop},Rel g X st a w base mb F→(RS E ms vs ts ans).run st = some ((ys,a',p),st')→p→RepSs w (tot F) base mb st vs xs→
 ∃ F1 F',Rel g (Fp.or X F1) st' a w base mb F'∧Fp.dis (Fp.or g.X0 X) F1∧Pre0 w (tot F') ys xs F1∧(∀ b o,tot F' b o→tot F b o)∧od w (tot F) base mb st w (tot F') base st'∧st'.rn = st.rn
 |[],vs,ts,X,F,st,st',ys,xs,ans,a',p,R,h,hp,hv=>by
  cases vs with
  |cons=>cases h
  |nil=>cases ts with
   |cons=>cases h
   |nil =>
    obtain⟨q,rfl⟩:=af h
    simp only[Prod.mk.injEq]at q
    obtain⟨rfl,_,rfl⟩:=q
    cases xs with
    |cons=>simp only[RepSs]at hv
    |nil=>exact⟨Fp.none,F,by rw[Fp.or_none];exact R,fun _ _ _ h=>h,.nil,fun _ _ h=>h,fun _ _ h=>h,rfl⟩
 |m :: ms,vs,ts,X,F,st,st',ys,xs,ans,a',p,R,h,hp,hv=>by
  cases vs with
  |nil=>cases h
  |cons v vs=>cases ts with
   |nil=>cases h
   |cons t ts=>cases xs with
    |nil=>simp only[RepSs]at hv
    |cons x xs =>
     simp only[RepSs]at hv
     simp only[RS]at h
     obtain⟨⟨y,a1,p1⟩,s1,h1,h2⟩:=Cmd.abt h
     obtain⟨⟨ys1,a2,p2⟩,s2,h3,h4⟩:=Cmd.abt h2
     obtain⟨q,rfl⟩:=af h4
     simp only[Prod.mk.injEq]at q
     obtain⟨rfl,_,rfl⟩:=q
     have moved:∀ {ty:Ty} {z:V} {b:V→A},(Fv ty v ans).run st = some ((z,a1,p1),s1)→(∀ {zs F1 ys xs F2} {N:Fp},VR z x zs→Held w N (cellsOf z) zs F1→Pre0 w N ys xs F2→Fp.dis F1 F2→Pre0 w N (some (b z) :: ys) (x :: xs) (Fp.or F1 F2))→y = some (b z)→
      ∃ F1 F',Rel g (Fp.or X F1) s2 a w base mb F'∧Fp.dis (Fp.or g.X0 X) F1∧Pre0 w (tot F') (y :: ys1) (x :: xs) F1∧(∀ b o,tot F' b o→tot F b o)∧od w (tot F) base mb st w (tot F') base s2∧s2.rn = st.rn:=by
      intro ty z b hz hb hy
      subst hy
      obtain⟨F1,F',zs,e1,e2,e3,e4,e5,e6,e7⟩:=oU R hz hp.1 hv.1
      obtain⟨F2,F'',k1,k2,k3,k4,k5,k6⟩:=pm e1 h3 hp.2 (gO e6 hv.2)
      refine⟨Fp.or F1 F2,F'',by rw[←Fp.or_assoc];exact k1,fun b o h h'=>?_,hb e3 (e4.sub k4) k3 (fun b o h h'=>k2 b o (.inr (.inr h)) h'),fun b o h=>e5 b o (k4 b o h),fun v x h=>k5 v x (e6 v x h),k6.trans e7⟩
      rcases h' with h'|h'
      ·exact e2 b o h h'
      ·exact k2 b o (h.imp id .inl) h'
     have plain:∀ (hh:(Cmd.ret ((none:Option A),ans,True)).run st = some ((y,a1,p1),s1)),
      ∃ F1 F',Rel g (Fp.or X F1) s2 a w base mb F'∧Fp.dis (Fp.or g.X0 X) F1∧Pre0 w (tot F') (y :: ys1) (x :: xs) F1∧(∀ b o,tot F' b o→tot F b o)∧od w (tot F) base mb st w (tot F') base s2∧s2.rn = st.rn:=by
      intro hh
      obtain⟨q1,q2⟩:=af hh
      simp only[Prod.mk.injEq]at q1
      obtain⟨q3,_,_⟩:=q1
      subst q3;subst q2
      obtain⟨F2,F'',k1,k2,k3,k4,k5,k6⟩:=pm R h3 hp.2 hv.2
      exact⟨F2,F'',k1,k2,.none k3,k4,k5,k6⟩
     cases m with
     |mv =>
      simp only[aaA]at h1
      split at h1
      ·obtain⟨⟨z,a3,p3⟩,s3,h5,h6⟩:=Cmd.abt h1
       obtain⟨q1,q2⟩:=af h6
       simp only[Prod.mk.injEq]at q1
       obtain⟨q3,q4,q5⟩:=q1
       subst q2;subst q4;subst q5
       exact moved (b:=A.val) h5 (fun a b c d=>.val a b c d) q3.symm
      ·cases h1
     |b =>
      simp only[aaA]at h1
      split at h1
      ·obtain⟨⟨z,a3,p3⟩,s3,h5,h6⟩:=Cmd.abt h1
       obtain⟨q1,q2⟩:=af h6
       simp only[Prod.mk.injEq]at q1
       obtain⟨q3,q4,q5⟩:=q1
       subst q2;subst q4;subst q5
       exact moved (b:=A.bor) h5 (fun a b c d=>.bor a b c d) q3.symm
      ·cases h1
     |v=>exact plain h1
     |p=>exact plain h1
     |r j=>exact plain h1
end Go.Tm
namespace Go.Tm
variable {g:G} {X:Fp} {st st':St} {a:Act} {w:World} {base:Nat→Base} {mb:Nat→Nat} {F:Ix→Fp} {N:Fp} {P:Program}
theorem CellsAt.of(R:Rel g X st a w base mb F){r b o0:Nat}(hb:base r = .mem b o0){o:Nat}{zs:List Value}(hin:∀ j,j < zs.length→InR st r (o+j))(hc:∀ j y,zs[j]? = some y→hd w base r (o+j) = some y):CellsAt w b (o0+o) zs:=by
 intro j y hj
 have h1:=hc j y hj
 simp only[hd,hb]at h1
 have h2:=aa4 R hb (hin j (List.getElem?_eq_some_iff.1 hj).1)
 rw[Nat.add_assoc]
 exact⟨h1,h2.2⟩
theorem eG{r:Nat}:∀ {n o:Nat} {X:Fp} {F:Ix→Fp} {st st':St} {cs:List V},Rel g X st a w base mb F→(takeCells r o n).run st = some (cs,st')→(∀ j,j < n→InR st r (o+j))→
 ∃ F1 F' zs,Rel g (Fp.or X F1) st' a w base mb F'∧Fp.dis (Fp.or g.X0 X) F1∧Held w (tot F') cs zs F1∧(∀ j y,zs[j]? = some y→hd w base r (o+j) = some y)∧cs.length = n∧(∀ b o,tot F' b o→tot F b o)∧od w (tot F) base mb st w (tot F') base st'∧st'.rn = st.rn
 |0,o,X,F,st,st',cs,R,h,_=>by
  obtain⟨rfl,rfl⟩:=af h
  exact⟨Fp.none,F,[],by rw[Fp.or_none];exact R,fun _ _ _ h=>h,.nil,by simp,rfl,fun _ _ h=>h,fun _ _ h=>h,rfl⟩
 |n+1,o,X,F,st,st',cs,R,h,hin=>by
  simp only[takeCells,Cmd.run]at h
  have hin':∀ j,j < n→InR st r (o+1+j):=fun j hj=>by have:=hin (j+1) (by omega);rwa [show o+ (j+1) = o+1+j by omega]at this
  have idx:∀ {y:Value} {zs:List Value},hd w base r o = some y→(∀ j z,zs[j]? = some z→hd w base r (o+1+j) = some z)→∀ j z,(y :: zs)[j]? = some z→hd w base r (o+j) = some z:=by
   intro y zs h1 h2 j z hj
   cases j with
   |zero=>simp at hj;subst hj;exact h1
   |succ j=>have:=h2 j z (by simpa using hj);rwa [show o+1+j = o+ (j+1) by omega]at this
  split at h
  ·rename_i k xs he
   simp only[Cmd.run]at h
   obtain⟨cs1,s1,h1,h2⟩:=Cmd.abt h
   obtain⟨q1,q2⟩:=af h2
   subst q1;subst q2
   obtain⟨y,hy,ho⟩:=dH R he
   have hdx:Fp.dis (Fp.or g.X0 X) (F (.cell r o)):=fun b q h h'=>R.dis .x _ (by simp) b q (by rw[R.fx];exact h) h'
   have R':=R.ghost he .undef (F (.cell _ _)) Fp.none (fun _ _ h=>h) (fun _ _ h=>h.elim) (fun _ _ _ h=>h) (.inl ⟨rfl,rfl⟩)
   obtain⟨k1,k2⟩:=R.aby he .undef (F (.cell _ _)) Fp.none (fun _ _ h=>h) (fun _ _ h=>h.elim) (.inl rfl)
   obtain⟨F2,F'',zs,e1,e2,e3,e4,e5,e6,e7,e8⟩:=eG R' h1 hin'
   refine⟨Fp.or (F (.cell r o)) F2,F'',y :: zs,by rw[←Fp.or_assoc];exact e1,fun b q h h'=>?_,.cons ⟨y,rfl,ho⟩ ho.oneCell e3 (fun b q h h'=>e2 b q (.inr (.inr h)) h'),idx hy e4,by simp[e5],fun b q h=>k1 b q (e6 b q h),fun v x h=>e7 v x (k2 v x h),e8⟩
   rcases h' with h'|h'
   ·exact hdx b q h h'
   ·exact e2 b q (h.imp id .inl) h'
  ·rename_i x he
   obtain⟨cs1,s1,h1,h2⟩:=Cmd.abt h
   obtain⟨q1,q2⟩:=af h2
   subst q1;subst q2
   have hc:=R.cell r o
   rw[he]at hc
   obtain⟨⟨y,hy,hI⟩,hF⟩:=hc
   obtain⟨F2,F'',zs,e1,e2,e3,e4,e5,e6,e7,e8⟩:=eG R h1 hin'
   have:=Held.cons (w:=w) (N:=tot F'') (x:=.t x) (y:=y) (F1:=Fp.none) ⟨⟨y,rfl,hI.less e6⟩,fun _ _ h=>h⟩ hI.oneCell e3 (fun _ _ h=>h.elim)
   rw[Fp.none_or]at this
   exact⟨F2,F'',y :: zs,e1,e2,this,idx hy e4,by simp[e5],e6,e7,e8⟩
  ·cases h
theorem nX:∀ {k:List Bool} {x:List T},bT k x = true→bT k (oE x) = true
 |[],[],_=>rfl
 |false :: k,.v _ :: x,h=>by simp only[bT]at h;simp only[oE,bT];exact nX h
 |true :: k,.slc _ _ :: x,h=>by simp only[bT]at h;simp only[oE,bT];exact nX h
 |true :: k,.hole :: x,h=>by simp only[bT]at h;simp only[oE,bT];exact nX h
 |[],_ :: _,h=>by simp[bT]at h
 |false :: _,[],h=>by simp[bT]at h
 |true :: _,[],h=>by simp[bT]at h
 |false :: _,.slc _ _ :: _,h=>by simp[bT]at h
 |false :: _,.hole :: _,h=>by simp[bT]at h
 |true :: _,.v _ :: _,h=>by simp[bT]at h
theorem qb:∀ {cs:List T} {b o:Nat} {G:Fp},RepO w (.cells cs b o) G→RepO w (.cells (oE cs) b o) Fp.none
 |[],b,o,_,_=>.nil
 |.v x :: cs,b,o,_,.cons (y:=y) hy h t hd=>by
  have:=RepO.cons hy (F:=Fp.none) (c:=.v x) (by cases h with|v h=>exact .v h) (qb t) (fun _ _ h=>h.elim)
  rwa [Fp.or_none]at this
 |.slc _ _ :: cs,b,o,_,.cons (y:=y) hy h t hd=>by
  have:=RepO.cons hy (F:=Fp.none) (c:=.hole) (.hole h.oneCell) (qb t) (fun _ _ h=>h.elim)
  rwa [Fp.or_none]at this
 |.hole :: cs,b,o,_,.cons (y:=y) hy h t hd=>by
  have:=RepO.cons hy (F:=Fp.none) (c:=.hole) (.hole h.oneCell) (qb t) (fun _ _ h=>h.elim)
  rwa [Fp.or_none]at this
theorem Gg{N':Fp}:∀ {ts:List T} {zs:List Value} {G:Fp},HeldT w ts zs G→Held w N' (ts.map WB) zs G
 |[],_,_,.nil=>.nil
 |t :: ts,_,_,.cons (y:=y) h r hd=>by
  refine .cons ?_ h.oneCell (Gg r) hd
  cases t with
  |v x=>cases h with|v h=>exact⟨⟨_,rfl,.v h⟩,fun _ _ h=>h⟩
  |slc k xs=>exact⟨_,rfl,h⟩
  |hole=>cases h with|hole h=>exact fun _ _ h=>h
theorem Ke(R:Rel g X st a w base mb F){ety:Ty}{v:V}{y:A}{x:Value}{ans a':List Ans}{p:Prop}(h:(WL ety v ans).run st = some ((y,a',p),st'))(hp:p)(hx:RepS w (tot F) base mb st v x) :
 ∃ F1 F' cs b o zs,y = .ptr cs∧x = .pointer (some ⟨b,o,none⟩)∧Rel g (Fp.or X F1) st' a w base mb F'∧Fp.dis (Fp.or g.X0 X) F1∧Held w (tot F') cs zs F1∧CellsAt w b o zs∧(∀ b o,tot F' b o→tot F b o)∧od w (tot F) base mb st w (tot F') base st'∧st'.rn = st.rn∧
  ((∃ r,∀ p q,region b o cs.length p q→F' (.hdr r) p q)∨∃ r c i s o',v = .ptr ⟨r,some (c,i,s),o'⟩∧∀ p q,region b o cs.length p q→F' (.cell r c) p q):=by
 unfold WL at h
 split at h
 ·rename_i r o
  simp only[RepS]at hx
  obtain⟨b,q,⟨o0,hb,rfl⟩,rfl⟩:=hx
  obtain⟨_,s1,h1,h2⟩:=Cmd.abt h
  obtain⟨rfl,hin0⟩:=oi h1
  obtain⟨cs,s2,h3,h4⟩:=Cmd.abt h2
  obtain⟨q1,rfl⟩:=af h4
  simp only[Prod.mk.injEq]at q1
  obtain⟨rfl,_,rfl⟩:=q1
  have hin:∀ j,j < ety.size→InR s1 r (o+j):=fun j hj=>hin0 _ (by omega)
  obtain⟨F1,F',zs,e1,e2,e3,e4,e5,e6,e7,e8⟩:=eG R h3 hin
  have hl:=e3.length
  have hin':∀ j,j < ety.size→InR s2 r (o+j):=fun j hj=>by
   obtain⟨n,i1,i2⟩:=hin j hj
   exact⟨n,by rw[e8];exact i1,i2⟩
  refine⟨F1,F',cs,b,o0+o,zs,rfl,rfl,e1,e2,e3,.of e1 hb (fun j hj=>hin' j (by omega)) e4,e6,e7,e8,.inl ⟨r,fun p q hpq=>?_⟩⟩
  have:=e1.hdrAt (hin' (q - (o0+o)) (by have:=hpq.2;omega)) hb
  rw[show o0+ (o+ (q - (o0+o))) = q by have:=hpq.2.1;omega,←hpq.1]at this
  exact this
 ·rename_i r c i s o
  split at h
  ·rename_i el a0
   obtain⟨kx,s1,h1,h2⟩:=Cmd.abt h
   obtain⟨rfl,he⟩:=eY h1
   obtain⟨_,s2,h3,h4⟩:=Cmd.abt h2
   obtain⟨hn,rfl⟩:=bm h3
   simp only[Cmd.run]at h4
   injection h4 with h4;injection h4 with h4 h5
   simp only[Prod.mk.injEq]at h4
   obtain⟨h6,_,h7⟩:=h4
   subst h6;subst h7;subst h5
   obtain⟨hn1,hn2⟩:=Bool.and_eq_true_iff.1 hn
   obtain⟨hn1,hn3⟩:=Bool.and_eq_true_iff.1 hn1
   obtain rfl:=Nat.eq_of_beq_eq_true hn1
   obtain rfl:=Nat.eq_of_beq_eq_true hn2
   simp only[RepS]at hx
   obtain⟨b,q,⟨hin,o',len,cap',hh,rfl⟩,rfl⟩:=hx
   obtain⟨yv,hy,ho⟩:=dH R he
   obtain⟨A,cap,b',off,G0,rfl,hle,hA,hF,hE,hd0,hw⟩:=bP ho
   obtain⟨Fe,Fr,g1,g2,rfl,g4,g5⟩:=RepO.getElem hE hp
   have hkl:=bz g4
   have hi:i < kx.2.length:=(List.getElem?_eq_some_iff.1 hp).1
   rw[hy]at hh
   injection hh with hh;injection hh with hh _ _
   have hsub:∀ p q,region b (o'+i * kx.1.length) el.length p q→region b' off (cap * kx.1.length) p q:=fun p q hpq=>by
    have hlen:el.length = 0∨0 < el.length:=Nat.eq_zero_or_pos _
    rcases hlen with h0|h0
    ·have:=hpq.2;omega
    ·rw[hA (Nat.mul_pos (by omega) (by omega))]at hh
     injection hh with hh;injection hh with e1 e2
     subst e1;subst e2
     have:=Nat.mul_le_mul_right kx.1.length (show i+1≤cap by omega)
     rw[Nat.add_mul]at this
     exact⟨hpq.1,by have:=hpq.2.1;omega,by have:=hpq.2.2;omega⟩
   have hdx:Fp.dis (Fp.or g.X0 X) Fe:=fun p q h h'=>R.dis .x (.cell r c) (by simp) p q (by rw[R.fx];exact h) (by rw[hF];exact .inr (.inl h'))
   have hst:=g5 w (oE el) Fp.none (nX g4) (qb g1) (fun _ _ h=>h.elim) (fun _ _ _=>Same.refl _ _ _)
   rw[Fp.none_or]at hst
   have hO:RepO w (.tv (.slc kx.1 (kx.2.set i (oE el))) (.slice A kx.2.length cap)) (Fp.or (region b' off (cap * kx.1.length)) Fr):=by
    have:=RepO.slc (w:=w) (k:=kx.1) (xs:=kx.2.set i (oE el)) (A:=A) (cap:=cap) hA (by simpa using hle) hw hst (fun p q h h'=>hd0 p q h (.inr h'))
    rwa [List.length_set]at this
   have R':=R.ghost he (.own kx.1 (kx.2.set i (oE el))) Fe (Fp.or (region b' off (cap * kx.1.length)) Fr) (fun p q h=>by rw[hF];exact .inr (.inl h)) (fun p q h=>by rw[hF];exact h.imp id .inr) (fun p q h h'=>h'.elim (fun h'=>hd0 p q h' (.inl h)) (fun h'=>g2 p q h h'))
    (.inr ⟨_,rfl,by simp,_,hy,hO⟩)
   obtain⟨k1,k2⟩:=R.aby he (.own kx.1 (kx.2.set i (oE el))) Fe (Fp.or (region b' off (cap * kx.1.length)) Fr) (fun p q h=>by rw[hF];exact .inr (.inl h)) (fun p q h=>by rw[hF];exact h.imp id .inr) (.inr ⟨_,rfl,by simp⟩)
   obtain⟨zs,z1,z2⟩:=xd g1
   have hzl:=z1.length
   refine⟨Fe,_,el.map WB,b,o'+i * kx.1.length,zs,rfl,by rw[Nat.add_zero],R',hdx,Gg z1,fun j yj hj=>?_,k1,k2,rfl,.inr ⟨r,c,i,kx.1.length,0,rfl,fun p q hpq=>?_⟩⟩
   ·have hjl:=(List.getElem?_eq_some_iff.1 hj).1
    rw[hA (Nat.mul_pos (by omega) (by omega))]at hh
    injection hh with hh;injection hh with e1 e2
    subst e1;subst e2
    refine⟨z2 j yj hj,?_⟩
    have:=Nat.mul_le_mul_right kx.1.length (show i+1≤cap by omega)
    rw[Nat.add_mul]at this
    have:=(hw (i * kx.1.length+j) (by omega)).2
    rwa [←Nat.add_assoc]at this
   ·rw[az _ _ (by simp),aD]
    rw[List.length_map]at hpq
    exact .inl (hsub p q hpq)
  ·cases h
 ·cases h
end Go.Tm
namespace Go.Tm
variable {g:G} {X:Fp} {st st':St} {a:Act} {w:World} {base:Nat→Base} {mb:Nat→Nat} {F:Ix→Fp} {N:Fp} {P:Program}
inductive Pre (w:World) (N:Fp):List (Option A)→List Value→Fp→Fp→Prop where
 |nil:Pre w N [] [] Fp.none Fp.none
 |none {x ys xs F W} (t:Pre w N ys xs F W):Pre w N (none :: ys) (x :: xs) F W
 |val {v x zs F1 ys xs F2 W} (h:VR v x zs) (hh:Held w N (cellsOf v) zs F1) (t:Pre w N ys xs F2 W) (hd:Fp.dis F1 F2):Pre w N (some (.val v) :: ys) (x :: xs) (Fp.or F1 F2) W
 |bor {v x zs F1 ys xs F2 W} (h:VR v x zs) (hh:Held w N (cellsOf v) zs F1) (t:Pre w N ys xs F2 W) (hd:Fp.dis F1 F2):Pre w N (some (.bor v) :: ys) (x :: xs) (Fp.or F1 F2) W
 |ptr {cs b o zs F1 ys xs F2} (hh:Held w N cs zs F1) (hc:CellsAt w b o zs) (t:Pre w N ys xs F2 Fp.none) (hd:Fp.dis F1 F2) :
  Pre w N (some (.ptr cs) :: ys) (.pointer (some ⟨b,o,none⟩) :: xs) (Fp.or F1 F2) (region b o cs.length)
theorem Pre.sub{N N':Fp}(hs:∀ b o,N' b o→N b o){ys:List (Option A)}{xs:List Value}{F W:Fp}(h:Pre w N ys xs F W):Pre w N' ys xs F W:=by
 induction h with
 |nil=>exact .nil
 |none _ ih=>exact .none ih
 |val h hh _ hd ih=>exact .val h (hh.sub hs) ih hd
 |bor h hh _ hd ih=>exact .bor h (hh.sub hs) ih hd
 |ptr hh hc _ hd ih=>exact .ptr (hh.sub hs) hc ih hd
theorem Pre0.toPre{ys:List (Option A)}{xs:List Value}{F:Fp}(h:Pre0 w N ys xs F):Pre w N ys xs F Fp.none:=by
 induction h with
 |nil=>exact .nil
 |none _ ih=>exact .none ih
 |val h hh _ hd ih=>exact .val h hh ih hd
 |bor h hh _ hd ih=>exact .bor h hh ih hd
def WOk(F:Ix→Fp)(ms:List Md)(vs:List V)(W:Fp):Prop :=
 (∀ b o,¬W b o)∨(∃ r,∀ b o,W b o→F (.hdr r) b o)∨∃ r c,DZ ms vs = some (r,c)∧∀ b o,W b o→F (.cell r c) b o
theorem sV{E:Env}:∀ {ms:List Md} {vs:List V} {ts:List TypeId} {X F1:Fp} {F:Ix→Fp} {st st':St} {ys ys':List (Option A)} {xs:List Value} {ans a':List Ans} {p:Prop},Rel g (Fp.or X F1) st a w base mb F→Fp.dis (Fp.or g.X0 X) F1→
 (Ww E ms vs ts ys ans).run st = some ((ys',a',p),st')→p→Pre0 w (tot F) ys xs F1→RepSs w (tot F) base mb st vs xs→Y4 ms = true→
 ∃ F1' W F',Rel g (Fp.or X F1') st' a w base mb F'∧Fp.dis (Fp.or g.X0 X) F1'∧Pre w (tot F') ys' xs F1' W∧(∀ b o,tot F' b o→tot F b o)∧od w (tot F) base mb st w (tot F') base st'∧st'.rn = st.rn∧WOk F' ms vs W
 |[],vs,ts,X,F1,F,st,st',ys,ys',xs,ans,a',p,R,hX,h,hp,hpre,hv,ho=>by
  simp only[Ww]at h
  obtain⟨q,rfl⟩:=af h
  simp only[Prod.mk.injEq]at q
  obtain⟨rfl,_,rfl⟩:=q
  exact⟨F1,Fp.none,F,R,hX,hpre.toPre,fun _ _ h=>h,fun _ _ h=>h,rfl,.inl fun _ _ h=>h⟩
 |m :: ms,vs,ts,X,F1,F,st,st',ys,ys',xs,ans,a',p,R,hX,h,hp,hpre,hv,ho=>by
  have step:∀ {v:V} {vs1:List V} {t:TypeId} {ts1:List TypeId} {y:Option A} {ys1:List (Option A)},vs = v :: vs1→ts = t :: ts1→ys = y :: ys1→
   ((Ww E ms vs1 ts1 ys1 ans).bind fun(ys,a,p)=>Cmd.ret (y :: ys,a,p)).run st = some ((ys',a',p),st')→Y4 ms = true→DZ (m :: ms) vs = DZ ms vs1→
   ∃ F1' W F',Rel g (Fp.or X F1') st' a w base mb F'∧Fp.dis (Fp.or g.X0 X) F1'∧Pre w (tot F') ys' xs F1' W∧(∀ b o,tot F' b o→tot F b o)∧od w (tot F) base mb st w (tot F') base st'∧st'.rn = st.rn∧WOk F' (m :: ms) vs W:=by
   intro v vs1 t ts1 y ys1 e1 e2 e3 hh hoo hlent
   subst e1;subst e2;subst e3
   obtain⟨⟨ys2,a2,p2⟩,s2,h1,h2⟩:=Cmd.abt hh
   obtain⟨q,rfl⟩:=af h2
   simp only[Prod.mk.injEq]at q
   obtain⟨rfl,_,rfl⟩:=q
   cases xs with
   |nil=>simp only[RepSs]at hv
   |cons x xs =>
    simp only[RepSs]at hv
    have head:∀ {Fa Fb:Fp} (b:A),y = some b→F1 = Fp.or Fa Fb→Pre0 w (tot F) ys1 xs Fb→Fp.dis Fa Fb→(∀ {F':Ix→Fp} {Fb' W:Fp},(∀ b o,tot F' b o→tot F b o)→Pre w (tot F') ys2 xs Fb' W→Fp.dis Fa Fb'→Pre w (tot F') (some b :: ys2) (x :: xs) (Fp.or Fa Fb') W)→
     ∃ F1' W F',Rel g (Fp.or X F1') s2 a w base mb F'∧Fp.dis (Fp.or g.X0 X) F1'∧Pre w (tot F') (y :: ys2) (x :: xs) F1' W∧(∀ b o,tot F' b o→tot F b o)∧od w (tot F) base mb st w (tot F') base s2∧s2.rn = st.rn∧WOk F' (m :: ms) (v :: vs1) W:=by
     intro Fa Fb b hy hF1 hpre' hdab hmk
     subst hy;subst hF1
     rw[←Fp.or_assoc]at R
     obtain⟨Fb',W,F',k1,k2,k3,k4,k5,k6,k7⟩:=sV R (fun b o h h'=>by
      rcases h with h|h|h
      ·exact hX b o (.inl h) (.inr h')
      ·exact hX b o (.inr h) (.inr h')
      ·exact hdab b o h h') h1 hp hpre' hv.2 hoo
     refine⟨Fp.or Fa Fb',W,F',by rw[←Fp.or_assoc];exact k1,fun b o h h'=>?_,hmk k4 k3 (fun b o h h'=>k2 b o (.inr (.inr h)) h'),k4,k5,k6,?_⟩
     ·rcases h' with h'|h'
      ·exact hX b o h (.inl h')
      ·exact k2 b o (h.imp id .inl) h'
     ·unfold WOk at k7 ⊢;rw[hlent];exact k7
    cases hpre with
    |none t =>
     obtain⟨F1',W,F',k1,k2,k3,k4,k5,k6,k7⟩:=sV R hX h1 hp t hv.2 hoo
     exact⟨F1',W,F',k1,k2,.none k3,k4,k5,k6,by unfold WOk at k7 ⊢;rw[hlent];exact k7⟩
    |val h2 hh2 t hd2=>exact head _ rfl rfl t hd2 fun hs hp' hd'=>.val h2 (hh2.sub hs) hp' hd'
    |bor h2 hh2 t hd2=>exact head _ rfl rfl t hd2 fun hs hp' hd'=>.bor h2 (hh2.sub hs) hp' hd'
  cases vs with
  |nil=>cases m <;> cases h
  |cons v vs=>cases ts with
   |nil=>cases m <;> cases h
   |cons t ts=>cases ys with
    |nil=>cases m <;> cases h
    |cons y ys =>
     cases m with
     |v=>exact step rfl rfl rfl h ho rfl
     |mv=>exact step rfl rfl rfl h ho rfl
     |b=>exact step rfl rfl rfl h ho rfl
     |r j=>exact step rfl rfl rfl h ho rfl
     |p =>
      cases y with
      |some y=>cases h
      |none =>
       cases hpre with
       |none ht =>
        simp only[RepSs]at hv
        simp only[Ww]at h
        split at h
        ·obtain⟨⟨y,a2,p2⟩,s2,h1,h2⟩:=Cmd.abt h
         obtain⟨q,rfl⟩:=af h2
         simp only[Prod.mk.injEq]at q
         obtain⟨rfl,_,rfl⟩:=q
         obtain⟨F2,F',cs,b,o,zs,rfl,rfl,e1,e2,e3,e4,e5,e6,e7,e8⟩:=Ke R h1 hp hv.1
         rw[Fp.or_assoc,Fp.or_comm F1]at e1
         refine⟨Fp.or F2 F1,region b o cs.length,F',e1,fun b o h h'=>?_,.ptr e3 e4 (ht.sub e5).toPre (fun b o h h'=>e2 b o (.inr (.inr h')) h),e5,e6,e7,?_⟩
         ·rcases h' with h'|h'
          ·exact e2 b o (h.imp id .inl) h'
          ·exact hX b o h h'
         ·rcases e8 with⟨r,h9⟩|⟨r,c,i,s,o',rfl,h9⟩
          ·exact .inr (.inl ⟨r,h9⟩)
          ·exact .inr (.inr ⟨r,c,rfl,h9⟩)
        ·cases h
theorem GG{E:Env}{all:List V}{ys0:List (Option A)}{m:Md}{y:A}{x:V}{t:TypeId}{ans a':List Ans}{z:A}{p:Prop}(h:(Wx E all ys0 m (some y) x t ans).run st = some ((z,a',p),st')):z = y:=by
 simp only[Wx]at h
 obtain⟨q,_⟩:=af h
 simp only[Prod.mk.injEq]at q
 exact q.1.symm
theorem Cs{E:Env}{all:List V}{ys0:List (Option A)}:∀ {ms:List Md} {ys:List (Option A)} {vs:List V} {ts:List TypeId} {ans a':List Ans} {as:List A} {p:Prop} {st st':St},(I0 E all ys0 ms ys vs ts ans).run st = some ((as,a',p),st')→∀ (j:Nat) (y:A),ys[j]? = some (some y)→as[j]? = some y
 |[],ys,vs,ts,ans,a',as,p,st,st',h,j,y,hj=>by
  cases ys with
  |nil=>simp at hj
  |cons=>cases h
 |m :: ms,[],vs,ts,ans,a',as,p,st,st',h,j,y,hj=>by cases h
 |m :: ms,y0 :: ys,[],ts,ans,a',as,p,st,st',h,j,y,hj=>by cases h
 |m :: ms,y0 :: ys,v :: vs,[],ans,a',as,p,st,st',h,j,y,hj=>by cases h
 |m :: ms,y0 :: ys,v :: vs,t :: ts,ans,a',as,p,st,st',h,j,y,hj=>by
  simp only[I0]at h
  obtain⟨⟨z,a1,p1⟩,s1,h1,h2⟩:=Cmd.abt h
  obtain⟨⟨zs,a2,p2⟩,s2,h3,h4⟩:=Cmd.abt h2
  obtain⟨q,_⟩:=af h4
  simp only[Prod.mk.injEq]at q
  obtain⟨rfl,_,_⟩:=q
  cases j with
  |zero =>
   simp at hj
   subst hj
   simp[GG h1]
  |succ j=>simpa using Cs h3 j y (by simpa using hj)
def Cw(F:Ix→Fp)(N:Fp):List Md→List V→Prop
 |.v :: ms,v :: vs=>(∀ c∈cellsOf v,∀ r k,kA r k c = true→∀ b o,N b o→¬F (.cell r k) b o)∧Cw F N ms vs
 |_ :: ms,_ :: vs=>Cw F N ms vs
 |_,_=>True
theorem fO(R:Rel g X st a w base mb F)(hN:∀ b o,N b o→tot F b o){E:Env}{all:List V}{ys0:List (Option A)}{as0:List A}{xs0:List Value}(hall:RepSs w (tot F) base mb st all xs0)(has:∀ (j:Nat) (y:A),ys0[j]? = some (some y)→as0[j]? = some y) :
 ∀ {ms:List Md} {ys:List (Option A)} {vs:List V} {ts:List TypeId} {xs:List Value} {F1 W:Fp} {ans a':List Ans} {as:List A} {p:Prop} {st':St},(I0 E all ys0 ms ys vs ts ans).run st = some ((as,a',p),st')→p→Pre w (tot F) ys xs F1 W→RepSs w (tot F) base mb st vs xs→Cw F N ms vs→
  st' = st∧ArgsR w N as0 xs0 as xs F1 W
 |[],ys,vs,ts,xs,F1,W,ans,a',as,p,st',h,hp,hpre,hv,hr=>by
  cases ys with
  |cons=>cases h
  |nil =>
   cases vs with
   |cons=>cases h
   |nil =>
    cases ts with
    |cons=>cases h
    |nil =>
     obtain⟨q,rfl⟩:=af h
     simp only[Prod.mk.injEq]at q
     obtain⟨rfl,_,rfl⟩:=q
     cases hpre
     exact⟨rfl,.nil⟩
 |m :: ms,[],vs,ts,xs,F1,W,ans,a',as,p,st',h,hp,hpre,hv,hr=>by cases h
 |m :: ms,y0 :: ys,[],ts,xs,F1,W,ans,a',as,p,st',h,hp,hpre,hv,hr=>by cases h
 |m :: ms,y0 :: ys,v :: vs,[],xs,F1,W,ans,a',as,p,st',h,hp,hpre,hv,hr=>by cases h
 |m :: ms,y0 :: ys,v :: vs,t :: ts,xs,F1,W,ans,a',as,p,st',h,hp,hpre,hv,hr=>by
  simp only[I0]at h
  obtain⟨⟨z,a1,p1⟩,s1,h1,h2⟩:=Cmd.abt h
  obtain⟨⟨zs,a2,p2⟩,s2,h3,h4⟩:=Cmd.abt h2
  obtain⟨q,q2⟩:=af h4
  simp only[Prod.mk.injEq]at q
  obtain⟨rfl,_,rfl⟩:=q
  subst q2
  cases xs with
  |nil=>simp only[RepSs]at hv
  |cons x xs =>
   simp only[RepSs]at hv
   have hr':Cw F N ms vs:=by cases m <;> first|exact hr.2|exact hr
   have same:∀ {y:A},y0 = some y→s1 = st∧z = y:=by
    intro y hy
    subst hy
    have:=GG h1
    simp only[Wx]at h1
    exact⟨(af h1).2.symm,this⟩
   cases hpre with
   |val e1 e2 e3 e4 =>
    obtain⟨q1,rfl⟩:=same rfl
    rw[q1]at h3
    obtain⟨k1,k2⟩:=fO R hN hall has h3 hp.2 e3 hv.2 hr'
    exact⟨k1,.val e1 (e2.sub hN) k2 e4⟩
   |bor e1 e2 e3 e4 =>
    obtain⟨q1,rfl⟩:=same rfl
    rw[q1]at h3
    obtain⟨k1,k2⟩:=fO R hN hall has h3 hp.2 e3 hv.2 hr'
    exact⟨k1,.bor e1 (e2.sub hN) k2 e4⟩
   |ptr e1 e2 e3 e4 =>
    obtain⟨q1,rfl⟩:=same rfl
    rw[q1]at h3
    obtain⟨k1,k2⟩:=fO R hN hall has h3 hp.2 e3 hv.2 hr'
    exact⟨k1,.ptr (e1.sub hN) e2 k2 e4⟩
   |none e3 =>
    cases m with
    |v =>
     simp only[Wx]at h1
     split at h1
     ·obtain⟨⟨z1,a3,p3⟩,s3,h5,h6⟩:=Cmd.abt h1
      obtain⟨q3,q4⟩:=af h6
      simp only[Prod.mk.injEq]at q3
      obtain⟨q5,q6,q7⟩:=q3
      subst q5;subst q7
      obtain⟨q8,zs1,k3,k4⟩:=Jl R h5 hp.1 hv.1 N hN hr.1
      rw[←q4,q8]at h3
      obtain⟨k1,k2⟩:=fO R hN hall has h3 hp.2 e3 hv.2 hr'
      have:=ArgsR.val k3 k4 k2 (fun _ _ h=>h.elim)
      rw[Fp.none_or]at this
      exact⟨k1,this⟩
     ·cases h1
    |r j =>
     simp only[Wx]at h1
     split at h1
     ·rename_i r c i s o r' o' cs hall1 hys1
      obtain⟨_,s3,h5,h6⟩:=Cmd.abt h1
      obtain⟨hn,q9⟩:=bm h5
      obtain⟨q3,q4⟩:=af h6
      simp only[Prod.mk.injEq]at q3
      obtain⟨q5,q6,q7⟩:=q3
      subst q5
      rw[←q4,q9]at h3
      obtain⟨k1,k2⟩:=fO R hN hall has h3 hp.2 e3 hv.2 hr'
      obtain⟨hn1,hn2⟩:=Bool.and_eq_true_iff.1 hn
      obtain⟨hn1,hn3⟩:=Bool.and_eq_true_iff.1 hn1
      obtain rfl:=Nat.eq_of_beq_eq_true hn1
      have hn3:=Nat.le_of_ble_eq_true hn3
      have hn2:=Nat.le_of_ble_eq_true hn2
      obtain⟨xj,hxj,hrj⟩:=jm hall hall1
      simp only[RepS]at hrj
      obtain⟨bj,qj,⟨oj,hbj,rfl⟩,rfl⟩:=hrj
      have hv1:=hv.1
      simp only[RepS]at hv1
      obtain⟨b,q,⟨hin,q0,len,cap,hh,rfl⟩,rfl⟩:=hv1
      refine⟨k1,.rel (has _ _ hys1) hxj ⟨by omega,b,q0,len,cap,?_,rfl⟩ k2⟩
      simp only[hd,hbj]at hh
      rw[show oj+o'+ (c - o') = oj+c by omega]
      exact hh
     ·rename_i r o r' o' cs hall1 hys1
      obtain⟨_,s3,h5,h6⟩:=Cmd.abt h1
      obtain⟨hn,q9⟩:=bm h5
      obtain⟨q3,q4⟩:=af h6
      simp only[Prod.mk.injEq]at q3
      obtain⟨q5,q6,q7⟩:=q3
      subst q5
      rw[←q4,q9]at h3
      obtain⟨k1,k2⟩:=fO R hN hall has h3 hp.2 e3 hv.2 hr'
      obtain⟨hn1,hn3⟩:=Bool.and_eq_true_iff.1 hn
      obtain rfl:=Nat.eq_of_beq_eq_true hn1
      have hn3:=Nat.le_of_ble_eq_true hn3
      obtain⟨xj,hxj,hrj⟩:=jm hall hall1
      simp only[RepS]at hrj
      obtain⟨bj,qj,⟨oj,hbj,rfl⟩,rfl⟩:=hrj
      have hv1:=hv.1
      simp only[RepS]at hv1
      obtain⟨b,q,⟨q0,hh,rfl⟩,rfl⟩:=hv1
      rw[hbj]at hh
      injection hh with hh1 hh2
      subst hh1;subst hh2
      refine⟨k1,.rel (has _ _ hys1) hxj ?_ k2⟩
      simp only[I3]
      rw[show oj+o'+ (o - o') = oj+o by omega]
     ·cases h1
    |mv=>cases h1
    |b=>cases h1
    |p=>cases h1
end Go.Tm
namespace Go.Tm
variable {g:G} {X:Fp} {st st':St} {a:Act} {w:World} {base:Nat→Base} {mb:Nat→Nat} {F:Ix→Fp} {N:Fp} {P:Program}
theorem Held.abG{x:V}{xs:List V}{ys:List Value}{G:Fp}(h:Held w N (x :: xs) ys G):∃ y ys' F1 F2,ys = y :: ys'∧CellOk w N (some y) x F1∧y.oneCell' = true∧Held w N xs ys' F2∧Fp.dis F1 F2∧G = Fp.or F1 F2:=by
 cases h with
 |cons h h1 t hd=>exact⟨_,_,_,_,rfl,h,h1,t,hd,rfl⟩
theorem Fp.swap(X F1 F2:Fp):Fp.or X (Fp.or F1 F2) = Fp.or (Fp.or X F2) F1:=by rw[Fp.or_assoc,Fp.or_comm F2 F1]
theorem Fp.abF{X0 X F1 F2:Fp}(hX:Fp.dis (Fp.or X0 X) (Fp.or F1 F2))(hd:Fp.dis F1 F2):Fp.dis (Fp.or X0 (Fp.or X F2)) F1:=fun b o h1 h2=>by
 rcases h1 with h1|h1|h1
 ·exact hX b o (.inl h1) (.inl h2)
 ·exact hX b o (.inr h1) (.inl h2)
 ·exact hd b o h2 h1
theorem Qd{k:Kl}{v:V}{x:Value}(h:RepS w N base mb st v x):RepS w N base mb ((Wr.kl k).ap st) v x :=
 RepS.rc (st:=st) v x rfl (fun r c k xs h=>⟨xs,h,rfl⟩) h
theorem GU{r c:Nat}{x:V}{v:V}{y:Value}(ho:H5 r c v = true)(h:RepS w N base mb st v y):RepS w N base mb ((Wr.rc r c x).ap st) v y:=by
 unfold H5 at ho
 split at ho
 ·simp only[RepS]at h ⊢;exact h
 ·rename_i r' c' i s o
  simp only[RepS]at h ⊢
  intro k xs he
  have hne:¬(r' = r∧c' = c):=by
   rintro⟨rfl,rfl⟩
   simp[bJ]at ho
  simp only[Wr.ap,aV _ _ hne]at he
  obtain⟨e1,e2,e3,b,o,e4,e5⟩:=h k xs he
  exact⟨e1,e2,e3,b,o,e4.rn rfl,e5⟩
 ·simp only[RepS]at h ⊢;exact h
 ·simp only[RepS]at h ⊢;exact h
 ·cases ho
theorem pW{N':Fp}{base':Nat→Base}{mb':Nat→Nat}{st':St}{w':World}:∀ {vs:List V} {ys:List Value},(∀ v∈vs,∀ x,RepS w N base mb st v x→RepS w' N' base' mb' st' v x)→RepSs w N base mb st vs ys→RepSs w' N' base' mb' st' vs ys
 |[],[],_,_=>by simp only[RepSs]
 |[],_ :: _,_,h=>by simp only[RepSs]at h
 |_ :: _,[],_,h=>by simp only[RepSs]at h
 |v :: vs,y :: ys,hi,h=>by simp only[RepSs]at *;exact⟨hi v (by simp) y h.1,pW (fun v hv=>hi v (by simp[hv])) h.2⟩
theorem xa{N':Fp}{v:V}{x:Value}(hs:∀ b o,N' b o→N b o)(h:RepS w N base mb st v x):RepS w N' base mb st v x :=
 RepS.move (st:=st) (st':=st) (fun _ _=>True) (fun _=>True) (fun ob h=>h.less hs) (fun _ _ _ h=>h) (fun _ _ _ _ _ _ h=>h) (fun _ _ _ _ h=>h) (fun _ _=>rfl) _ _ (V.abu _) h
theorem EC:∀ {vs cs:List V} {X F1:Fp} {F:Ix→Fp} {st st':St} {ans a':List Ans} {p:Prop} {ys:List Value},Rel g (Fp.or X F1) st a w base mb F→Fp.dis (Fp.or g.X0 X) F1→(jH vs cs ans).run st = some ((a',p),st')→p→
 RepSs w (tot F) base mb st vs ys→Held w (tot F) cs ys F1→∃ F',Rel g X st' a w base mb F'∧(∀ b o,tot F' b o→tot F b o)∧st'.rn = st.rn:=by
 intro vs
 induction vs with
 |nil =>
  intro cs X F1 F st st' ans a' p ys R hX h hp hv hh
  cases cs with
  |cons=>cases h
  |nil =>
   simp only[jH]at h
   obtain⟨q,rfl⟩:=af h
   cases ys with
   |cons=>simp only[RepSs]at hv
   |nil =>
    cases hh
    rw[Fp.or_none]at R
    exact⟨F,R,fun _ _ h=>h,rfl⟩
 |cons v vs ih =>
  intro cs X F1 F st st' ans a' p ys R hX h hp hv hh
  cases cs with
  |nil =>
   unfold jH at h
   split at h
   ·rename_i heq _;cases heq
   all_goals first|(rename_i heq;cases heq;done)|cases h
  |cons c cs =>
   obtain⟨y,ys',Fa,Fb,rfl,hc,h1,ht,hd1,rfl⟩:=hh.abG
   simp only[RepSs]at hv
   have skip:(∀ b o,¬Fa b o)→(jH vs cs ans).run st = some ((a',p),st')→∃ F',Rel g X st' a w base mb F'∧(∀ b o,tot F' b o→tot F b o)∧st'.rn = st.rn:=by
    intro hFa hrun
    have hFa:Fa = Fp.none:=Fp.ext fun b o=>⟨fun h=>hFa b o h,fun h=>h.elim⟩
    subst hFa
    rw[Fp.none_or]at R hX
    exact ih R hX hrun hp hv.2 ht
   unfold jH at h
   split at h
   ·rename_i heq;cases heq
   ·rename_i r c1 vs1 k xs cs1 heq1 heq2
    injection heq1 with q1 q2
    injection heq2 with q3 q4
    subst q1;subst q2;subst q3;subst q4
    obtain⟨_,s1,h2,h3⟩:=Cmd.abt h
    obtain⟨hok,rfl⟩:=bm h2
    simp only[Cmd.run]at h3
    split at h3
    ·rename_i hund
     simp only[Cmd.run]at h3
     have hr:=hv.1
     simp only[RepS,j5]at hr
     obtain⟨⟨n,hn1,hn2⟩,hhd,_⟩:=hr
     rw[Fp.swap]at R
     have hX':=Fp.abF hX hd1
     have R1:=R.kill (.refs r c1)
     obtain⟨R2,hsub⟩:=R1.fillK (d:=r) (c:=c1) hX' (show((Wr.kl (.refs r c1)).ap s1).rn r = some n from hn1) hn2 hund (lx s1 (.refs r c1)) hhd (.own k xs) hc
     obtain⟨F',R',k1,k2⟩:=ih R2 (fun b o h h'=>hX b o h (.inr h')) h3 hp (pW (fun v hvm x hr=>xa hsub (GU (List.all_eq_true.1 hok v hvm) (Qd hr))) hv.2) (ht.sub hsub)
     exact⟨F',R',fun b o h=>hsub b o (k1 b o h),k2⟩
    ·cases h3
   ·rename_i r c1 i s o vs1 k zs cs1 el a1 heq1 heq2
    injection heq1 with q1 q2
    injection heq2 with q3 q4
    subst q1;subst q2;subst q3;subst q4
    obtain⟨kx,s1,h2,h3⟩:=Cmd.abt h
    obtain⟨rfl,he⟩:=eY h2
    obtain⟨_,s2,h4,h5⟩:=Cmd.abt h3
    obtain⟨hn,rfl⟩:=bm h4
    obtain⟨hn1,hn2⟩:=Bool.and_eq_true_iff.1 hn
    have hn1:o < el.length:=Nat.le_of_ble_eq_true hn1
    simp only[Cmd.run]at h5
    obtain⟨⟨a2,p2⟩,s3,h6,h7⟩:=Cmd.abt h5
    obtain⟨q5,rfl⟩:=af h7
    simp only[Prod.mk.injEq]at q5
    obtain⟨_,rfl⟩:=q5
    obtain⟨hel,hp2⟩:=hp
    have hr:=hv.1
    simp only[RepS]at hr
    obtain⟨e1,e2,e3,b,q,⟨hin,o',len,cap,hh,rfl⟩,e5⟩:=hr _ _ he
    have hkel:bT kx.1 el = true:=by
     obtain⟨y',hy',ho⟩:=dH R he
     obtain⟨A,cap',b',off,G0,rfl,hle,hA,hF,hE',hd0,hw⟩:=bP ho
     exact(RepO.getElem hE' hel).choose_spec.choose_spec.2.2.2.1
    rw[Fp.swap]at R
    have hX':=Fp.abF hX hd1
    have R1:=R.kill (.deep r c1 o)
    have hO:RepO w (.tv (.slc k zs) y) Fa:=by
     obtain⟨y',hy',ho⟩:=hc
     injection hy' with hy'
     subst hy';exact ho
    have hT:HeldT w [.slc k zs] [y] Fa:=by
     have:=HeldT.cons hO .nil (fun _ _ _ h=>h)
     rwa [Fp.or_none]at this
    have hpt:aM el o [.slc k zs] = el.set o (.slc k zs):=by rw[sw (by simp;omega),FY (by simp;omega)]
    obtain⟨F',R2,hsub⟩:=iP (o:=o) R1 hX' hT he hel (by rw[hpt];exact hn2) (by simp;omega) hkel (fun j x hx=>by
     cases j with
     |zero=>simp at hx;exact .inl ⟨k,zs,hx.symm,lx _ (.deep r c1 o)⟩
     |succ j=>simp at hx) hh
    rw[hpt,World.setCells,World.setCells,e2,tL e5]at R2
    obtain⟨F'',R',k1,k2⟩:=ih R2 (fun b o h h'=>hX b o h (.inr h')) h6 hp2 (pW (fun v hvm x hr=>xa hsub (RepS.rc (st:=s2) v x rfl (fun r' c' k' xs' h=>by
     by_cases hrc:r' = r∧c' = c1
     ·obtain⟨rfl,rfl⟩:=hrc
      simp only[Wr.ap,aW]at h
      injection h with q6 q7
      subst q6;subst q7
      exact⟨_,he,by simp⟩
     ·simp only[Wr.ap,aV _ _ hrc]at h
      exact⟨xs',h,rfl⟩) hr)) hv.2) (ht.sub hsub)
    exact⟨F'',R',fun b o h=>hsub b o (k1 b o h),k2⟩
   ·rename_i vs1 k cs1 heq1 heq2
    injection heq1 with q1 q2
    injection heq2 with q3 q4
    subst q1;subst q2;subst q3;subst q4
    have hr:=hv.1
    simp only[RepS]at hr
    subst hr
    obtain⟨y',hy',ho⟩:=hc
    injection hy' with hy'
    subst hy'
    refine skip (fun b o hbo=>?_) h
    obtain⟨A,cap,b1,off,G0,hz,hle,hA,hF,hE',hd0,hw⟩:=bP ho
    injection hz with z1 z2 z3
    subst z3
    cases hE'
    rw[hF]at hbo
    rcases hbo with hbo|hbo
    ·have:=hbo.2;omega
    ·exact hbo
   ·rename_i x vs1 z cs1 heq1 heq2
    injection heq1 with q1 q2
    injection heq2 with q3 q4
    subst q1;subst q2;subst q3;subst q4
    exact skip hc.2 h
   ·cases h
inductive PtrR (w:World) (N:Fp):List A→List Value→List (List V)→Fp→Nat→Nat→List Value→Prop where
 |here {cs0 cs b o ys F as xs outs} (h:Held w N cs ys F):PtrR w N (.ptr cs0 :: as) (.pointer (some ⟨b,o,none⟩) :: xs) (cs :: outs) F b o ys
 |val {v x c as xs outs F b o ys} (t:PtrR w N as xs outs F b o ys):PtrR w N (.val v :: as) (x :: xs) (c :: outs) F b o ys
 |bor {v x c as xs outs F b o ys} (t:PtrR w N as xs outs F b o ys):PtrR w N (.bor v :: as) (x :: xs) (c :: outs) F b o ys
 |rel {j st off x c as xs outs F b o ys} (t:PtrR w N as xs outs F b o ys):PtrR w N (.rel j st off :: as) (x :: xs) (c :: outs) F b o ys
 |nil {b o}:PtrR w N [] [] [] Fp.none b o []
theorem ZR{r:Nat}{cs:List V}{ys:List Value}{G:Fp}(h:Held w N cs ys G):∀ {o:Nat},HeldO w N base st r o (cs.map some) ys G:=by
 induction h with
 |nil=>intro o;exact .nil
 |cons h h1 _ hd ih=>intro o;exact .cons h h1 ih hd
theorem qQ:∀ {cs:List V} {ts:List T} {ys:List Value} {G:Fp},pB cs = some ts→Held w N cs ys G→HeldT w ts ys G∧∀ (j:Nat) (x:T),ts[j]? = some x→(∃ kk zs,x = .slc kk zs)∨∃ u,x = .v u
 |[],ts,ys,G,h,hh=>by
  simp only[pB,Option.some.injEq]at h
  subst h
  cases hh
  exact⟨.nil,by simp⟩
 |c :: cs,ts,ys,G,h,hh=>by
  obtain⟨y,ys',Fa,Fb,rfl,hc,h1,ht,hd1,rfl⟩:=hh.abG
  simp only[pB]at h
  split at h
  ·rename_i x xs e1 e2
   simp only[Option.some.injEq]at h
   subst h
   obtain⟨k1,k2⟩:=qQ e2 ht
   have hx:RepO w (.tv x y) Fa∧((∃ kk zs,x = .slc kk zs)∨∃ u,x = .v u):=by
    unfold OK at e1
    split at e1
    ·injection e1 with e1
     subst e1
     obtain⟨y',hy',ho⟩:=hc
     injection hy' with hy'
     subst hy'
     exact⟨ho,.inl ⟨_,_,rfl⟩⟩
    ·injection e1 with e1
     subst e1
     obtain⟨⟨y',hy',hI⟩,hF⟩:=hc
     injection hy' with hy'
     subst hy'
     have hFa:Fa = Fp.none:=Fp.ext fun b o=>⟨fun h=>hF b o h,fun h=>h.elim⟩
     subst hFa
     cases hI with
     |v hs=>exact⟨.v hs,.inr ⟨_,rfl⟩⟩
    ·cases e1
   refine⟨.cons hx.1 k1 hd1,fun j x' hj=>?_⟩
   cases j with
   |zero=>simp at hj;subst hj;exact hx.2
   |succ j=>exact k2 j x' (by simpa using hj)
  ·cases h
def Wz(w:World)(base:Nat→Base)(st:St)(vs:List V)(xs:List Value):Prop :=
 ∀ (j:Nat) (p:Place),vs[j]? = some (.ptr p)→∃ b o,PlaceAt w base st p b o∧xs[j]? = some (.pointer (some ⟨b,o,none⟩))
theorem Uw{vs:List V}{xs:List Value}(h:RepSs w N base mb st vs xs):Wz w base st vs xs:=by
 intro j p hj
 obtain⟨x,hx,hr⟩:=jm h hj
 simp only[RepS]at hr
 obtain⟨b,o,h1,rfl⟩:=hr
 exact⟨b,o,h1,hx⟩
theorem Fl:∀ {as:List A} {vs:List V} {outs:List (List V)} {F1:Fp} {F:Ix→Fp} {st st':St} {ans a':List Ans} {p:Prop} {xs ys:List Value} {b o:Nat},Rel g (Fp.or X F1) st a w base mb F→Fp.dis (Fp.or g.X0 X) F1→(ou as vs outs ans).run st = some ((a',p),st')→p→
 Wz w base st vs xs→PtrR w (tot F) as xs outs F1 b o ys→∃ F',Rel g X st' a (w.setCells b o ys) base mb F'∧(∀ b o,tot F' b o→tot F b o)∧st'.rn = st.rn:=by
 intro as
 induction as with
 |nil =>
  intro vs outs F1 F st st' ans a' p xs ys b o R hX h hp hv hh
  simp only[ou]at h
  obtain⟨q,rfl⟩:=af h
  cases hh
  rw[Fp.or_none]at R
  exact⟨F,R,fun _ _ h=>h,rfl⟩
 |cons y as ih =>
  intro vs outs F1 F st st' ans a' p xs ys b o R hX h hp hv hh
  have tail:∀ {v:V} {vs1:List V} {c:List V} {outs1:List (List V)},vs = v :: vs1→outs = c :: outs1→(ou as vs1 outs1 ans).run st = some ((a',p),st')→(∃ x xs1,xs = x :: xs1∧PtrR w (tot F) as xs1 outs1 F1 b o ys)→
   ∃ F',Rel g X st' a (w.setCells b o ys) base mb F'∧(∀ b o,tot F' b o→tot F b o)∧st'.rn = st.rn:=by
   rintro v vs1 c outs1 rfl rfl hr ⟨x,xs1,rfl,ht⟩
   exact ih R hX hr hp (fun j p hj=>hv (j+1) p (by simpa using hj)) ht
  cases hh with
  |val t=>cases vs with
   |nil=>cases h
   |cons v vs=>exact tail rfl rfl h ⟨_,_,rfl,t⟩
  |bor t=>cases vs with
   |nil=>cases h
   |cons v vs=>exact tail rfl rfl h ⟨_,_,rfl,t⟩
  |rel t=>cases vs with
   |nil=>cases h
   |cons v vs=>exact tail rfl rfl h ⟨_,_,rfl,t⟩
  |here hh =>
   cases vs with
   |nil=>cases h
   |cons v vs =>
    cases v with
    |ptr p =>
     obtain⟨r,step,o'⟩:=p
     obtain⟨b1,o1,hpl,hpe⟩:=hv 0 _ rfl
     simp only[List.getElem?_cons_zero]at hpe
     injection hpe with hpe;injection hpe with hpe;injection hpe with hpe;injection hpe with hpe1 hpe2
     subst hpe1;subst hpe2
     cases step with
     |none =>
      obtain⟨o0,hb,rfl⟩:=hpl
      simp only[ou]at h
      obtain⟨_,s1,h1,h2⟩:=Cmd.abt h
      obtain⟨rfl,hin⟩:=oi h1
      obtain⟨_,s2,h3,h4⟩:=Cmd.abt h2
      obtain⟨_,rfl⟩:=bm h3
      obtain⟨_,s3,h5,h6⟩:=Cmd.abt h4
      obtain⟨q,rfl⟩:=af h6
      exact hJ hb R hX (ZR hh) (fun j hj=>hin _ (by simp at hj;omega)) h5
     |some s =>
      obtain⟨c,i,s⟩:=s
      cases ans with
      |nil=>cases h
      |cons a0 ans =>
       cases a0 with
       |x el =>
        simp only[ou]at h
        split at h
        ·rename_i el' hel'
         obtain⟨kx,s1,h1,h2⟩:=Cmd.abt h
         obtain⟨rfl,he⟩:=eY h1
         obtain⟨_,s2,h3,h4⟩:=Cmd.abt h2
         obtain⟨hn,rfl⟩:=bm h3
         obtain⟨_,s3,h5,h6⟩:=Cmd.abt h4
         simp only[Cmd.run]at h6
         injection h6 with h6;injection h6 with h6 h7
         simp only[Prod.mk.injEq]at h6
         obtain⟨_,h8⟩:=h6
         subst h7;subst h8
         obtain⟨hn,hn4⟩:=Bool.and_eq_true_iff.1 hn
         obtain⟨hn,hn3⟩:=Bool.and_eq_true_iff.1 hn
         obtain⟨hn1,hn2⟩:=Bool.and_eq_true_iff.1 hn
         obtain rfl:=Nat.eq_of_beq_eq_true hn3
         obtain rfl:=Nat.eq_of_beq_eq_true hn4
         obtain⟨hin,q0,len,cap,hhd,rfl⟩:=hpl
         obtain⟨k1,k2⟩:=qQ hel' hh
         obtain⟨R2,r1,r2,r3,r4⟩:=nU R h5
         have hl1:=bz hn1
         have hl2:=bz hn2
         have hpt:aM el 0 el' = el':=by simp only[aM];rw[List.drop_of_length_le (by omega),List.append_nil]
         obtain⟨F',R3,hsub⟩:=iP (o:=0) R2 hX k1 (by rw[r1];exact he) hp (by rw[hpt];exact hn1) (by omega) hn2 (fun j x hx=>by
          rcases k2 j x hx with⟨kk,zs,rfl⟩|h
          ·refine .inl ⟨kk,zs,rfl,r4 j ?_⟩
           have hj:=(List.getElem?_eq_some_iff.1 hx).1
           have hkj:kx.1[j]? = some (kx.1[j]):=List.getElem?_eq_getElem (by omega)
           have:=(pF.1 hn1).2 j _ _ hkj hx
           rw[hkj]
           cases hb:kx.1[j]with
           |true=>rfl
           |false=>rw[hb]at this;exact this.elim
          ·exact .inr h) hhd
         rw[hpt]at R3
         exact⟨F',R3,hsub,r2⟩
        ·cases h
       |_=>cases h
    |_=>cases h
end Go.Tm
namespace Go.Tm
variable {g:G} {X:Fp} {st st':St} {a:Act} {w:World} {base:Nat→Base} {mb:Nat→Nat} {F:Ix→Fp} {N:Fp} {P:Program}
theorem pD(d:Nat):∀ (cs:List V) (o:Nat) (st:St),(st.fills d o cs).rn = st.rn
 |[],_,_=>rfl
 |_ :: cs,o,st=>by simp only[St.fills];rw[pD d cs];rfl
theorem t8(d:Nat):∀ (cs:List V) (o j:Nat) (st:St),j < o→(st.fills d o cs).rc d j = st.rc d j
 |[],_,_,_,_=>rfl
 |c :: cs,o,j,st,h=>by
  simp only[St.fills]
  rw[t8 d cs (o+1) j _ (by omega)]
  simp only[Wr.ap]
  rw[aV _ _ (by omega)]
theorem CT(d:Nat):∀ (cs:List V) (o j:Nat) (st:St) (c:V),cs[j]? = some c→(st.fills d o cs).rc d (o+j) = c
 |[],_,_,_,_,h=>by simp at h
 |c :: cs,o,0,st,c',h=>by
  simp only[List.getElem?_cons_zero,Option.some.injEq]at h
  subst h
  simp only[St.fills,Nat.add_zero]
  rw[t8 d cs (o+1) o _ (by omega)]
  simp only[Wr.ap,aW]
 |c :: cs,o,j+1,st,c',h=>by
  simp only[List.getElem?_cons_succ]at h
  simp only[St.fills]
  rw[show o+ (j+1) = o+1+j by omega]
  exact CT d cs (o+1) j _ c' h
theorem jr(R:Rel g X st a w base mb F){d n:Nat}(hn:st.rn d = some n):∀ {cs:List V} {ys:List Value} {o:Nat},(∀ (j:Nat) (c:V),cs[j]? = some c→st.rc d (o+j) = c)→(∀ (j:Nat) (y:Value),ys[j]? = some y→hd w base d (o+j) = some y)→cs.length = ys.length→(∀ c∈cs,bQ c = true)→o+cs.length≤n→
 RepSs w (tot F) base mb st (bR d o cs) ys
 |[],[],o,_,_,_,_,_=>by simp only[bR,RepSs]
 |[],_ :: _,_,_,_,h,_,_=>by simp at h
 |_ :: _,[],_,_,_,h,_,_=>by simp at h
 |c :: cs,y :: ys,o,h1,h2,h3,h4,h5=>by
  have e1:=h1 0 c rfl
  have e2:=h2 0 y rfl
  rw[Nat.add_zero]at e1 e2
  have hrest:RepSs w (tot F) base mb st (bR d (o+1) cs) ys:=jr R hn (fun j c hj=>by
   have:=h1 (j+1) c (by simpa using hj);rwa [show o+ (j+1) = o+1+j by omega]at this) (fun j y hj=>by
   have:=h2 (j+1) y (by simpa using hj);rwa [show o+ (j+1) = o+1+j by omega]at this) (by simpa using h3) (fun c hc=>h4 c (by simp[hc])) (by simp at h5;omega)
  have hcl:=h4 c (by simp)
  have hc:=R.cell d o
  rw[e1,e2]at hc
  cases c with
  |t x =>
   obtain⟨⟨v,hv,hI⟩,_⟩:=hc
   injection hv with hv
   subst hv
   simp only[bR,RepSs]
   exact⟨by simp only[RepS];exact hI,hrest⟩
  |own k xs =>
   obtain⟨v,hv,hO⟩:=hc
   injection hv with hv
   subst hv
   obtain⟨A,cap,b,off,G0,rfl,_⟩:=bP hO
   simp only[bR,RepSs]
   exact⟨by simp only[RepS,j5];exact⟨⟨n,hn,by simp at h5;omega⟩,e2,_,_,_,rfl⟩,hrest⟩
  |_=>cases hcl
theorem o7{d o:Nat}{v:V}{x:Value}{ys:List Value}(hv:VR v x ys)(h:RepSs w N base mb st (bR d o (cellsOf v)) ys):RepS w N base mb st (sC d o v) x:=by
 unfold sC oG
 split
 ·simp only[VR]at hv
  simp only[RepS]
  exact⟨ys,hv,h⟩
 ·rename_i hna
  have hc:cellsOf v = [v]:=by
   cases v with
   |agg cs=>exact absurd rfl (hna cs)
   |_=>rfl
  have hy:ys = [x]:=by
   cases v with
   |agg cs=>exact absurd rfl (hna cs)
   |_=>exact hv
  subst hy
  rw[hc]at h
  split
  ·rename_i c cs' he
   rw[hc]at he
   rw[he]at h
   simp only[RepSs]at h
   exact h.1
  ·simp only[RepS]
theorem mz(d:Nat):∀ (cs:List V) (o:Nat),(bR d o cs).length = cs.length
 |[],_=>rfl
 |c :: cs,o=>by
  cases c <;> simp only[bR,List.length_cons] <;> rw[mz d cs]
theorem mB(d:Nat):∀ (as bs:List V) (o:Nat),bR d o (as++bs) = bR d o as++bR d (o+as.length) bs
 |[],bs,o=>by simp[bR]
 |c :: as,bs,o=>by
  have:=mB d as bs (o+1)
  rw[show o+1+as.length = o+ (as.length+1) by omega]at this
  cases c <;> simp only[List.cons_append,bR,List.length_cons] <;> rw[this]
theorem xN:∀ {as bs:List V} {xs ys:List Value},as.length = xs.length→RepSs w N base mb st (as++bs) (xs++ys)→RepSs w N base mb st as xs∧RepSs w N base mb st bs ys
 |[],bs,[],ys,_,h=>⟨by simp only[RepSs],h⟩
 |[],_,_ :: _,_,h,_=>by simp at h
 |_ :: _,_,[],_,h,_=>by simp at h
 |a :: as,bs,x :: xs,ys,hl,h=>by
  simp only[List.cons_append,RepSs]at h ⊢
  obtain⟨h1,h2⟩:=xN (by simpa using hl) h.2
  exact⟨⟨h.1,h1⟩,h2⟩
theorem qJ{d:Nat}:∀ {vs:List V} {xs ys:List Value} {o:Nat},VRs vs xs ys→RepSs w N base mb st (bR d o (vs.flatMap cellsOf)) ys→RepSs w N base mb st (vO d o vs) xs
 |[],xs,ys,o,h,_=>by cases h;simp only[vO,RepSs]
 |v :: vs,_,_,o,.cons hv hl ht,hr=>by
  rw[List.flatMap_cons,mB]at hr
  obtain⟨h1,h2⟩:=xN (by rw[mz,hl]) hr
  simp only[vO,RepSs]
  exact⟨o7 hv h1,qJ ht h2⟩
theorem D1{Fr:Fp}(R:Rel g (Fp.or X Fr) st a w base mb F)(hX:Fp.dis (Fp.or g.X0 X) Fr){d:Option Nat}(hdn:∀ d',d = some d'→d' < g.nt){vs:List V}{as:List A}{args:List Value}{res v:V}{x:Value}
 (h:(Ib d vs res).run st = some (v,st')) (hr:ResR w (tot F) as args res x Fr)
 (hptr:∀ (j r o':Nat),vs[j]? = some (.ptr ⟨r,none,o'⟩)→∃ b o0,base r = .mem b o0∧args[j]? = some (.pointer (some ⟨b,o0+o',none⟩))) :
 ∃ base' F',Rel g X st' a w base' mb F'∧RepS w (tot F') base' mb st' v x:=by
 have new:∀ {cs:List V} {ys:List Value} {d:Nat},d < g.nt→Held w (tot F) cs ys Fr→(∀ c∈cs,bQ c = true)→∃ base' F',Rel g X ((st.cleared d cs.length).fills d 0 cs) a w base' mb F'∧RepSs w (tot F') base' mb ((st.cleared d cs.length).fills d 0 cs) (bR d 0 cs) ys:=by
  intro cs ys d hdl hh hcl
  obtain⟨F',R'⟩:=R.newTmp hX d hdl hh
  refine⟨_,F',R',jr R' (n:=cs.length) (by rw[pD];simp[St.cleared,Wr.ap,ba]) (fun j c hj=>by rw[CT d cs 0 j _ c hj]) (fun j y hj=>?_) hh.length hcl (by omega)⟩
  simp only[hd,ba,Nat.zero_add];exact hj
 have gen:∀ {d:Nat},d < g.nt→(∃ ys,VR res x ys∧Held w (tot F) (cellsOf res) ys Fr)→((ib ((cellsOf res).all bQ)).bind fun _=>(fT d (cellsOf res)).bind fun _=>Cmd.ret (sC d 0 res)).run st = some (v,st')→
  ∃ base' F',Rel g X st' a w base' mb F'∧RepS w (tot F') base' mb st' v x:=by
  rintro d hdl ⟨ys,h1,h2⟩ h
  obtain⟨_,s1,h3,h4⟩:=Cmd.abt h
  obtain⟨hall,rfl⟩:=bm h3
  obtain⟨_,s2,h5,h6⟩:=Cmd.abt h4
  rw[dA]at h5
  injection h5 with h5;injection h5 with _ h5
  obtain⟨q1,q2⟩:=af h6
  subst q1;subst q2;subst h5
  obtain⟨base',F',R',hs⟩:=new hdl h2 (List.all_eq_true.1 hall)
  exact⟨base',F',R',o7 h1 hs⟩
 have emp:Fr = Fp.none→Rel g X st a w base mb F:=fun h=>by subst h;rwa [Fp.or_none]at R
 unfold Ib at h
 split at h
 ·obtain⟨q1,q2⟩:=af h
  subst q1;subst q2
  simp only[ResR,VR,cellsOf]at hr
  obtain⟨ys,rfl,hh⟩:=hr
  obtain⟨y,ys',Fa,Fb,q,hc,h1,ht,hd1,rfl⟩:=hh.abG
  injection q with q1 q2
  subst q1;subst q2
  cases ht
  obtain⟨⟨v',hv',hI⟩,hF⟩:=hc
  injection hv' with hv'
  subst hv'
  exact⟨base,F,emp (Fp.ext fun b o=>⟨fun h=>h.elim (hF b o) (fun h=>h),fun h=>h.elim⟩),by simp only[RepS];exact hI⟩
 ·obtain⟨q1,q2⟩:=af h
  subst q1;subst q2
  exact⟨base,F,emp hr,by simp only[RepS]⟩
 ·rename_i j s o
  obtain⟨hFr,cs,b,q,ha,hx,hrel⟩:=hr
  split at h
  ·rename_i r o' hj
   obtain⟨q1,q2⟩:=af h
   subst q1;subst q2
   obtain⟨b',o0,hb,hx'⟩:=hptr _ _ _ hj
   rw[hx']at hx
   injection hx with hx;injection hx with hx;injection hx with hx;injection hx with hx1 hx2
   subst hx1;subst hx2
   refine⟨base,F,emp hFr,?_⟩
   simp only[I3]at hrel
   simp only[RepS]
   exact⟨_,_,⟨o0,hb,rfl⟩,by rw[hrel,Nat.add_assoc]⟩
  ·rename_i r o' c i s' hj
   obtain⟨_,s1,h1,h2⟩:=Cmd.abt h
   obtain⟨rfl,hin⟩:=oi h1
   obtain⟨q1,q2⟩:=af h2
   subst q1;subst q2
   obtain⟨b',o0,hb,hx'⟩:=hptr _ _ _ hj
   rw[hx']at hx
   injection hx with hx;injection hx with hx;injection hx with hx;injection hx with hx1 hx2
   subst hx1;subst hx2
   refine⟨base,F,emp hFr,?_⟩
   obtain⟨hcn,b2,o2,len,cap,hcell,hxe⟩:=hrel
   simp only[RepS]
   refine⟨_,_,⟨hin _ (by omega),o2,len,cap,?_,rfl⟩,hxe⟩
   simp only[hd,hb]
   rw[←Nat.add_assoc];exact hcell
  ·cases h
 ·rename_i cs
  split at h
  ·rename_i d
   obtain⟨_,s2,h5,h6⟩:=Cmd.abt h
   rw[dA]at h5
   injection h5 with h5;injection h5 with _ h5
   obtain⟨q1,q2⟩:=af h6
   subst q1;subst q2;subst h5
   obtain⟨b,o,ys,F1,rfl,hh,hc,rfl,hd1⟩:=hr
   obtain⟨F',R'⟩:=R.adopt hX hd1 d (hdn d rfl) hh hc
   refine⟨_,F',R',?_⟩
   simp only[RepS]
   exact⟨b,o,⟨o,by rw[ba],rfl⟩,rfl⟩
  ·cases h
 ·rename_i vs' hne hne2
  split at h
  ·rename_i d
   obtain⟨_,s1,h3,h4⟩:=Cmd.abt h
   obtain⟨hall,rfl⟩:=bm h3
   obtain⟨_,s2,h5,h6⟩:=Cmd.abt h4
   rw[dA]at h5
   injection h5 with h5;injection h5 with _ h5
   obtain⟨q1,q2⟩:=af h6
   subst q1;subst q2;subst h5
   cases vs' with
   |nil=>exact absurd rfl hne
   |cons v0 vs' =>
    have hr:∃ xs ys,x = .tuple xs.toArray∧VRs (v0 :: vs') xs ys∧Held w (tot F) ((v0 :: vs').flatMap cellsOf) ys Fr:=by
     cases vs' with
     |cons v1 vs'=>cases v0 <;> exact hr
     |nil=>cases v0 <;> first|exact hr|exact absurd rfl (hne2 _)
    obtain⟨xs,ys,rfl,hvs,hh⟩:=hr
    obtain⟨base',F',R',hs⟩:=new (hdn d rfl) hh (fun c hc=>by
     obtain⟨v1,hv1,hc1⟩:=List.mem_flatMap.1 hc
     exact List.all_eq_true.1 (List.all_eq_true.1 hall v1 hv1) c hc1)
    refine⟨base',F',R',?_⟩
    simp only[RepS]
    exact⟨xs,rfl,qJ hvs hs⟩
  ·cases h
 ·rename_i res' h1 h2 h3 h5 h4
  split at h
  ·rename_i d
   refine gen (hdn d rfl) ?_ h
   cases res with
   |t y=>exact(h1 y rfl).elim
   |ptr p=>exact(h3 p.root p.step p.off rfl).elim
   |tup ws=>exact(h4 ws rfl).elim
   |_=>exact hr
  ·cases h
end Go.Tm
namespace Go.Tm
variable {g:G} {X:Fp} {st st':St} {a:Act} {w:World} {base:Nat→Base} {mb:Nat→Nat} {F:Ix→Fp} {N:Fp} {P:Program}
theorem ko(b:Nat):∀ (vs:List Value) (o:Nat) (w:World),(w.setCells b o vs).drawn = w.drawn
 |[],_,_=>rfl
 |v :: vs,o,w=>ko b vs (o+1) (w.setCell ⟨b,o,none⟩ v)
theorem Dc{w:World}{b o:Nat}{v:Value}{c:Array Value}{e:TypeId}{f:Nat×Nat}(h:w.heap[b]? = some (.cells c e f)):∃ c',(w.setCell ⟨b,o,none⟩ v).heap[b]? = some (.cells c' e f):=by
 simp only[World.setCell,Array.getElem?_modify,if_pos,h,Option.map_some]
 exact⟨_,rfl⟩
theorem km{b:Nat}{e:TypeId}{f:Nat×Nat}:∀ {vs:List Value} {o:Nat} {w:World} {c:Array Value},w.heap[b]? = some (.cells c e f)→∃ c',(w.setCells b o vs).heap[b]? = some (.cells c' e f)
 |[],_,_,c,h=>⟨c,h⟩
 |v :: vs,o,w,c,h=>by
  obtain⟨c',h'⟩:=Dc (o:=o) (v:=v) h
  show ∃ c',((w.setCell ⟨b,o,none⟩ v).setCells b (o+1) vs).heap[b]? = _
  exact km h'
theorem qU{w:World}{b:Nat}{c:Array Value}{e:TypeId}{f:Nat×Nat}(h:w.heap[b]? = some (.cells c e f))(j:Nat):w.cell? ⟨b,j,none⟩ = c[j]?:=by
 simp[World.cell?,h]
theorem kn(w:World)(b o:Nat)(vs:List Value){i:Nat}(hne:i≠b):(w.setCells b o vs).heap[i]? = w.heap[i]?:=by
 by_cases hi:i < w.heap.size
 ·exact World.heap_setCells_other w b o vs hi hne
 ·rw[Array.getElem?_eq_none (by rw[(fw b vs o w).1];omega),Array.getElem?_eq_none (by omega)]
theorem Db{w:World}{b o:Nat}{olds news:List Value}(hn:CellsAt w b o news)(hl:olds.length = news.length):(w.setCells b o olds).setCells b o news = w:=by
 cases news with
 |nil =>
  have:olds = []:=List.eq_nil_of_length_eq_zero hl
  subst this;rfl
 |cons y news =>
  have h0:=(hn 0 y rfl).1
  have hsome:∀ j,j < (y :: news).length→(w.cell? ⟨b,o+j,none⟩).isSome = true:=fun j hj=>by
   rw[(hn j _ (List.getElem?_eq_getElem hj)).1];rfl
  obtain⟨c,e,f,hs⟩:∃ c e f,w.heap[b]? = some (.cells c e f):=by
   unfold World.cell? at h0
   split at h0
   ·rename_i c e f hq;exact⟨c,_,_,hq⟩
   ·cases h0
  obtain⟨c1,hs1⟩:=km (o:=o) (vs:=olds) hs
  obtain⟨c2,hs2⟩:=km (o:=o) (vs:=y :: news) hs1
  have hc:c2 = c:=by
   apply Array.ext_getElem?
   intro j
   rw[←qU hs2,←qU hs]
   by_cases hin:o≤j∧j < o+ (y :: news).length
   ·have hj:j = o+ (j - o):=by omega
    have hlt:j - o < (y :: news).length:=by omega
    rw[hj,World.cell?_setCells_in b (y :: news) o _ (fun i hi=>World.isSome_setCells b _ _ _ _ (hsome i hi)) (j - o) hlt,(hn (j - o) _ (List.getElem?_eq_getElem hlt)).1]
   ·rw[World.cell?_setCells_out b _ _ _ _ (fun _ _=>by simp only;omega),World.cell?_setCells_out b _ _ _ _ (fun _ _=>by simp only;omega)]
  subst hc
  have hheap:((w.setCells b o olds).setCells b o (y :: news)).heap = w.heap:=by
   apply Array.ext_getElem?
   intro i
   by_cases hi:i = b
   ·subst hi;rw[hs2,hs]
   ·rw[kn _ _ _ _ hi,kn _ _ _ _ hi]
  have m1:=fw b (y :: news) o (w.setCells b o olds)
  have m2:=fw b olds o w
  have d1:=ko b (y :: news) o (w.setCells b o olds)
  have d2:=ko b olds o w
  cases hw:(w.setCells b o olds).setCells b o (y :: news)with
  |mk h2 t2 dr2 os2 out2 =>
   rw[hw]at hheap m1 d1
   cases w with
   |mk h1 t1 dr1 os1 out1 =>
    simp only at hheap m1 m2 d1 d2 ⊢
    rw[World.mk.injEq]
    exact⟨hheap,m1.2.2.1.trans m2.2.2.1,d1.trans d2,m1.2.1.trans m2.2.1,m1.2.2.2.trans m2.2.2.2⟩
theorem Held.append{w:World}{N:Fp}{as:List V}{xs:List Value}{F1:Fp}(h:Held w N as xs F1):∀ {bs:List V} {ys:List Value} {F2:Fp},Held w N bs ys F2→Fp.dis F1 F2→Held w N (as++bs) (xs++ys) (Fp.or F1 F2):=by
 induction h with
 |nil=>intro bs ys F2 h2 _;rw[Fp.none_or];exact h2
 |cons h h1 t hd ih =>
  intro bs ys F2 h2 hd2
  rw[Fp.or_assoc]
  exact .cons h h1 (ih h2 fun b o x y=>hd2 b o (.inr x) y) fun b o x y=>y.elim (fun y=>hd b o x y) (fun y=>hd2 b o (.inl x) y)
theorem Held.chg{w:World}{N N2:Fp}{cs:List V}{ys:List Value}{G:Fp}(h:Held w N cs ys G)(hc:(∀ b o,N2 b o→N b o)∨cs.any zV = false):Held w N2 cs ys G:=by
 rcases hc with hc|hc
 ·exact h.sub hc
 ·induction h with
  |nil=>exact .nil
  |cons h h1 t hd ih =>
   simp only[List.any_cons,Bool.or_eq_false_iff]at hc
   refine .cons ?_ h1 (ih hc.2) hd
   rename_i x y xs ys F1 F2
   cases x with
   |t z =>
    obtain⟨⟨v,hv,hI⟩,hF⟩:=h
    refine⟨⟨v,hv,?_⟩,hF⟩
    cases z with
    |v u=>cases hI with|v hs=>exact .v hs
    |hole=>cases hI with|hole ho=>exact .hole ho
    |slc k xs=>cases hc.1
   |_=>exact h
theorem OutsR.chg{w:World}{N N2:Fp}{as:List A}{xs:List Value}{outs:List (List V)}{G:Fp}(h:OutsR w N as xs outs G)(hc:(∀ b o,N2 b o→N b o)∨outs.any (fun cs=>cs.any zV) = false):OutsR w N2 as xs outs G:=by
 induction h with
 |nil=>exact .nil
 |val _ ih=>exact .val (ih (hc.imp id fun h=>by simpa using h))
 |rel _ ih=>exact .rel (ih (hc.imp id fun h=>by simpa using h))
 |bor h hh _ hd ih =>
  refine .bor h (hh.chg (hc.imp id fun h=>?_)) (ih (hc.imp id fun h=>?_)) hd
  ·rw[List.any_cons,Bool.or_eq_false_iff]at h;exact h.1
  ·rw[List.any_cons,Bool.or_eq_false_iff]at h;exact h.2
 |ptr hl hh hcc _ hd ih =>
  refine .ptr hl (hh.chg (hc.imp id fun h=>?_)) hcc (ih (hc.imp id fun h=>?_)) hd
  ·rw[List.any_cons,Bool.or_eq_false_iff]at h;exact h.1
  ·rw[List.any_cons,Bool.or_eq_false_iff]at h;exact h.2
theorem ResR.chg{w:World}{N N2:Fp}{as:List A}{args:List Value}{res:V}{x:Value}{G:Fp}(h:ResR w N as args res x G)(hc:(∀ b o,N2 b o→N b o)∨(CH res).any zV = false):ResR w N2 as args res x G:=by
 cases res with
 |ptr p=>exact h
 |tup vs =>
  cases vs with
  |nil=>exact h
  |cons v vs =>
   have gen:(∃ xs ys,x = .tuple xs.toArray∧VRs (v :: vs) xs ys∧Held w N ((v :: vs).flatMap cellsOf) ys G)→((∀ b o,N2 b o→N b o)∨((v :: vs).flatMap cellsOf).any zV = false)→∃ xs ys,x = .tuple xs.toArray∧VRs (v :: vs) xs ys∧Held w N2 ((v :: vs).flatMap cellsOf) ys G:=fun⟨xs,ys,h1,h2,h3⟩ hc=>⟨xs,ys,h1,h2,h3.chg hc⟩
   cases vs with
   |cons v1 vs =>
    have e:∀ NN,ResR w NN as args (.tup (v :: v1 :: vs)) x G = ∃ xs ys,x = .tuple xs.toArray∧VRs (v :: v1 :: vs) xs ys∧Held w NN ((v :: v1 :: vs).flatMap cellsOf) ys G:=fun NN=>by cases v <;> rfl
    have e2:CH (.tup (v :: v1 :: vs)) = (v :: v1 :: vs).flatMap cellsOf:=by cases v <;> rfl
    rw[e]at h ⊢
    rw[e2]at hc
    exact gen h hc
   |nil =>
    cases v with
    |tup cs =>
     obtain⟨b,o,ys,F1,e1,e2,e3,e4,e5⟩:=h
     exact⟨b,o,ys,F1,e1,e2.chg hc,e3,e4,e5⟩
    |_=>exact gen h hc
 |_ =>
  obtain⟨ys,h1,h2⟩:=h
  exact⟨ys,h1,h2.chg hc⟩
theorem PtrR.imp{w w2:World}{N N2:Fp}{as:List A}{xs:List Value}{outs:List (List V)}{G:Fp}{b o:Nat}{ys:List Value}(h:PtrR w N as xs outs G b o ys)(hi:∀ cs,Held w N cs ys G→Held w2 N2 cs ys G):PtrR w2 N2 as xs outs G b o ys:=by
 induction h with
 |here h=>exact .here (hi _ h)
 |val _ ih=>exact .val (ih hi)
 |bor _ ih=>exact .bor (ih hi)
 |rel _ ih=>exact .rel (ih hi)
 |nil=>exact .nil
theorem Ag{v v0:V}{x:Value}{ys:List Value}(hs:KC v v0 = true)(h:VR v x ys)(hv:RepS w N base mb st v0 x):RepSs w N base mb st (cellsOf v0) ys:=by
 cases v0 with
 |agg cs =>
  cases v with
  |agg ds =>
   simp only[RepS]at hv
   obtain⟨zs,rfl,hz⟩:=hv
   simp only[VR,Value.agg.injEq]at h
   have:zs = ys:=by have:=congrArg Array.toList h;simpa using this
   subst this
   exact hz
  |_=>cases hs
 |_ =>
  cases v with
  |agg ds=>cases hs
  |_ =>
   simp only[VR]at h
   subst h
   simp only[cellsOf,RepSs]
   exact⟨hv,trivial⟩
theorem QY{w w':World}{N N':Fp}{as0:List A}{xs0:List Value}{as:List A}{xs:List Value}{F1 W:Fp}(h:ArgsR w N as0 xs0 as xs F1 W):∀ {outs:List (List V)} {Fo:Fp},OutsR w' N' as xs outs Fo→
 ∃ b o olds news Fq Fb,W = region b o olds.length∧CellsAt w b o olds∧CellsAt w' b o news∧olds.length = news.length∧PtrR w' N' as xs outs Fq b o news∧(∀ b o,Fb b o∨Fq b o→Fo b o)∧Fp.dis Fb Fq∧
  ∀ {st:St} {w2:World} {N2:Fp} {base:Nat→Base} {mb:Nat→Nat} {vs bs ds:List V},Wq as vs outs = some (bs,ds)→RepSs w2 N2 base mb st vs xs→∃ zs,RepSs w2 N2 base mb st bs zs∧Held w' N' ds zs Fb:=by
 induction h with
 |nil =>
  intro outs Fo ho
  cases ho
  refine⟨0,0,[],[],Fp.none,Fp.none,(xO 0 0).symm,fun j y h=>by simp at h,fun j y h=>by simp at h,rfl,.nil,fun _ _ h=>h.elim id id,fun _ _ h=>h.elim,?_⟩
  intro st w2 N2 base mb vs bs ds hb hv
  simp only[Wq,Option.some.injEq,Prod.mk.injEq]at hb
  obtain⟨rfl,rfl⟩:=hb
  exact⟨[],by simp only[RepSs],.nil⟩
 |@val v x ys F1 as xs F2 W h hh t hd ih =>
  intro outs Fo ho
  cases ho with
  |val to =>
   obtain⟨b,o,olds,news,Fq,Fb,e1,e2,e3,e4,e5,e6,e7,e8⟩:=ih to
   refine⟨b,o,olds,news,Fq,Fb,e1,e2,e3,e4,.val e5,e6,e7,?_⟩
   intro st w2 N2 base mb vs bs ds hb hv
   cases vs with
   |nil=>cases hb
   |cons v0 vs=>simp only[RepSs]at hv;exact e8 hb hv.2
 |@rel j st off cs b o x as xs F2 W hj hx h t ih =>
  intro outs Fo ho
  cases ho with
  |rel to =>
   obtain⟨b,o,olds,news,Fq,Fb,e1,e2,e3,e4,e5,e6,e7,e8⟩:=ih to
   refine⟨b,o,olds,news,Fq,Fb,e1,e2,e3,e4,.rel e5,e6,e7,?_⟩
   intro st w2 N2 base mb vs bs ds hb hv
   cases vs with
   |nil=>cases hb
   |cons v0 vs=>simp only[RepSs]at hv;exact e8 hb hv.2
 |@bor v x ys F1 as xs F2 W h hh t hd ih =>
  intro outs Fo ho
  cases ho with
  |@bor _ _ ys' cs Fa _ _ outs F2' h' hh' to hd' =>
   obtain⟨b,o,olds,news,Fq,Fb,e1,e2,e3,e4,e5,e6,e7,e8⟩:=ih to
   refine⟨b,o,olds,news,Fq,Fp.or Fa Fb,e1,e2,e3,e4,.bor e5,fun p q h=>?_,fun p q h h'=>?_,?_⟩
   ·rcases h with(h|h)|h
    ·exact .inl h
    ·exact .inr (e6 p q (.inl h))
    ·exact .inr (e6 p q (.inr h))
   ·rcases h with h|h
    ·exact hd' p q h (e6 p q (.inr h'))
    ·exact e7 p q h h'
   ·intro st w2 N2 base mb vs bs ds hb hv
    cases vs with
    |nil=>cases hb
    |cons v0 vs =>
     simp only[RepSs]at hv
     simp only[Wq]at hb
     split at hb
     ·rename_i bs1 ds1 hsf hb1
      simp only[Option.some.injEq,Prod.mk.injEq]at hb
      obtain⟨rfl,rfl⟩:=hb
      obtain⟨zs,k1,k2⟩:=e8 hb1 hv.2
      exact⟨ys'++zs,nD (Ag hsf h' hv.1) k1,hh'.append k2 fun p q h h'=>hd' p q h (e6 p q (.inl h'))⟩
     ·cases hb
 |@ptr cs b o ys F1 as xs F2 hh hc t hd ih =>
  intro outs Fo ho
  cases ho with
  |@ptr _ cs' _ _ ys' Fa _ _ outs F2' hl' hh' hc' to hd' =>
   obtain⟨_,_,_,_,Fq,Fb,_,_,_,_,_,e6,e7,e8⟩:=ih to
   refine⟨b,o,ys,ys',Fa,Fb,by rw[hh.length],hc,hc',by rw[←hh.length,←hh'.length,hl'],.here hh',fun p q h=>?_,fun p q h h'=>?_,?_⟩
   ·rcases h with h|h
    ·exact .inr (e6 p q (.inl h))
    ·exact .inl h
   ·exact hd' p q h' (e6 p q (.inl h))
   ·intro st w2 N2 base mb vs bs ds hb hv
    cases vs with
    |nil=>cases hb
    |cons v0 vs=>simp only[RepSs]at hv;exact e8 hb hv.2
end Go.Tm
namespace Go.Tm
variable {g:G} {X:Fp} {st st':St} {a:Act} {w:World} {base:Nat→Base} {mb:Nat→Nat} {F:Ix→Fp} {N:Fp} {P:Program}
theorem P2{r k:Nat}{c:V}(h:kA r k c = true):ls c = true:=by
 unfold kA at h
 split at h <;> first|rfl|cases h
theorem si:∀ {ms:List Md} {vs:List V},nu ms vs = false→Cw F N ms vs
 |[],[],_=>trivial
 |[],_ :: _,_=>trivial
 |m :: ms,[],_=>by cases m <;> exact trivial
 |m :: ms,v :: vs,h=>by
  cases m with
  |v =>
   simp only[nu,Bool.or_eq_false_iff]at h
   refine⟨fun c hc r k ht=>?_,si h.2⟩
   have:=List.any_eq_false.1 h.1 c hc
   exact absurd (P2 ht) this
  |_=>exact si (ms:=ms) (vs:=vs) h
theorem ln(hN:∀ r k b o,N b o→F (.cell r k) b o→False):∀ {ms:List Md} {vs:List V},Cw F N ms vs
 |[],[]=>trivial
 |[],_ :: _=>trivial
 |m :: ms,[]=>by cases m <;> exact trivial
 |m :: ms,v :: vs=>by
  cases m with
  |v=>exact⟨fun c hc r k ht b o h h'=>hN r k b o h h',ln hN⟩
  |_=>exact ln (ms:=ms) (vs:=vs) hN
theorem oW{r0 k0:Nat}(hN:∀ r k b o,N b o→F (.cell r k) b o→r = r0∧k = k0):∀ {ms:List Md} {vs:List V},va r0 k0 ms vs = true→Cw F N ms vs
 |[],[],_=>trivial
 |[],_ :: _,_=>trivial
 |m :: ms,[],_=>by cases m <;> exact trivial
 |m :: ms,v :: vs,h=>by
  cases m with
  |v =>
   simp only[va,Bool.and_eq_true]at h
   refine⟨fun c hc r k ht b o h1 h2=>?_,oW hN h.2⟩
   obtain⟨rfl,rfl⟩:=hN r k b o h1 h2
   have:=h.1
   simp only[Bool.not_eq_true']at this
   exact absurd ht (List.any_eq_false.1 this c hc)
  |_=>exact oW hN (ms:=ms) (vs:=vs) h
theorem J0(R:Rel g X st a w base mb F){E:Env}{Fc:FuncId→List A→V→List (List V)→Prop}(hF:∀ f as res outs,Fc f as res outs→Fn P f as res outs){md:FuncId→List Md}{f:FuncId}{vs:List V}{ts:List TypeId}{d:Option Nat}{v:V}{ans a':List Ans}{p:Prop}
 (hdn:∀ d',d = some d'→d' < g.nt) (h:(Zp E Fc md f vs ts d ans).run st = some ((v,a',p),st')) (hp:p) {xs:List Value} (hv:RepSs w (tot F) base mb st vs xs) :
 Calls P f xs.toArray w fun e w'=>∃ x base' F',e = .returned x∧Rel g X st' a w' base' mb F'∧RepS w' (tot F') base' mb st' v x:=by
 obtain⟨⟨ys,a1,p1⟩,s1,h1,h2⟩:=Cmd.abt h
 obtain⟨_,s1',h3,h4⟩:=Cmd.abt h2
 obtain⟨hneed,rfl⟩:=bm h3
 obtain⟨hone,hlent⟩:=Bool.and_eq_true_iff.1 hneed
 obtain⟨⟨ys2,a2,p2⟩,s2,h5,h6⟩:=Cmd.abt h4
 obtain⟨⟨as,a3,p3⟩,s3,h7,h8⟩:=Cmd.abt h6
 simp only at h8
 split at h8
 ·rename_i res outs a4
  obtain⟨_,s4,h9,h10⟩:=Cmd.abt h8
  obtain⟨himm,q0⟩:=bm h9
  subst q0
  obtain⟨⟨v',a5,p5⟩,s5,h11,h12⟩:=Cmd.abt h10
  obtain⟨q,q1⟩:=af h12
  simp only[Prod.mk.injEq]at q
  obtain⟨q2,_,q3⟩:=q
  subst q1;subst q2;subst q3
  obtain⟨hp1,hp2,hp3,hp5,hfn⟩:=hp
  obtain⟨F1,Fa,e1,e2,e3,e4,e5,e6⟩:=pm R h1 hp1 hv
  obtain⟨F1',W,Fb,k1,k2,k3,k4,k5,k6,k7⟩:=sV e1 e2 h5 hp2 e3 (gO e5 hv) hone
  have hvb:=gO k5 (gO e5 hv)
  have hFx:∀ b o,F1' b o→Fb .x b o:=fun b o hb=>by rw[k1.fx];exact .inr (.inr hb)
  have hWt:∀ b o,W b o→∃ i,i≠.x∧(∀ m,i≠.map m)∧Fb i b o:=fun b o hb=>by
   rcases k7 with h|⟨r,h⟩|⟨r,c,_,h⟩
   ·exact absurd hb (h b o)
   ·exact⟨.hdr r,by simp,by simp,h b o hb⟩
   ·exact⟨.cell r c,by simp,by simp,h b o hb⟩
  have hFW:Fp.dis F1' W:=fun b o h h'=>by
   obtain⟨i,i1,_,i2⟩:=hWt b o h'
   exact k1.dis i .x i1 b o i2 (hFx b o h)
  have hXW:∀ b o,Fp.or g.X0 X b o→¬W b o:=fun b o h h'=>by
   obtain⟨i,i1,_,i2⟩:=hWt b o h'
   exact k1.dis i .x i1 b o i2 (by rw[k1.fx];exact h.imp id .inl)
  generalize hown:nu (md f) vs = own at himm
  let X0c:Fp:=fun b o=>own = false∧tot Fb b o∧¬F1' b o∧¬W b o
  have hN:∀ b o,Fp.or X0c (Fp.or F1' W) b o→tot Fb b o:=fun b o h=>by
   rcases h with h|h|h
   ·exact h.2.1
   ·exact⟨.x,hFx b o h⟩
   ·obtain⟨i,_,_,i2⟩:=hWt b o h;exact⟨i,i2⟩
  have hReads:Cw Fb (Fp.or X0c (Fp.or F1' W)) (md f) vs:=by
   cases own with
   |false=>exact si hown
   |true =>
    have hx:∀ {b o},X0c b o→False:=fun h=>by cases h.1
    rcases k7 with h|⟨r,h⟩|⟨r,c,hl,h⟩
    ·refine ln fun r k b o hb hf=>?_
     rcases hb with hb|hb|hb
     ·exact hx hb
     ·exact k1.dis _ _ (by simp) b o hf (hFx b o hb)
     ·exact h b o hb
    ·refine ln fun r k b o hb hf=>?_
     rcases hb with hb|hb|hb
     ·exact hx hb
     ·exact k1.dis _ _ (by simp) b o hf (hFx b o hb)
     ·exact k1.dis _ _ (by simp) b o hf (h b o hb)
    ·refine oW (r0:=r) (k0:=c) (fun r' k' b o hb hf=>?_) (by simpa [U2,hl]using hlent)
     rcases hb with hb|hb|hb
     ·exact(hx hb).elim
     ·exact(k1.dis _ _ (by simp) b o hf (hFx b o hb)).elim
     ·refine Classical.byContradiction fun hne=>?_
      exact k1.dis (.cell r' k') (.cell r c) (by simpa using hne) b o hf (h b o hb)
  obtain⟨q9,hargs⟩:=fO k1 hN hvb (Cs h7) h7 hp3 k3 hvb hReads
  subst q9
  refine Calls.mono ((hF _ _ _ _ hfn) w X0c F1' W xs hargs (fun b o h h'=>h'.elim h.2.2.1 h.2.2.2) hFW (fun b o h=>k1.ex b o (hN b o h))) ?_
  rintro e w' ⟨x,Fr,Fo,rfl,hfr,hq1,hq2,hdro,hres,houts⟩
  let Nc:Fp:=fun b o=>own = true∨Fp.or X0c (Fp.or (Fp.or Fr Fo) W) b o
  have hci:own = false∨IP res outs = false:=by
   cases own with
   |false=>exact .inl rfl
   |true=>right;simpa using himm
  have houts':OutsR w' Nc as xs outs Fo:=houts.chg (hci.imp (fun h b o hn=>hn.resolve_left (by rw[h];simp)) (fun h=>by simp only[IP,Bool.or_eq_false_iff]at h;exact h.2))
  have hres':ResR w' Nc as xs res x Fr:=hres.chg (hci.imp (fun h b o hn=>hn.resolve_left (by rw[h];simp)) (fun h=>by simp only[IP,Bool.or_eq_false_iff]at h;exact h.1))
  obtain⟨b0,o0,olds,news,Fq,Fbo,w1,w2,w3,w4,w5,w6,w7,w8⟩:=QY hargs houts'
  -- the world with the cells that are pointed to as they were
  have hWb:∀ b o,W b o→b < w.heap.size:=fun b o h=>by obtain⟨i,_,_,i2⟩:=hWt b o h;exact k1.ex b o ⟨i,i2⟩
  have hreg:∀ {j:Nat},j < olds.length→W b0 (o0+j):=fun hj=>by rw[w1];exact⟨rfl,by omega,by omega⟩
  have hsome:∀ j,j < olds.length→(w'.cell? ⟨b0,o0+j,none⟩).isSome = true:=fun j hj=>by
   rw[(w3 j _ (List.getElem?_eq_getElem (by omega))).1];rfl
  have hout:∀ b o,¬W b o→Same w' (w'.setCells b0 o0 olds) b o:=fun b o hn=>⟨World.cell?_setCells_out b0 olds o0 w' ⟨b,o,none⟩ (fun e1 _=>by
   simp only at e1
   subst e1
   refine Classical.byContradiction fun hc=>hn ?_
   have hc':¬(o < o0∨o0+olds.length≤o):=hc
   rw[w1];exact⟨rfl,by omega,by omega⟩),World.frozen?_setCells b0 olds o0 w' _⟩
  have hsame:∀ b o,b < w.heap.size→¬F1' b o→Same w (w'.setCells b0 o0 olds) b o:=fun b o hb hn=>by
   by_cases hW:W b o
   ·have hW':=hW
    rw[w1]at hW'
    obtain⟨rfl,h1,h2⟩:=hW'
    have hj:o = o0+ (o - o0):=by omega
    have hlt:o - o0 < olds.length:=by omega
    rw[hj]
    refine⟨?_,?_⟩
    ·rw[World.cell?_setCells_in b olds o0 w' hsome _ hlt,(w2 _ _ (List.getElem?_eq_getElem hlt)).1]
    ·rw[World.frozen?_setCells,(w3 _ _ (List.getElem?_eq_getElem (by omega))).2,(w2 _ _ (List.getElem?_eq_getElem hlt)).2]
   ·have hc:=hfr.cell b o hb (fun h=>h.elim hn hW)
    have ho:=hout b o hW
    exact⟨ho.1.trans hc.1,ho.2.trans hc.2⟩
  obtain⟨m1,m2,m3,m4⟩:=fw b0 olds o0 w'
  have hFo1:∀ b o,Fbo b o∨Fq b o→F1' b o∨(w.heap.size≤b∧b < w'.heap.size):=fun b o h=>(hq1 b o (.inr (w6 b o h))).imp id fun h'=>⟨h',hq2 b o (.inr (w6 b o h))⟩
  obtain⟨R3,t1,t2,t3,t4⟩:=k1.extW k2 (w'.setCells b0 o0 olds) (m2.trans hfr.os) (m3.trans hfr.tape) (m4.trans hfr.output) (by rw[m1];exact hfr.size) hsame hWt
   (fun b hb hn1 hn2=>by
    have hne:∀ j,j < olds.length→b≠b0:=fun j hj e=>hn2 _ (e ▸ hreg hj)
    by_cases h0:olds = []
    ·subst h0;exact hfr.block b hb fun o h=>h.elim (hn1 o) (hn2 o)
    ·rw[kn _ _ _ _ (hne 0 (List.length_pos_iff.2 h0))]
     exact hfr.block b hb fun o h=>h.elim (hn1 o) (hn2 o)) (Fq:=Fp.or Fr (Fp.or Fq Fbo)) (fun b o h=>by
    rcases h with h|h
    ·exact(hq1 b o (.inl h)).imp id fun h'=>⟨h',by rw[m1];exact hq2 b o (.inl h)⟩
    ·exact(hFo1 b o h.symm).imp id fun h'=>⟨h'.1,by rw[m1];exact h'.2⟩)
  generalize hF3:du Fb .x (Fp.or g.X0 (Fp.or X (Fp.or Fr (Fp.or Fq Fbo)))) = F3 at R3 t1 t3 t4
  have hN3:∀ b o,tot F3 b o→Nc b o:=by
   rintro b o ⟨i,hi⟩
   cases hownc:own with
   |true=>exact .inl hownc
   |false =>
    refine .inr ?_
    have mk:tot Fb b o→¬F1' b o→Fp.or X0c (Fp.or (Fp.or Fr Fo) W) b o:=fun h1 h2=>by
     by_cases hW:W b o
     ·exact .inr (.inr hW)
     ·exact .inl ⟨hownc,h1,h2,hW⟩
    rw[←hF3]at hi
    by_cases hix:i = .x
    ·subst hix
     rw[aD]at hi
     rcases hi with hi|hi|hi|hi|hi
     ·exact mk ⟨.x,by rw[k1.fx];exact .inl hi⟩ (fun h=>k2 b o (.inl hi) h)
     ·exact mk ⟨.x,by rw[k1.fx];exact .inr (.inl hi)⟩ (fun h=>k2 b o (.inr hi) h)
     ·exact .inr (.inl (.inl hi))
     ·exact .inr (.inl (.inr (w6 b o (.inr hi))))
     ·exact .inr (.inl (.inr (w6 b o (.inl hi))))
    ·rw[az _ _ hix]at hi
     exact mk ⟨i,hi⟩ (fun h=>k1.dis i .x hix b o hi (hFx b o h))
  have toW1:∀ {cs:List V} {ys:List Value} {G:Fp},(∀ b o,G b o→Fbo b o∨Fq b o)→Held w' Nc cs ys G→Held (w'.setCells b0 o0 olds) (tot F3) cs ys G:=fun hG hh=>hh.mono
   (fun ob h=>h.frame fun b o v hn hv=>by
    by_cases hownc:own = true
    ·exact absurd (.inl hownc) hn
    ·refine⟨?_,fun h'=>hn (hN3 b o h')⟩
     rw[(hout b o (fun h=>hn (.inr (.inr (.inr h))))).1];exact hv)
   (fun ob G' hG' hr h=>h.frame fun b o hbo=>by
    rcases hbo with hbo|hbo
    ·refine hout b o fun hW=>?_
     rcases hFo1 b o (hG b o (hG' b o hbo))with h|h
     ·exact hFW b o h hW
     ·have:=hWb b o hW;omega
    ·exact(hr b o hbo).elim)
  simp only[Zt]at h11
  split at h11
  ·cases h11
  ·rename_i bs ds hbl
   obtain⟨⟨a6,p6⟩,s6,h13,h14⟩:=Cmd.abt h11
   obtain⟨⟨a7,p7⟩,s7,h15,h16⟩:=Cmd.abt h14
   obtain⟨v'',s8,h17,h18⟩:=Cmd.abt h16
   obtain⟨q10,q11⟩:=af h18
   simp only[Prod.mk.injEq]at q10
   obtain⟨q12,_,q13⟩:=q10
   subst q11;subst q12;subst q13
   have hv1:=pW (fun v _ x hr=>t4 v x hr) hvb
   obtain⟨zs,z1,z2⟩:=w8 hbl hv1
   rw[←Fp.or_assoc,←Fp.or_assoc]at R3
   obtain⟨F4,R4,n1,r1⟩:=EC R3 (fun b o h h'=>by
    rcases h with h|(h|h)|h
    ·exact t2 b o (.inl h) (.inr (.inr h'))
    ·exact t2 b o (.inr h) (.inr (.inr h'))
    ·exact hdro b o h (w6 b o (.inl h'))
    ·exact w7 b o h' h) h13 hp5.1 z1 (toW1 (fun _ _ h=>.inl h) z2)
   have w5':PtrR (w'.setCells b0 o0 olds) (tot F4) as xs outs Fq b0 o0 news:=w5.imp fun cs hh=>(toW1 (fun _ _ h=>.inr h) hh).sub n1
   obtain⟨F5,R5,n2,r2⟩:=Fl R4 (fun b o h h'=>by
    rcases h with h|h|h
    ·exact t2 b o (.inl h) (.inr (.inl h'))
    ·exact t2 b o (.inr h) (.inr (.inl h'))
    ·exact hdro b o h (w6 b o (.inr h'))) h15 hp5.2 (fun j p hj=>by
     obtain⟨b,o,h1,h2⟩:=Uw hv1 j p hj
     exact⟨b,o,h1.rn r1,h2⟩) w5'
   rw[Db w3 w4]at R5
   obtain⟨base',F6,R6,hr6⟩:=D1 R5 (fun b o h h'=>t2 b o h (.inl h')) hdn h17 (hres'.chg (.inl fun b o h=>hN3 b o (n1 b o (n2 b o h)))) (fun j r o' hj=>by
    obtain⟨b,o,⟨o1,hb,rfl⟩,hx⟩:=Uw hvb j _ hj
    exact⟨b,o1,hb,hx⟩)
   exact⟨x,base',F6,rfl,R6,hr6⟩
 ·cases h8
end Go.Tm
namespace Go.Tm
variable {g:G} {X:Fp} {st st':St} {a:Act} {w:World} {base:Nat→Base} {mb:Nat→Nat} {F:Ix→Fp} {N:Fp} {P:Program}
def dK:A→List V
 |.val v=>cellsOf v
 |.bor v=>cellsOf v
 |.ptr cs=>cs
 |.rel _ _ _=>[]
def rl(d:Nat):Nat→List V→List V
 |_,[]=>[]
 |o,.own _ _ :: cs=>.al d o :: rl d (o+1) cs
 |o,c :: cs=>c :: rl d (o+1) cs
def alV(d:Nat)(v:V):V:=match v with
 |.agg cs=>.agg (rl d 0 cs)
 |v=>sC d 0 v
def MS(nt:Nat)(as:List A)(i:Nat):V :=
 match as[i]? with
 |some (.val v)=>sC (nt+i) 0 v
 |some (.bor v)=>alV (nt+i) v
 |some (.ptr _)=>.ptr ⟨nt+i,none,0⟩
 |some (.rel j st off)=>.ptr ⟨nt+j,st,off⟩
 |none=>.undef
def uI(nt:Nat)(as:List A)(r:Nat):Option Nat:=match Nat.ble nt r with|true=>(as[r - nt]?).map fun a=>(dK a).length|false=>none
def gA(nt:Nat):Nat→List A→St→St
 |_,[],st=>st
 |i,a :: as,st=>gA nt (i+1) as (st.fills (nt+i) 0 (dK a))
def bare(nt:Nat)(as:List A):St:={sl:=fun _=>.undef,rc:=fun _ _=>.undef,rn:=uI nt as,mp:=fun _=>none}
def ini(nt:Nat)(as:List A):St:={gA nt 0 as (bare nt as)with sl:=MS nt as}
def zY:V→Value→List Value
 |.agg _,x=>x.cells.toList
 |_,x=>[x]
theorem VR.eq{v:V}{x:Value}{ys:List Value}(h:VR v x ys):ys = zY v x:=by
 cases v with
 |agg cs=>simp only[VR]at h;subst h;simp[zY,Value.cells]
 |_=>exact h
def gh:Option A→Option Value→Base
 |some (.val v),some x=>.tmp (zY v x)
 |some (.bor v),some x=>.par (zY v x)
 |some (.ptr _),some (.pointer (some ad))=>.mem ad.block ad.off
 |_,_=>.tmp []
def gW(nt:Nat)(as:List A)(xs:List Value)(r:Nat):Base:=match Nat.ble nt r with|true=>gh as[r - nt]? xs[r - nt]?|false=>.tmp []
theorem HP{as0:List A}{xs0:List Value}{as:List A}{xs:List Value}{F1 W:Fp}(h:ArgsR w N as0 xs0 as xs F1 W):as.length = xs.length:=by
 induction h with
 |nil=>rfl
 |val _ _ _ _ ih=>simp[ih]
 |bor _ _ _ _ ih=>simp[ih]
 |ptr _ _ _ _ ih=>simp[ih]
 |rel _ _ _ _ ih=>simp[ih]
theorem Rel.bare{nt:Nat}{as:List A}{X0 F1 N0:Fp}{b0:Nat→Base}{H:Nat→Fp}{tmps:Array Value}(hnt:tmps.size = nt)
 (hH:∀ r,j6 w (b0 r) (uI nt as r) (H r)) (hd1:∀ r b o,H r b o→¬X0 b o∧¬F1 b o) (hd2:∀ r r',r≠r'→Fp.dis (H r) (H r')) (hN:∀ b o,F1 b o∨(∃ r,H r b o)→N0 b o) (hex:∀ b o,X0 b o∨N0 b o→b < w.heap.size) (hnp:∀ r,r < nt→∀ vs,b0 r≠.par vs) :
 Rel ⟨P,w,N0,X0,nt,b0⟩ (Fp.or Fp.none F1) (Tm.bare nt as) ⟨tmps,[]⟩ w b0 (fun _=>0) (fun|.x=>Fp.or X0 (Fp.or Fp.none F1)|.hdr r=>H r|_=>Fp.none):=by
 have ht:∀ b o,tot (fun|.x=>Fp.or X0 (Fp.or Fp.none F1)|.hdr r=>H r|_=>Fp.none) b o→X0 b o∨N0 b o:=by
  rintro b o ⟨i,hi⟩
  cases i with
  |cell r c=>exact hi.elim
  |map m=>exact hi.elim
  |hdr r=>exact .inr (hN b o (.inr ⟨r,hi⟩))
  |x =>
   rcases hi with h|h|h
   ·exact .inl h
   ·exact h.elim
   ·exact .inr (hN b o (.inl h))
 refine{nt:=hnt,par:=fun _ _=>rfl,df:=rfl,fx:=rfl,cell:=fun r c=>?_,hdr:=fun r=>hH r,map:=fun m=>?_,dis:=?_,fresh:=fun b o h=>(ht b o h).imp id .inl,ex:=fun b o h=>hex b o (ht b o h),live:=fun _ _ _=>rfl,slots:=fun i=>?_,frame:=⟨rfl,rfl,rfl,Nat.le_refl _,fun _ _ _ _=>⟨rfl,rfl⟩,fun _ _ _=>rfl⟩,npar:=hnp,al:=fun _ _=>trivial}
 ·exact fun _ _ h=>h
 ·exact fun _ _ h=>h
 ·intro i j hij b o hi hj
  cases i with
  |cell r c=>exact hi.elim
  |map m=>exact hi.elim
  |hdr r =>
   cases j with
   |cell r c=>exact hj.elim
   |map m=>exact hj.elim
   |hdr r'=>exact hd2 r r' (fun e=>hij (by rw[e])) b o hi hj
   |x=>rcases hj with h|h|h;· exact(hd1 r b o hi).1 h
       ·exact h.elim
       ·exact(hd1 r b o hi).2 h
  |x =>
   cases j with
   |cell r c=>exact hj.elim
   |map m=>exact hj.elim
   |hdr r=>rcases hi with h|h|h;· exact(hd1 r b o hj).1 h
           ·exact h.elim
           ·exact(hd1 r b o hj).2 h
   |x=>exact hij rfl
 ·simp only[Tm.bare,RepS]
theorem pe(d:Nat):∀ (cs:List V) (o:Nat) (st:St) (r c:Nat),r≠d→(st.fills d o cs).rc r c = st.rc r c
 |[],_,_,_,_,_=>rfl
 |x :: cs,o,st,r,c,h=>by
  simp only[St.fills]
  rw[pe d cs (o+1) _ r c h]
  simp only[Wr.ap]
  rw[aV _ _ (fun e=>h e.1)]
theorem CS(d:Nat):∀ (cs:List V) (o:Nat) (st:St),(st.fills d o cs).sl = st.sl
 |[],_,_=>rfl
 |_ :: cs,o,st=>by simp only[St.fills];rw[CS d cs];rfl
theorem K8(nt:Nat):∀ (as:List A) (i:Nat) (st:St),(gA nt i as st).rn = st.rn
 |[],_,_=>rfl
 |_ :: as,i,st=>by simp only[gA];rw[K8 nt as,pD]
theorem tU(nt:Nat):∀ (as:List A) (i:Nat) (st:St) (r c:Nat),r < nt+i→(gA nt i as st).rc r c = st.rc r c
 |[],_,_,_,_,_=>rfl
 |a :: as,i,st,r,c,h=>by simp only[gA];rw[tU nt as (i+1) _ r c (by omega),pe _ _ _ _ _ _ (by omega)]
theorem K9(nt:Nat):∀ (as:List A) (i j:Nat) (st:St) (a:A) (c:Nat) (v:V),as[j]? = some a→(dK a)[c]? = some v→(gA nt i as st).rc (nt+ (i+j)) c = v
 |[],_,_,_,_,_,_,h,_=>by simp at h
 |a :: as,i,0,st,a',c,v,h,hc=>by
  simp only[List.getElem?_cons_zero,Option.some.injEq]at h
  subst h
  simp only[gA,Nat.add_zero]
  rw[tU nt as (i+1) _ _ c (by omega)]
  have:=CT (nt+i) (dK a) 0 c st v hc
  rwa [Nat.zero_add]at this
 |a :: as,i,j+1,st,a',c,v,h,hc=>by
  simp only[gA]
  have:=K9 nt as (i+1) j (st.fills (nt+i) 0 (dK a)) a' c v (by simpa using h) hc
  rwa [show i+1+j = i+ (j+1) by omega]at this
def NoSlots(st:St):Prop:=∀ i,st.sl i = .undef
theorem NoSlots.clean{st:St}(h:NoSlots st)(d:Nat):I6 d st:=fun i=>by rw[h i];simp[V.all]
theorem Gq{nt:Nat}{as0:List A}{xs0:List Value}:∀ {as:List A} {xs:List Value} {F1 W X:Fp} {F:Ix→Fp} {st:St} {i:Nat},ArgsR w N as0 xs0 as xs F1 W→Rel g (Fp.or X F1) st a w base mb F→Fp.dis (Fp.or g.X0 X) F1→(∀ b o,tot F b o→N b o)→
 (∀ j:Nat,j < as.length→base (nt+ (i+j)) = gh as[j]? xs[j]?)→(∀ (j:Nat) (a:A),as[j]? = some a→st.rn (nt+ (i+j)) = some (dK a).length)→(∀ j c,st.rc (nt+ (i+j)) c = .undef)→NoSlots st→
 ∃ F',Rel g X (gA nt i as st) a w base mb F'∧∀ b o,tot F' b o→tot F b o
 |[],xs,F1,W,X,F,st,i,h,R,hX,hN,hb,hr,hu,hs=>by
  cases h
  rw[Fp.or_none]at R
  exact⟨F,R,fun _ _ h=>h⟩
 |y :: as,xs,F1,W,X,F,st,i,h,R,hX,hN,hb,hr,hu,hs=>by
  have go:∀ {x:Value} {xs1 ys:List Value} {Fa Fb W':Fp},xs = x :: xs1→F1 = Fp.or Fa Fb→Held w N (dK y) ys Fa→ArgsR w N as0 xs0 as xs1 Fb W'→Fp.dis Fa Fb→(∀ j:Nat,j < (dK y).length→hd w base (nt+i) (0+j) = ys[j]?)→
   ∃ F',Rel g X (gA nt i (y :: as) st) a w base mb F'∧∀ b o,tot F' b o→tot F b o:=by
   rintro x xs1 ys Fa Fb W' rfl rfl hh ht hd1 hhd
   rw[Fp.swap]at R
   have hrn:=hr 0 y rfl
   simp only[Nat.add_zero]at hrn
   obtain⟨F',R',hcl,hsub⟩:=Rel.fills (d:=nt+i) (n:=(dK y).length) (o:=0) R (Fp.abF hX hd1) (hh.sub hN) hrn (by omega) (fun j _=>by have:=hu 0 (0+j);simpa using this) (hs.clean _) hhd
   obtain⟨F'',R'',hsub2⟩:=Gq (i:=i+1) ht R' (fun b o h h'=>hX b o h (.inr h')) (fun b o h=>hN b o (hsub b o h))
    (fun j hj=>by have:=hb (j+1) (by simp;omega);rw[show i+ (j+1) = i+1+j by omega]at this;simpa using this)
    (fun j a' hj=>by rw[pD];have:=hr (j+1) a' (by simpa using hj);rwa [show i+ (j+1) = i+1+j by omega]at this)
    (fun j c=>by
     rw[pe _ _ _ _ _ _ (by omega)]
     have:=hu (j+1) c
     rwa [show i+ (j+1) = i+1+j by omega]at this) (fun k=>by rw[CS];exact hs k)
   exact⟨F'',R'',fun b o h=>hsub b o (hsub2 b o h)⟩
  have hb0:=hb 0 (by simp)
  simp only[Nat.add_zero,List.getElem?_cons_zero]at hb0
  cases h with
  |val h1 hh ht hd1 =>
   refine go rfl rfl hh ht hd1 fun j hj=>?_
   simp only[hd,hb0,List.getElem?_cons_zero,gh,Nat.zero_add,h1.eq]
  |bor h1 hh ht hd1 =>
   refine go rfl rfl hh ht hd1 fun j hj=>?_
   simp only[hd,hb0,List.getElem?_cons_zero,gh,Nat.zero_add,h1.eq]
  |@ptr cs b o ys Fa _ _ Fb hh hc ht hd1 =>
   refine go rfl rfl hh ht hd1 fun j hj=>?_
   simp only[hd,hb0,List.getElem?_cons_zero,gh,Nat.zero_add]
   have hl:=hh.length
   have hj':j < ys.length:=by rw[←hl];exact hj
   rw[List.getElem?_eq_getElem hj']
   exact(hc j _ (List.getElem?_eq_getElem hj')).1
  |rel h1 h2 h3 ht =>
   refine go (Fa:=Fp.none) rfl (Fp.none_or _).symm .nil ht (fun _ _ h=>h.elim) fun j hj=>?_
   simp[dK]at hj
theorem pI{as0:List A}{xs0:List Value}{as:List A}{xs:List Value}{F1 W:Fp}(h:ArgsR w N as0 xs0 as xs F1 W):∀ (j:Nat) (y:A),as[j]? = some y→∃ x,xs[j]? = some x∧
 match y with
 |.val v=>∃ ys G,VR v x ys∧Held w N (cellsOf v) ys G
 |.bor v=>∃ ys G,VR v x ys∧Held w N (cellsOf v) ys G
 |.ptr cs=>∃ b o ys,x = .pointer (some ⟨b,o,none⟩)∧CellsAt w b o ys∧cs.length = ys.length∧∀ p q,region b o cs.length p q→W p q
 |.rel k st off=>∃ cs b o,as0[k]? = some (.ptr cs)∧xs0[k]? = some (.pointer (some ⟨b,o,none⟩))∧I3 w b o cs.length st off x:=by
 induction h with
 |nil=>intro j y hj;simp at hj
 |val h1 hh ht hd1 ih =>
  intro j y hj
  cases j with
  |zero=>simp at hj;subst hj;exact⟨_,rfl,_,_,h1,hh⟩
  |succ j=>exact ih j y (by simpa using hj)
 |bor h1 hh ht hd1 ih =>
  intro j y hj
  cases j with
  |zero=>simp at hj;subst hj;exact⟨_,rfl,_,_,h1,hh⟩
  |succ j=>exact ih j y (by simpa using hj)
 |ptr hh hc ht hd1 ih =>
  intro j y hj
  cases j with
  |zero=>simp at hj;subst hj;exact⟨_,rfl,_,_,_,rfl,hc,hh.length,fun _ _ h=>h⟩
  |succ j =>
   obtain⟨x,e1,e2⟩:=ih j y (by simpa using hj)
   refine⟨x,by simpa using e1,?_⟩
   cases y with
   |ptr cs=>obtain⟨b,o,ys,k1,k2,k3,k4⟩:=e2;exact⟨b,o,ys,k1,k2,k3,fun p q h=>(k4 p q h).elim⟩
   |_=>exact e2
 |rel h1 h2 h3 ht ih =>
  intro j y hj
  cases j with
  |zero=>simp at hj;subst hj;exact⟨_,rfl,_,_,_,h1,h2,h3⟩
  |succ j=>exact ih j y (by simpa using hj)
end Go.Tm
namespace Go.Tm
variable {g:G} {X:Fp} {st st':St} {a:Act} {w:World} {base:Nat→Base} {mb:Nat→Nat} {F:Ix→Fp} {N:Fp} {P:Program}
def zU(H0:Fp)(H:Nat→Fp):Nat→Fp
 |0=>H0
 |j+1=>H j
theorem Q0{as0:List A}{xs0:List Value}{as:List A}{xs:List Value}{F1 W:Fp}(h:ArgsR w N as0 xs0 as xs F1 W) :
 ∃ H:Nat→Fp,(∀ j:Nat,j6 w (gh as[j]? xs[j]?) ((as[j]?).map fun a=>(dK a).length) (H j))∧(∀ j b o,H j b o→W b o)∧∀ j j',j≠j'→Fp.dis (H j) (H j'):=by
 have sh:∀ {y:A} {x:Value} {as:List A} {xs:List Value} {W:Fp},(∃ vs,gh (some y) (some x) = .tmp vs∨gh (some y) (some x) = .par vs)→(∃ H:Nat→Fp,(∀ j:Nat,j6 w (gh as[j]? xs[j]?) ((as[j]?).map fun a=>(dK a).length) (H j))∧(∀ j b o,H j b o→W b o)∧∀ j j',j≠j'→Fp.dis (H j) (H j'))→
  ∃ H:Nat→Fp,(∀ j:Nat,j6 w (gh (y :: as)[j]? (x :: xs)[j]?) (((y :: as)[j]?).map fun a=>(dK a).length) (H j))∧(∀ j b o,H j b o→W b o)∧∀ j j',j≠j'→Fp.dis (H j) (H j'):=by
  rintro y x as xs W ⟨vs,hv⟩ ⟨H,h1,h2,h3⟩
  refine⟨zU Fp.none H,fun j=>?_,fun j b o h=>?_,fun j j' hne b o h h'=>?_⟩
  ·cases j with
   |zero=>rcases hv with hv|hv <;> (simp only[List.getElem?_cons_zero,hv,zU,j6];exact fun _ _ h=>h)
   |succ j=>simpa [zU]using h1 j
  ·cases j with
   |zero=>exact h.elim
   |succ j=>exact h2 j b o h
  ·cases j with
   |zero=>exact h.elim
   |succ j=>cases j' with
    |zero=>exact h'.elim
    |succ j'=>exact h3 j j' (by omega) b o h h'
 induction h with
 |nil=>exact⟨fun _=>Fp.none,fun j=>by simp only[List.getElem?_nil,gh,j6];exact fun _ _ h=>h,fun _ _ _ h=>h.elim,fun _ _ _ _ _ h=>h.elim⟩
 |val h1 hh ht hd1 ih=>exact sh ⟨_,.inl rfl⟩ ih
 |bor h1 hh ht hd1 ih=>exact sh ⟨_,.inr rfl⟩ ih
 |rel h1 h2 h3 ht ih=>exact sh ⟨_,.inl rfl⟩ ih
 |@ptr cs b o ys Fa as xs Fb hh hc ht hd1 ih =>
  obtain⟨H,h1,h2,h3⟩:=ih
  refine⟨zU (region b o cs.length) H,fun j=>?_,fun j p q h=>?_,fun j j' hne p q h h'=>?_⟩
  ·cases j with
   |zero =>
    simp only[List.getElem?_cons_zero,gh,zU,j6,Option.map_some,dK]
    refine⟨trivial,fun c hcl=>?_⟩
    have:=hc c _ (List.getElem?_eq_getElem (by rw[←hh.length];exact hcl))
    rw[this.1];exact⟨rfl,this.2⟩
   |succ j=>simpa [zU]using h1 j
  ·cases j with
   |zero=>exact h
   |succ j=>exact(h2 j p q h).elim
  ·cases j with
   |zero=>cases j' with
    |zero=>exact hne rfl
    |succ j'=>exact h2 j' p q h'
   |succ j=>exact h2 j p q h
theorem fV{nt:Nat}{as:List A}{xs:List Value}(j:Nat):gW nt as xs (nt+j) = gh as[j]? xs[j]?:=by
 have:Nat.ble nt (nt+j) = true:=by rw[Nat.ble_eq];omega
 simp only[gW,this,Nat.add_sub_cancel_left]
theorem CP{nt:Nat}{as:List A}(j:Nat):uI nt as (nt+j) = (as[j]?).map fun a=>(dK a).length:=by
 have:Nat.ble nt (nt+j) = true:=by rw[Nat.ble_eq];omega
 simp only[uI,this,Nat.add_sub_cancel_left]
theorem l9{N:Fp}{d:Nat}(hb:∃ vs,base d = .par vs):∀ {cs:List V} {ys:List Value} {o:Nat},RepSs w N base mb st (bR d o cs) ys→RepSs w N base mb st (rl d o cs) ys
 |[],_,_,h=>h
 |c :: cs,[],_,h=>by cases c <;> simp only[bR,RepSs]at h
 |c :: cs,y :: ys,o,h=>by
  cases c with
  |own k xs =>
   simp only[bR,rl,RepSs]at h ⊢
   exact⟨by simp only[RepS]at h ⊢;exact⟨hb,h.1⟩,l9 hb h.2⟩
  |_=>simp only[bR,rl,RepSs]at h ⊢;exact⟨h.1,l9 hb h.2⟩
theorem Q3{N:Fp}{d:Nat}{v:V}{x:Value}(hb:∃ vs,base d = .par vs)(h:RepS w N base mb st (sC d 0 v) x):RepS w N base mb st (alV d v) x:=by
 cases v with
 |agg cs =>
  simp only[sC,oG,cellsOf,RepS]at h
  obtain⟨ys,h1,h2⟩:=h
  simp only[alV,RepS]
  exact⟨ys,h1,l9 hb h2⟩
 |_=>exact h
theorem Rel.slots'(R:Rel g X st a w base mb F){sl:Nat→V}(hs:∀ i,RepS w (tot F) base mb st (sl i) (a.tmps.getD i Go.undef)):Rel g X {st with sl:=sl} a w base mb F :=
 {nt:=R.nt,par:=R.par,df:=R.df,fx:=R.fx,cell:=R.cell,hdr:=R.hdr,map:=R.map,dis:=R.dis,fresh:=R.fresh,ex:=R.ex,live:=R.live,frame:=R.frame,npar:=R.npar,al:=R.al,
  slots:=fun i=>RepS.rc (st:=st) _ _ rfl (fun r c k xs h=>⟨xs,h,rfl⟩) (hs i)}
def Hof(nt:Nat)(H:Nat→Fp)(r:Nat):Fp:=fun b o=>nt≤r∧H (r - nt) b o
theorem Je{nt:Nat}{as:List A}{xs:List Value}{X0 F1 W:Fp}(h:ArgsR w (Fp.or X0 (Fp.or F1 W)) as xs as xs F1 W)(hnt:as.length≤nt)(hcl:∀ a∈as,∀ c∈dK a,bQ c = true∨∃ cs,a = .ptr cs)(h1:Fp.dis X0 (Fp.or F1 W))(h2:Fp.dis F1 W)(hex:∀ b o,X0 b o∨F1 b o∨W b o→b < w.heap.size) :
 ∃ F,Rel ⟨P,w,Fp.or F1 W,X0,nt,gW nt as xs⟩ Fp.none (ini nt as) ⟨xs.toArray++Array.replicate (nt - xs.toArray.size) Go.undef,[]⟩ w (gW nt as xs) (fun _=>0) F:=by
 have hl:=HP h
 obtain⟨H,k1,k2,k3⟩:=Q0 h
 have R0:=Rel.bare (P:=P) (w:=w) (nt:=nt) (as:=as) (X0:=X0) (F1:=F1) (N0:=Fp.or F1 W) (b0:=gW nt as xs) (H:=Hof nt H) (tmps:=xs.toArray++Array.replicate (nt - xs.toArray.size) Go.undef)
  (by simp;omega) (fun r=>by
   cases hb:Nat.ble nt r with
   |true =>
    have:=k1 (r - nt)
    have hle:=Nat.le_of_ble_eq_true hb
    have he:Hof nt H r = H (r - nt):=Fp.ext fun b o=>⟨fun h=>h.2,fun h=>⟨hle,h⟩⟩
    simp only[gW,uI,hb,he];exact this
   |false =>
    simp only[gW,hb,j6]
    intro b o h
    have:Nat.ble nt r = true:=by rw[Nat.ble_eq];exact h.1
    rw[hb]at this;cases this)
  (fun r b o hr=>⟨fun h=>h1 b o h (.inr (k2 _ b o hr.2)),fun h=>h2 b o h (k2 _ b o hr.2)⟩)
  (fun r r' hne b o hr hr'=>k3 (r - nt) (r' - nt) (by have:=hr.1;have:=hr'.1;omega) b o hr.2 hr'.2)
  (fun b o hb=>by
   rcases hb with hb|⟨r,hb⟩
   ·exact .inl hb
   ·exact .inr (k2 _ b o hb.2))
  (fun b o hb=>hex b o hb)
  (fun r hr vs=>by
   have:Nat.ble nt r = false:=by
    cases hb:Nat.ble nt r with
    |true=>exact absurd (Nat.le_of_ble_eq_true hb) (by omega)
    |false=>rfl
   simp only[gW,this];intro h;cases h)
 obtain⟨F',R',hsub⟩:=Gq (nt:=nt) (i:=0) h R0 (fun b o h h'=>by
  rcases h with h|h
  ·exact h1 b o h (.inl h')
  ·exact h) (fun b o hb=>by
  obtain⟨i,hi⟩:=hb
  cases i with
  |cell r c=>exact hi.elim
  |map m=>exact hi.elim
  |hdr r =>
   exact .inr (.inr (k2 _ b o hi.2))
  |x =>
   rcases hi with hi|hi|hi
   ·exact .inl hi
   ·exact hi.elim
   ·exact .inr (.inl hi)) (fun j _=>by rw[Nat.zero_add];exact fV j) (fun j a' hj=>by
  rw[Nat.zero_add]
  show uI nt as (nt+j) = _
  rw[CP,hj];rfl) (fun _ _=>rfl) (fun _=>rfl)
 refine⟨F',R'.slots' fun i=>?_⟩
 have hrn:(gA nt 0 as (bare nt as)).rn = uI nt as:=by rw[K8];rfl
 unfold MS
 have inst:∀ {v:V} {x:Value} {y:A},as[i]? = some y→xs[i]? = some x→dK y = cellsOf v→(gh (some y) (some x) = .tmp (zY v x)∨gh (some y) (some x) = .par (zY v x))→(∀ c∈dK y,bQ c = true)→(∃ ys G,VR v x ys∧Held w (Fp.or X0 (Fp.or F1 W)) (cellsOf v) ys G)→
  RepS w (tot F') (gW nt as xs) (fun _=>0) (gA nt 0 as (bare nt as)) (sC (nt+i) 0 v) x:=by
  rintro v x y hy hx hc hb hcl ⟨ys,G,hv,hh⟩
  refine o7 hv (jr R' (n:=(dK y).length) (by rw[hrn,CP,hy];rfl) (fun j c hj=>?_) (fun j z hj=>?_) hh.length (fun c hc'=>hcl c (by rw[hc];exact hc')) (by rw[hc];omega))
  ·have:=K9 nt as 0 i (bare nt as) y j c hy (by rw[hc];exact hj)
   rwa [Nat.zero_add]at this ⊢
  ·rw[Nat.zero_add]
   rcases hb with hb|hb <;> (simp only[hd,fV,hy,hx,hb,←hv.eq];exact hj)
 have hget:∀ {x:Value},xs[i]? = some x→(xs.toArray++Array.replicate (nt - xs.toArray.size) Go.undef).getD i Go.undef = x:=fun hx=>by
  have:=(List.getElem?_eq_some_iff.1 hx).1
  rw[Array.getD_eq_getD_getElem?,Array.getElem?_append_left (by simpa using this)]
  simp[hx]
 split
 ·rename_i v hv
  obtain⟨x,hx,hr⟩:=pI h i _ hv
  rw[hget hx]
  exact inst hv hx rfl (.inl rfl) (fun c hc=>(hcl _ (List.mem_of_getElem? hv) c hc).resolve_right (by rintro⟨cs,hcs⟩;cases hcs)) hr
 ·rename_i v hv
  obtain⟨x,hx,hr⟩:=pI h i _ hv
  rw[hget hx]
  have h0:=inst hv hx rfl (.inr rfl) (fun c hc=>(hcl _ (List.mem_of_getElem? hv) c hc).resolve_right (by rintro⟨cs,hcs⟩;cases hcs)) hr
  exact Q3 ⟨_,by rw[fV,hv,hx];rfl⟩ h0
 ·rename_i cs hv
  obtain⟨x,hx,b,o,ys,rfl,_⟩:=pI h i _ hv
  rw[hget hx]
  simp only[RepS]
  exact⟨b,o,⟨o,by rw[fV,hv,hx];rfl,rfl⟩,rfl⟩
 ·rename_i j s off hv
  obtain⟨x,hx,cs,b,o,e1,e2,e3⟩:=pI h i _ hv
  rw[hget hx]
  simp only[RepS]
  cases s with
  |none =>
   simp only[I3]at e3
   exact⟨b,o+off,⟨o,by rw[fV,e1,e2];rfl,rfl⟩,e3⟩
  |some s =>
   obtain⟨c,k,s⟩:=s
   obtain⟨hc,b2,o2,len,cap,e4,e5⟩:=e3
   refine⟨b2,_,⟨⟨cs.length,by rw[hrn,CP,e1];rfl,hc⟩,o2,len,cap,?_,rfl⟩,e5⟩
   simp only[hd,fV,e1,e2,gh]
   exact e4
 ·simp only[RepS]
end Go.Tm
namespace Go.Tm
variable {g:G} {X:Fp} {st st':St} {a:Act} {w:World} {base:Nat→Base} {mb:Nat→Nat} {F:Ix→Fp} {N:Fp} {P:Program}
abbrev Rs:=Nat×TypeId×Bool
noncomputable def MC(E:Env):Rs→Cmd (V×Prop)
 |(t,_,false)=>.sl t fun v=>.ret (v,True)
 |(t,ty,true)=>.sl t fun v=>eb E ty fun ty=>(IH ty v []).bind fun(v,_,p)=>.ret (v,p)
noncomputable def XY(E:Env):List Rs→List Ans→Cmd (List V×List Ans×Prop)
 |[],a=>.ret ([],a,True)
 |r :: rs,a=>(MC E r).bind fun(v,q)=>eb E r.2.1 fun ty=>(Fv ty v a).bind fun(x,a,p)=>(XY E rs a).bind fun(xs,a,p')=>.ret (x :: xs,a,q∧p∧p')
def ZJ(n:Nat):Option (Nat×Nat×Nat)→Bool
 |none=>true
 |some (c,_,_)=>Nat.blt c n
def NP(nt r:Nat)(st:Option (Nat×Nat×Nat))(o:Nat):Bool:=match st,o with
 |none,0=>Nat.blt r nt
 |_,_=>false
theorem Qw{nt r:Nat}{st:Option (Nat×Nat×Nat)}{o:Nat}(h:NP nt r st o = true):st = none∧o = 0∧r < nt:=by
 unfold NP at h
 split at h
 ·exact⟨rfl,rfl,by simpa [Nat.blt_eq]using h⟩
 ·cases h
noncomputable def NQ(nt:Nat)(E:Env)(as:List A)(rs:List Rs)(a:List Ans):Cmd (V×List Ans×Prop) :=
 match rs with
 |[rr]=>(MC E rr).bind fun(v,q)=>match v with
  |.ptr ⟨r,st,o⟩=>match NP nt r st o with
   |true=>.gn r fun
    |some n=>(takeCells r 0 n).bind fun cs=>.wr (.kl (.root r)) (.wr (.rn r 0) (.ret (.tup [.tup cs],a,q)))
    |none=>.fail
   |false=>match as[r - nt]? with
    |some (.ptr cs)=>(ib (Nat.ble nt r && ZJ cs.length st)).bind fun _=>.ret (.ptr ⟨r - nt,st,o⟩,a,q)
    |_=>.fail
  |v=>eb E rr.2.1 fun ty=>(Fv ty v a).bind fun(x,a,p)=>.ret (x,a,q∧p)
 |rs=>(XY E rs a).bind fun(vs,a,p)=>.ret (.tup vs,a,p)
noncomputable def Ig(nt:Nat):Nat→List A→Cmd (List (List V))
 |_,[]=>.ret []
 |i,.val _ :: as=>(Ig nt (i+1) as).bind fun os=>.ret ([] :: os)
 |i,.rel _ _ _ :: as=>(Ig nt (i+1) as).bind fun os=>.ret ([] :: os)
 |i,.ptr cs :: as=>(inR (nt+i) cs.length).bind fun _=>(takeCells (nt+i) 0 cs.length).bind fun c=>(Ig nt (i+1) as).bind fun os=>.ret (c :: os)
 |i,.bor v :: as=>(inR (nt+i) (cellsOf v).length).bind fun _=>(takeCells (nt+i) 0 (cellsOf v).length).bind fun c=>(Ig nt (i+1) as).bind fun os=>.ret (c :: os)
noncomputable def RZ(nt:Nat)(E:Env)(rs:List Rs)(as:List A)(a:List Ans):Cmd (V×List (List V)×Prop) :=
 (NQ nt E as rs a).bind fun(res,_,p)=>(Ig nt 0 as).bind fun outs=>.ret (res,outs,p)
theorem Jc{ty:Ty}{x v:V}{ans a':List Ans}{p:Prop}(h:(Fv ty x ans).run st = some ((v,a',p),st')):(∃ cs,v = .agg cs)∨bQ v = true∨v = .undef:=by
 obtain⟨⟨xs,a1,p1⟩,s1,h1,h2⟩:=Cmd.abt h
 obtain⟨q,_⟩:=af h2
 simp only[Prod.mk.injEq]at q
 rw[←q.1]
 cases x with
 |agg cs=>exact .inl ⟨_,rfl⟩
 |_ =>
  right
  cases xs with
  |nil=>right;rfl
  |cons c cs =>
   left
   simp only[oG]
   revert h1
   cases ty.zc with
   |nil=>intro h1;cases h1
   |cons z zs =>
    intro h1
    simp only[cellsOf,boxV.toCells]at h1
    obtain⟨⟨c',a2,p2⟩,s2,h3,h4⟩:=Cmd.abt h1
    obtain⟨⟨ds,a3,p3⟩,s3,h5,h6⟩:=Cmd.abt h4
    obtain⟨q1,_⟩:=af h6
    simp only[Prod.mk.injEq,List.cons.injEq]at q1
    rw[←q1.1.1]
    exact qo h3
inductive ResX (P:Program) (a:Act) (w:World):Rs→Value→Prop where
 |tmp {t ty}:ResX P a w (t,ty,false) (a.tmps.getD t Go.undef)
 |cell {t ty ad x} (h:a.tmps.getD t Go.undef = .pointer (some ad)) (h2:(loadVar ty ad).run P w = .ok x w):ResX P a w (t,ty,true) x
inductive ResXs (P:Program) (a:Act) (w:World):List Rs→List Value→Prop where
 |nil:ResXs P a w [] []
 |cons {r x rs xs} (h:ResX P a w r x) (t:ResXs P a w rs xs):ResXs P a w (r :: rs) (x :: xs)
theorem Qo{E:Env}{ty:Ty}{vx v:V}{x:Value}{ans a':List Ans}{p:Prop}(h:(IH ty vx ans).run st = some ((v,a',p),st'))(hx:RepS w N base mb st vx x):∃ ad,x = .pointer (some ad):=by
 unfold IH at h
 split at h
 ·simp only[RepS]at hx
  obtain⟨b,q,_,rfl⟩:=hx
  exact⟨_,rfl⟩
 ·simp only[RepS]at hx
  obtain⟨b,q,_,rfl⟩:=hx
  exact⟨_,rfl⟩
 ·simp only[RepS]at hx
  obtain⟨b,q,rfl,_⟩:=hx
  exact⟨_,rfl⟩
 ·cases h
theorem lq{E:Env}(hE:EnvOk P E)(R:Rel g X st a w base mb F){r:Rs}{v:V}{q:Prop}(h:(MC E r).run st = some ((v,q),st'))(hq:q):st' = st∧∃ x,ResX P a w r x∧RepS w (tot F) base mb st v x:=by
 obtain⟨t,ty,c⟩:=r
 cases c with
 |false =>
  simp only[MC,Cmd.run,Option.some.injEq,Prod.mk.injEq]at h
  obtain⟨⟨rfl,_⟩,rfl⟩:=h
  exact⟨rfl,_,.tmp,R.slots t⟩
 |true =>
  simp only[MC,Cmd.run,eb]at h
  split at h
  ·rename_i tyy hty
   obtain⟨⟨v1,a1,p1⟩,s1,h1,h2⟩:=Cmd.abt h
   obtain⟨q1,rfl⟩:=af h2
   simp only[Prod.mk.injEq]at q1
   obtain⟨rfl,rfl⟩:=q1
   obtain⟨ad,had⟩:=Qo (E:=E) h1 (R.slots t)
   obtain⟨rfl,x,h3,h4⟩:=B4 R (hE _ _ hty) h1 hq (R.slots t)
   refine⟨rfl,x,.cell had ?_,h4⟩
   rw[had]at h3
   simpa only[Instr.loadAt,Instr.sureAddr,Sem.run_bind,Sem.run_pure,Result.andThen_ok]using h3
  ·cases h
theorem Ch{E:Env}(hE:EnvOk P E):∀ {rs:List Rs} {X:Fp} {F:Ix→Fp} {st st':St} {vs:List V} {ans a':List Ans} {p:Prop},Rel g X st a w base mb F→(XY E rs ans).run st = some ((vs,a',p),st')→p→
 ∃ F1 F' xs ys,Rel g (Fp.or X F1) st' a w base mb F'∧Fp.dis (Fp.or g.X0 X) F1∧ResXs P a w rs xs∧VRs vs xs ys∧Held w (tot F') (vs.flatMap cellsOf) ys F1∧(∀ b o,tot F' b o→tot F b o)∧st'.rn = st.rn
 |[],X,F,st,st',vs,ans,a',p,R,h,hp=>by
  simp only[XY]at h
  obtain⟨q,rfl⟩:=af h
  simp only[Prod.mk.injEq]at q
  obtain⟨rfl,_,rfl⟩:=q
  exact⟨Fp.none,F,[],[],by rw[Fp.or_none];exact R,fun _ _ _ h=>h,.nil,.nil,.nil,fun _ _ h=>h,rfl⟩
 |r :: rs,X,F,st,st',vs,ans,a',p,R,h,hp=>by
  simp only[XY]at h
  obtain⟨⟨v0,q0⟩,s0,h01,h02⟩:=Cmd.abt h
  simp only[eb]at h02
  split at h02
  ·obtain⟨⟨x,a1,p1⟩,s1,h1,h2⟩:=Cmd.abt h02
   obtain⟨⟨xs,a2,p2⟩,s2,h3,h4⟩:=Cmd.abt h2
   obtain⟨q,rfl⟩:=af h4
   simp only[Prod.mk.injEq]at q
   obtain⟨rfl,_,rfl⟩:=q
   obtain⟨e0,x0,hx0,hr0⟩:=lq hE R h01 hp.1
   subst e0
   obtain⟨F1,F',ys,e1,e2,e3,e4,e5,e6,e7⟩:=oU R h1 hp.2.1 hr0
   obtain⟨F2,F'',xs0,zs,k1,k2,kx,k3,k4,k5,k6⟩:=Ch hE e1 h3 hp.2.2
   refine⟨Fp.or F1 F2,F'',x0 :: xs0,ys++zs,by rw[←Fp.or_assoc];exact k1,fun b o h h'=>?_,.cons hx0 kx,.cons e3 e4.length.symm k3,?_,fun b o h=>e5 b o (k5 b o h),k6.trans e7⟩
   ·rcases h' with h'|h'
    ·exact e2 b o h h'
    ·exact k2 b o (h.imp id .inl) h'
   ·rw[List.flatMap_cons]
    exact(e4.sub k5).append k4 fun b o h h'=>k2 b o (.inr (.inr h)) h'
  ·cases h02
def Iy:List Value→Value
 |[x]=>x
 |xs=>.tuple xs.toArray
theorem Hz{E:Env}(hE:EnvOk P E){nt:Nat}(hgn:g.nt = nt){as:List A}{xs:List Value}(hb:∀ r,nt≤r→base r = gW nt as xs r)(hptr:∀ (j:Nat) (cs:List V),as[j]? = some (.ptr cs)→∃ b o,xs[j]? = some (.pointer (some ⟨b,o,none⟩)))(R:Rel g X st a w base mb F)
 {rs:List Rs} {res:V} {ans a':List Ans} {p:Prop} (h:(NQ nt E as rs ans).run st = some ((res,a',p),st')) (hp:p) :
 ∃ base' F1 F' zs,(∀ r,nt≤r→base' r = base r)∧Rel g (Fp.or X F1) st' a w base' mb F'∧Fp.dis (Fp.or g.X0 X) F1∧ResXs P a w rs zs∧ResR w (tot F') as xs res (Iy zs) F1∧(∀ b o,tot F' b o→tot F b o):=by
 unfold NQ at h
 split at h
 ·rename_i rr
  obtain⟨⟨v0,q0⟩,s0,h01,h⟩:=Cmd.abt h
  simp only at h
  split at h
  ·rename_i r s o
   split at h
   ·rename_i hfr
    obtain⟨rfl,rfl,hlt⟩:=Qw hfr
    simp only[Cmd.run]at h
    split at h
    ·rename_i n hrn
     obtain⟨cs,s1,h1,h2⟩:=Cmd.abt h
     simp only[Cmd.run,Option.some.injEq,Prod.mk.injEq]at h2
     obtain⟨⟨rfl,_,rfl⟩,rfl⟩:=h2
     obtain⟨e0,x0,hx0,hs⟩:=lq hE R h01 hp
     subst e0
     have hrl:r < g.nt:=by rw[hgn];exact hlt
     simp only[RepS]at hs
     obtain⟨b,q,⟨o0,hbr,hq⟩,hx0e⟩:=hs
     have hq':q = o0:=by simpa using hq
     rw[hq']at hx0e
     subst hx0e
     have hin:∀ j,j < n→InR s0 r (0+j):=fun j hj=>⟨n,hrn,by omega⟩
     obtain⟨G1,F',zs,k1,k2,k3,k4,k5,k6,k7,k8⟩:=eG R h1 hin
     obtain⟨F'',R2,hsub⟩:=k1.release hrl
     have hca:=CellsAt.of R hbr (o:=0) (zs:=zs) (fun j hj=>hin j (by have:=k3.length;omega)) k4
     have hH:F' (.hdr r) = region b o0 n:=by
      have:=k1.hdr r
      rw[hbr,k8,hrn]at this
      exact this.1
     have hdx:Fp.dis (F' (.hdr r)) (F' .x):=k1.dis _ _ (by simp)
     rw[k1.fx]at hdx
     refine⟨_,Fp.or G1 (F' (.hdr r)),F'',[_],fun q hq=>bH _ _ (show q≠r by omega),by rw[←Fp.or_assoc];exact R2,fun p q h h'=>?_,.cons hx0 .nil,⟨b,o0,zs,G1,rfl,k3.sub hsub,hca,by rw[hH,k5],?_⟩,fun p q h=>k6 p q (hsub p q h)⟩
     ·rcases h' with h'|h'
      ·exact k2 p q h h'
      ·exact hdx p q h' (h.imp id .inl)
     ·intro p q h h'
      refine hdx p q ?_ (.inr (.inr h))
      rw[hH,←k5];exact h'
    ·cases h
   split at h
   ·rename_i cs hcs
    obtain⟨_,s1,h1,h2⟩:=Cmd.abt h
    obtain⟨hn,rfl⟩:=bm h1
    obtain⟨q,rfl⟩:=af h2
    simp only[Prod.mk.injEq]at q
    obtain⟨rfl,_,rfl⟩:=q
    obtain⟨e0,x0,hx0,hs⟩:=lq hE R h01 hp
    subst e0
    obtain⟨hn1,hn2⟩:=Bool.and_eq_true_iff.1 hn
    have hn1:=Nat.le_of_ble_eq_true hn1
    simp only[RepS]at hs
    obtain⟨b1,o1,hpl,hx⟩:=hs
    obtain⟨b,o0,hxs⟩:=hptr _ _ hcs
    have hbr:base r = .mem b o0:=by
     rw[hb r hn1]
     have:=fV (nt:=nt) (as:=as) (xs:=xs) (r - nt)
     rw[show nt+ (r - nt) = r by omega]at this
     rw[this,hcs,hxs];rfl
    refine⟨base,Fp.none,F,[x0],fun _ _=>rfl,by rw[Fp.or_none];exact R,fun _ _ _ h=>h,.cons hx0 .nil,⟨rfl,cs,b,o0,hcs,hxs,?_⟩,fun _ _ h=>h⟩
    cases s with
    |none =>
     obtain⟨o2,e1,rfl⟩:=hpl
     rw[hbr]at e1
     injection e1 with e1 e2
     subst e1;subst e2
     exact hx
    |some s =>
     obtain⟨c,i,s⟩:=s
     obtain⟨hin,o2,len,cap,e1,rfl⟩:=hpl
     refine⟨Nat.le_of_ble_eq_true hn2,b1,o2,len,cap,?_,hx⟩
     simp only[hd,hbr]at e1
     exact e1
   ·cases h
  ·rename_i hne
   simp only[eb]at h
   split at h
   ·obtain⟨⟨x,a1,p1⟩,s1,h1,h2⟩:=Cmd.abt h
    obtain⟨q,rfl⟩:=af h2
    simp only[Prod.mk.injEq]at q
    obtain⟨rfl,_,rfl⟩:=q
    obtain⟨e0,x0,hx0,hr0⟩:=lq hE R h01 hp.1
    subst e0
    obtain⟨F1,F',ys,e1,e2,e3,e4,e5,e6,e7⟩:=oU R h1 hp.2 hr0
    refine⟨base,F1,F',[x0],fun _ _=>rfl,e1,e2,.cons hx0 .nil,?_,e5⟩
    rcases Jc h1 with⟨cs,rfl⟩|hcl|rfl
    ·exact⟨ys,e3,e4⟩
    ·cases x <;> first|exact⟨ys,e3,e4⟩|cases hcl
    ·exact⟨ys,e3,e4⟩
   ·cases h
 ·rename_i hne
  obtain⟨⟨vs,a1,p1⟩,s1,h1,h2⟩:=Cmd.abt h
  obtain⟨q,rfl⟩:=af h2
  simp only[Prod.mk.injEq]at q
  obtain⟨rfl,_,rfl⟩:=q
  obtain⟨F1,F',zs,ys,k1,k2,kx,k3,k4,k5,k6⟩:=Ch hE R h1 hp
  refine⟨base,F1,F',zs,fun _ _=>rfl,k1,k2,kx,?_,k5⟩
  have hr:Iy zs = .tuple zs.toArray:=by
   cases kx with
   |nil=>rfl
   |cons h t=>cases t with
    |nil=>exact absurd rfl (hne _)
    |cons h2 t2=>rfl
  rw[hr]
  cases vs with
  |nil=>cases k4;cases k3;rfl
  |cons v vs =>
   cases vs with
   |nil =>
    cases k3 with
    |cons h hl t =>
     cases t
     cases kx with
     |cons h t =>
      cases t
      exact absurd rfl (hne _)
   |cons v1 vs=>cases v <;> exact⟨_,ys,rfl,k3,k4⟩
theorem kU{nt:Nat}{N0:Fp}{w0:World}{as0:List A}{xs0:List Value}:∀ {as:List A} {xs:List Value} {F1 W X:Fp} {F:Ix→Fp} {st st':St} {i:Nat} {outs:List (List V)},ArgsR w0 N0 as0 xs0 as xs F1 W→Rel g X st a w base mb F→
 (∀ j:Nat,j < as.length→base (nt+ (i+j)) = gh as[j]? xs[j]?)→(Ig nt i as).run st = some (outs,st')→
 ∃ Fo F',Rel g (Fp.or X Fo) st' a w base mb F'∧Fp.dis (Fp.or g.X0 X) Fo∧OutsR w (tot F') as xs outs Fo∧(∀ b o,tot F' b o→tot F b o)∧st'.rn = st.rn∧(∀ b o,W b o→∃ r,F' (.hdr r) b o)
 |[],xs,F1,W,X,F,st,st',i,outs,h,R,hb,hr=>by
  simp only[Ig]at hr
  obtain⟨rfl,rfl⟩:=af hr
  cases h
  exact⟨Fp.none,F,by rw[Fp.or_none];exact R,fun _ _ _ h=>h,.nil,fun _ _ h=>h,rfl,fun _ _ h=>h.elim⟩
 |y :: as,xs,F1,W,X,F,st,st',i,outs,h,R,hb,hr=>by
  have hb':∀ {x:Value} {xs1:List Value},xs = x :: xs1→∀ j:Nat,j < as.length→base (nt+ (i+1+j)) = gh as[j]? xs1[j]?:=by
   rintro x xs1 rfl j hj
   have:=hb (j+1) (by simp;omega)
   rw[show i+ (j+1) = i+1+j by omega]at this
   simpa using this
  have hb0:=hb 0 (by simp)
  simp only[Nat.add_zero,List.getElem?_cons_zero]at hb0
  cases h with
  |val h1 hh ht hd1 =>
   simp only[Ig]at hr
   obtain⟨os,s1,h2,h3⟩:=Cmd.abt hr
   obtain⟨rfl,rfl⟩:=af h3
   obtain⟨Fo,F',e1,e2,e3,e4,e5,e6⟩:=kU ht R (hb' rfl) h2
   exact⟨Fo,F',e1,e2,.val e3,e4,e5,e6⟩
  |rel h1 h2' h3' ht =>
   simp only[Ig]at hr
   obtain⟨os,s1,h2,h3⟩:=Cmd.abt hr
   obtain⟨rfl,rfl⟩:=af h3
   obtain⟨Fo,F',e1,e2,e3,e4,e5,e6⟩:=kU ht R (hb' rfl) h2
   exact⟨Fo,F',e1,e2,.rel e3,e4,e5,e6⟩
  |@bor v x ys Fa _ _ Fb _ h1 hh ht hd1 =>
   simp only[Ig]at hr
   obtain⟨_,s0,h2,h3⟩:=Cmd.abt hr
   obtain⟨rfl,hin⟩:=oi h2
   obtain⟨c,s1,h4,h5⟩:=Cmd.abt h3
   obtain⟨os,s2,h6,h7⟩:=Cmd.abt h5
   obtain⟨rfl,rfl⟩:=af h7
   obtain⟨G1,F',zs,k1,k2,k3,k4,k5,k6,k7,k8⟩:=eG R h4 (fun j hj=>by rw[Nat.zero_add];exact hin j hj)
   obtain⟨Fo,F'',e1,e2,e3,e4,e5,e6⟩:=kU ht k1 (hb' rfl) h6
   have hz:zs = ys:=by
    have hl1:=k3.length
    have hl2:=hh.length
    apply List.ext_getElem?
    intro j
    by_cases hj:j < zs.length
    ·have:=k4 j _ (List.getElem?_eq_getElem hj)
     have hbt:base (nt+i) = .par ys:=by rw[hb0,h1.eq];rfl
     simp only[hd,hbt,Nat.zero_add]at this
     rw[this,List.getElem?_eq_getElem hj]
    ·rw[List.getElem?_eq_none (by omega),List.getElem?_eq_none (by omega)]
   subst hz
   refine⟨Fp.or G1 Fo,F'',by rw[←Fp.or_assoc];exact e1,fun b o h h'=>?_,.bor h1 (k3.sub e4) e3 (fun b o h h'=>e2 b o (.inr (.inr h)) h'),fun b o h=>k6 b o (e4 b o h),e5.trans k8,e6⟩
   rcases h' with h'|h'
   ·exact k2 b o h h'
   ·exact e2 b o (h.imp id .inl) h'
  |@ptr cs0 b o ys Fa _ _ Fb hh hc ht hd1 =>
   simp only[Ig]at hr
   obtain⟨_,s0,h2,h3⟩:=Cmd.abt hr
   obtain⟨rfl,hin⟩:=oi h2
   obtain⟨c,s1,h4,h5⟩:=Cmd.abt h3
   obtain⟨os,s2,h6,h7⟩:=Cmd.abt h5
   obtain⟨rfl,rfl⟩:=af h7
   have hin0:∀ j,j < cs0.length→InR s0 (nt+i) (0+j):=fun j hj=>by rw[Nat.zero_add];exact hin j hj
   obtain⟨G1,F',zs,k1,k2,k3,k4,k5,k6,k7,k8⟩:=eG R h4 hin0
   obtain⟨Fo,F'',e1,e2,e3,e4,e5,e6⟩:=kU ht k1 (hb' rfl) h6
   have hbm:base (nt+i) = .mem b o:=hb0
   have hca:=CellsAt.of R hbm (o:=0) (zs:=zs) (fun j hj=>hin0 j (by have:=k3.length;omega)) k4
   rw[Nat.add_zero]at hca
   refine⟨Fp.or G1 Fo,F'',by rw[←Fp.or_assoc];exact e1,fun b o h h'=>?_,.ptr k5 (k3.sub e4) hca e3 (fun b o h h'=>e2 b o (.inr (.inr h)) h'),fun b o h=>k6 b o (e4 b o h),e5.trans k8,fun p q hpq=>⟨nt+i,?_⟩⟩
   ·rcases h' with h'|h'
    ·exact k2 b o h h'
    ·exact e2 b o (h.imp id .inl) h'
   ·obtain⟨n,n1,n2⟩:=hin (q - o) (by have:=hpq.2;omega)
    have hin2:InR s2 (nt+i) (q - o):=⟨n,by rw[e5,k8];exact n1,n2⟩
    have:=e1.hdrAt hin2 hbm
    rw[show o+ (q - o) = q by have:=hpq.2.1;omega,←hpq.1]at this
    exact this
def nq:Rs→ResultVar
 |(t,_,false)=>.tmp t
 |(t,ty,true)=>.cell t ty
theorem Jj{fn:Func}{rs:List Rs}(h:fn.results = (rs.map nq).toArray){a:Act}{zs:List Value}(hz:ResXs P a w rs zs):(results fn a.tmps).run P w = .ok (Iy zs) w:=by
 have key:∀ {l:List Rs} {zs:List Value},ResXs P a w l zs→((l.map nq).mapM (m:=Sem) fun
  |.tmp t=>pure (a.tmps.getD t Go.undef)
  |.cell ad t=>do loadVar t (←asAddr (a.tmps.getD ad Go.undef))).run P w = .ok zs w:=by
  intro l zs h
  induction h with
  |nil=>simp
  |cons h t ih =>
   rw[List.map_cons,List.mapM_cons]
   cases h with
   |tmp=>simp only[nq,Sem.run_bind,Sem.run_pure,Result.andThen_ok,ih]
   |cell h1 h2 =>
    have h3:∀ ad,(asAddr (.pointer (some ad))).run P w = .ok ad w:=fun _=>rfl
    simp only[nq,h1,Sem.run_bind,h3,Result.andThen_ok,h2,ih,Sem.run_pure]
 simp only[results,h,List.mapM_toArray,Sem.run_bind,Sem.run_map]
 refine(congrArg (fun r=>Result.andThen (Result.andThen r _) _) (key hz)).trans ?_
 simp only[Result.andThen_ok,Sem.run_pure]
 cases hz with
 |nil=>rfl
 |cons h t=>cases t with
  |nil=>rfl
  |cons h2 t2=>simp[Iy]
end Go.Tm
namespace Go.Tm
variable {P:Program}
def Run(P:Program)(nt:Nat)(c:Code)(st:St)(Q:Exit→St→Prop):Prop :=
 ∀ (g:G),g.nt = nt→∀ (a:Act) (w:World) (base:Nat→Base) (mb:Nat→Nat) (F:Ix→Fp),Rel g Fp.none st a w base mb F→
  c.wp P (fun e a' w'=>∃ st' base' mb' F',Q e st'∧Rel g Fp.none st' a' w' base' mb' F') a w
def Ends(nt:Nat)(E:Env)(rs:List Rs)(as:List A)(res:V)(outs:List (List V))(e:Exit)(st:St):Prop :=
 (e = .normal∨e = .ret)∧∃ ans st' p,(RZ nt E rs as ans).run st = some ((res,outs,p),st')∧p
theorem Fn.intro{f:FuncId}{fn:Func}{c:Code}{nt:Nat}{E:Env}{rs:List Rs}{as:List A}{res:V}{outs:List (List V)}(hf:P.funcs[f]? = some fn)(hb:fn.body = some c)(hnt:fn.ntmps = nt)(hE:EnvOk P E)(hrs:fn.results = (rs.map nq).toArray)
 (hlen:as.length≤nt) (hcl:∀ a∈as,∀ c∈dK a,bQ c = true∨∃ cs,a = .ptr cs) (hrun:Run P nt c (ini nt as) (Ends nt E rs as res outs)):Fn P f as res outs:=by
 intro w X0 F1 W args hargs hd1 hd2 hex
 subst hnt
 refine calls_of_wp hf hb ?_
 obtain⟨F,R⟩:=Je (P:=P) hargs hlen hcl hd1 hd2 hex
 refine wp_mono (hrun _ rfl _ _ _ _ _ R) fun e a' w' h=>?_
 obtain⟨st',base',mb',F',⟨he,ans,st2,p,hfin,hp⟩,R'⟩:=h
 obtain⟨⟨uZ,a1,p1⟩,s1,h1,h2⟩:=Cmd.abt hfin
 obtain⟨os,s2,h3,h4⟩:=Cmd.abt h2
 obtain⟨q,rfl⟩:=af h4
 simp only[Prod.mk.injEq]at q
 obtain⟨rfl,rfl,rfl⟩:=q
 have hbase:∀ r,fn.ntmps≤r→base' r = gW fn.ntmps as args r:=R'.par
 have hptr:∀ (j:Nat) (cs:List V),as[j]? = some (.ptr cs)→∃ b o,args[j]? = some (.pointer (some ⟨b,o,none⟩)):=fun j cs hj=>by
  obtain⟨x,hx,b,o,ys,rfl,_⟩:=pI hargs j _ hj
  exact⟨b,o,hx⟩
 obtain⟨base',Fr,Fa,zs,hb2,e1,e2,ez,e3,e4⟩:=Hz hE rfl hbase hptr R' h1 hp
 have hbase:∀ r,fn.ntmps≤r→base' r = gW fn.ntmps as args r:=fun r hr=>(hb2 r hr).trans (hbase r hr)
 obtain⟨Fo,Fb,k1,k2,k3,k4,k5,k6⟩:=kU hargs e1 (fun j _=>by rw[Nat.zero_add,hbase _ (by omega)];exact fV j) h3
 have hv:=Jj (P:=P) (w:=w') hrs ez
 have hfx:∀ b o,Fr b o∨Fo b o→Fb .x b o:=fun b o h=>by
  rw[k1.fx]
  rcases h with h|h
  ·exact .inr (.inl (.inr h))
  ·exact .inr (.inr h)
 have hN:∀ b o,Fp.or X0 (Fp.or (Fp.or Fr Fo) W) b o→tot Fb b o:=fun b o h=>by
  rcases h with h|h|h
  ·exact⟨.x,by rw[k1.fx];exact .inl h⟩
  ·exact⟨.x,hfx b o h⟩
  ·obtain⟨r,hr⟩:=k6 b o h;exact⟨_,hr⟩
 have hnx:∀ b o,Fr b o∨Fo b o→¬X0 b o:=fun b o h hx=>by
  rcases h with h|h
  ·exact e2 b o (.inl hx) h
  ·exact k2 b o (.inl hx) h
 have key:a'.defers = []∧∃ v,(results fn a'.tmps).run P w' = .ok v w'∧∃ x Fr Fo,Ending.returned v = .returned x∧Frame w (Fp.or F1 W) w'∧(∀ b o,Fr b o∨Fo b o→F1 b o∨w.heap.size≤b)∧(∀ b o,Fr b o∨Fo b o→b < w'.heap.size)∧
  Fp.dis Fr Fo∧ResR w' (Fp.or X0 (Fp.or (Fp.or Fr Fo) W)) as args uZ x Fr∧OutsR w' (Fp.or X0 (Fp.or (Fp.or Fr Fo) W)) as args os Fo:=by
  refine⟨R'.df,_,hv,_,Fr,Fo,rfl,R'.frame,fun b o h=>?_,fun b o h=>k1.ex b o ⟨.x,hfx b o h⟩,fun b o h h'=>k2 b o (.inr (.inr h)) h',(e3.chg (.inl k4)).chg (.inl hN),k3.chg (.inl hN)⟩
  rcases k1.fresh b o ⟨.x,hfx b o h⟩with h'|h'|h'
  ·exact(hnx b o h h').elim
  ·rcases h' with h'|h'
   ·exact .inl h'
   ·obtain⟨r,hr⟩:=k6 b o h'
    exact(k1.dis (.hdr r) .x (by simp) b o hr (hfx b o h)).elim
  ·exact .inr h'
 rcases he with rfl|rfl
 ·exact key
 ·exact key
/-! ### Rules -/
theorem Run.mono{nt:Nat}{c:Code}{st:St}{Q Q':Exit→St→Prop}(h:Run P nt c st Q)(hq:∀ e s,Q e s→Q' e s):Run P nt c st Q':=fun g hg a w base mb F R =>
 wp_mono (h g hg a w base mb F R) fun e a' w' ⟨st',base',mb',F',q,R'⟩=>⟨st',base',mb',F',hq _ _ q,R'⟩
theorem Run.skip{nt:Nat}{st:St}{Q:Exit→St→Prop}(h:Q .normal st):Run P nt .skip st Q:=fun g hg a w base mb F R=>wp_skip ⟨st,base,mb,F,h,R⟩
theorem Run.ret{nt:Nat}{st:St}{Q:Exit→St→Prop}(h:Q .ret st):Run P nt .ret st Q:=fun g hg a w base mb F R=>wp_ret ⟨st,base,mb,F,h,R⟩
theorem Run.exit{nt:Nat}{st:St}{Q:Exit→St→Prop}{id:Nat}(h:Q (.exit id) st):Run P nt (.exit id) st Q:=fun g hg a w base mb F R=>wp_exit ⟨st,base,mb,F,h,R⟩
theorem Run.seq{nt:Nat}{st:St}{x y:Code}{Q Q1:Exit→St→Prop}(h:Run P nt x st Q1)(h1:∀ s,Q1 .normal s→Run P nt y s Q)(h2:∀ e s,e≠.normal→Q1 e s→Q e s):Run P nt (.seq x y) st Q:=fun g hg a w base mb F R =>
 wp_seq (wp_mono (h g hg a w base mb F R) fun e a' w' ⟨st',base',mb',F',q,R'⟩=>by
  cases e with
  |normal=>exact h1 st' q g hg a' w' base' mb' F' R'
  |_=>exact⟨st',base',mb',F',h2 _ _ (by simp) q,R'⟩)
theorem Run.block{nt:Nat}{st:St}{id:Nat}{c:Code}{Q:Exit→St→Prop}(h:Run P nt c st fun e s=>match e with|.exit id'=>if id' = id then Q .normal s else Q (.exit id') s|e=>Q e s):Run P nt (.block id c) st Q:=fun g hg a w base mb F R =>
 wp_block (wp_mono (h g hg a w base mb F R) fun e a' w' ⟨st',base',mb',F',q,R'⟩=>by
  cases e with
  |exit id' =>
   simp only[Exit.inBlock]at q ⊢
   split at q
   ·rename_i hid;rw[if_pos hid];exact⟨st',base',mb',F',q,R'⟩
   ·rename_i hid;rw[if_neg hid];exact⟨st',base',mb',F',q,R'⟩
  |_=>exact⟨st',base',mb',F',q,R'⟩)
end Go.Tm
