/- Contracts of functions of the program: what each call answers. -/
import Derived.Test.YtclkoehdmpcggaaGreatPartf
section
set_option linter.unusedVariables false
set_option linter.unusedSimpArgs false
set_option maxHeartbeats 8000000
set_option maxRecDepth 20000
open Go Go.Tm Go.Proofs
namespace Go.K
theorem res3_yes {b:Boss} {m:Message} (h:Owes b m):res3 b m = ⟨b.workers,b.up,b.now,b.since,b.epoch,b.given,b.log,b.results,b.jobs,b.seats,b.owed ++ [⟨m.frm,m.lease,m.task⟩]⟩:=if_pos h
theorem res3_no {b:Boss} {m:Message} (h:¬ Owes b m):res3 b m = b:=if_neg h
theorem at_set {rs:List ByteArray} {k:Int} {v:ByteArray} (h:k.toNat < rs.length):atS (rs.set k.toNat v) k = v:=by
 unfold atS; rw [List.getElem?_set_self h]; rfl
theorem res_put {b:Boss} {ts:List Task} {m:Message} (h:CanPut b ts m) (hk:m.task.toNat < b.results.length) (ht:¬ m.text = emp):resultB b ts m = res3 (putB b m) m:=by
 have e1:res1 b ts m = putB b m:=if_pos h
 have e2:res2 (putB b m) m = putB b m:=if_neg (by rw [show (putB b m).results = b.results.set m.task.toNat m.text from rfl,at_set hk]; exact ht)
 rw [resultB,e1,e2]
theorem res_emp {b:Boss} {ts:List Task} {m:Message} (h:¬ CanPut b ts m) (hy:atS b.results m.task = emp) (ht:¬ m.text = emp):resultB b ts m = freeB b m:=by
 have e1:res1 b ts m = b:=if_neg h
 have e2:res2 b m = freeB b m:=if_pos hy
 have e3:(freeB b m).results = b.results:=by unfold freeB; split <;> rfl
 rw [resultB,e1,e2,res3_no]
 intro q
 have:=q.same
 rw [e3,hy] at this
 exact ht this.symm
theorem res_full {b:Boss} {ts:List Task} {m:Message} (hy:¬ atS b.results m.task = emp):resultB b ts m = res3 b m:=by
 have e1:res1 b ts m = b:=if_neg fun q=>hy q.res
 have e2:res2 b m = b:=if_neg hy
 rw [resultB,e1,e2]
theorem put_owes {b:Boss} {ts:List Task} {m:Message} (hk:m.task.toNat < b.results.length) (h1:b.owed.length < 2000) (h2:∀ o ∈ b.owed,¬ (o.worker = m.frm ∧ o.lease = m.lease)):Owes (putB b m) m:=⟨at_set hk,h1,h2⟩
theorem owed_hit {xs:List Owed} {m:Message} {n:Nat} {o:Owed} (h:xs[n]? = some o) (ho:o.worker = m.frm ∧ o.lease = m.lease):¬ ∀ o ∈ xs,¬ (o.worker = m.frm ∧ o.lease = m.lease):=fun q=>q o (List.mem_of_getElem? h) ho
theorem free_old {b:Boss} {m:Message} (h:oldM b m):freeB b m = b:=if_pos h
theorem free_new {b:Boss} {m:Message} (h:¬ oldM b m):freeB b m = ⟨b.workers,b.up,b.now,b.since,b.epoch,b.given,b.log,b.results,b.jobs,b.seats.set (seatI m) ⟨true,m.epoch⟩,b.owed⟩:=if_neg h
theorem here_old {b:Boss} {m:Message} (h:oldM b m):hereB b m = b:=if_pos h
theorem here_new {b:Boss} {m:Message} (h:¬ oldM b m):hereB b m = ⟨b.workers,b.up,b.now,b.since,b.epoch,b.given,b.log,b.results,b.jobs.map (freeJ m.frm),b.seats.set (seatI m) ⟨true,m.epoch⟩,b.owed⟩:=if_neg h
theorem old_at {b:Boss} {m:Message} {x:Seat} (h:b.seats[seatI m]? = some x):oldM b m ↔ m.epoch < x.epoch:=by unfold oldM; rw [seatAt,h]; exact Iff.rfl
structure ResIn (b:Boss) (ts:List Task) (m:Message):Prop where
 chk:checkPlan ts = 0
 res:b.results.length = ts.length
 jobs:b.jobs.length = ts.length
 task:0 ≤ m.task ∧ m.task < ts.length
 safe:b.log.safe.length ≤ 1048576
 loose:b.log.loose.length ≤ 1048576
 owed:b.owed.length ≤ 1048576
 seats:b.seats.length ≤ 8
 frm:1 ≤ m.frm ∧ m.frm ≤ b.seats.length
 text:(m.text.size:Int) = 8
theorem c_impl_Boss_result (b:Boss) (p:Plan) (m:Message) (h:ResIn b p.tasks m):F n_impl_Boss_result [.ptr (cellsOf (bossO b)),.val (planR p),.val (messageR m),.rel 0 (some (10,seatI m,2)) 0] (.tup []) [cellsOf (bossO (resultB b p.tasks m)),[],[],[]]:=by
 obtain ⟨hck,u3,u4,⟨t1,t2⟩,l1,l2,l3,l4,⟨f1,f2⟩,tx⟩:=h
 have hpl:=(chk_inv hck).1
 have hsi:seatI m < b.seats.length:=by unfold seatI; omega
 have hkr:m.task.toNat < b.results.length:=by omega
 have hte:¬ m.text = emp:=fun q=>by rw [q] at tx; cases tx
 obtain ⟨x,hx⟩:=some_at hsi
 have hold:=old_at hx
 obtain ⟨t,ht0⟩:=some_at (xs:=p.tasks) (n:=m.task.toNat) (by omega)
 obtain ⟨y,hy0⟩:=some_at (xs:=b.results) (n:=m.task.toNat) (by omega)
 obtain ⟨j,hj0⟩:=some_at (xs:=b.jobs) (n:=m.task.toNat) (by omega)
 have hya:=at_get' hy0
 obtain ⟨_,_,a3,a4⟩:=chk_task hck ht0
 have crd:=c_impl_ready b.results t.deps (fun d hd=>by have:=a4 d hd; omega) (by omega)
 have cf:=c_impl_FormEntry 2 b.epoch m.task m.text (by omega)
 rw [form_eq] at cf
 by_cases hA:y = emp
 ·by_cases hP:CanPut b p.tasks m
  ·have hF:readyB b.results t.deps:=by have:=hP.ready; rw [deps_get ht0] at this; exact this
   have hR:=hP.room
   rw [decide_eq_true hF] at crd
   rw [res_put hP hkr hte]
   by_cases hO:b.owed.length < 2000
   ·refine i_impl_Boss_result ?_
    conv=>whnf
    refine g 0 0 [] ?_
    conv=>whnf
    refine ⟨⟨⟨I,I⟩,⟨I,I,I,I,I,I,I,I,I⟩,I⟩,?_⟩
    refine g 11 13 [] ?_
    conv=>whnf
    refine ⟨⟨I,I,I,I⟩,?_⟩
    refine W.sq ?_
    refine gd 13 49 [[],[],[],[],[],[.n (Int.toNat (Message.task m))],[.x (strT y)],[],[],[.b (true)],[.b (true)],[.b (true)],[.b (true)],[.b (true)],[.b (true)],[.b (true)],[.b (true),.x (taskT t)],[.b (true)],[.b (true)],[.b (true),.call (V.b true) ([[],[]])],[.b (true)],[],[.b (true)],[.b (true)],[.b (true)],[.b (true)],[.b (true)],[.b (true)],[.b (true)],[.b (true)],[.b (true)],[.b (true)],[.b (true)],[.b (true)],[.b (true),.i ((↑(List.length (List.map strT (Log.safe (Boss.log b)))):Int) + (↑(List.length (List.map strT (Log.loose (Boss.log b)))):Int))],[.b (true)],[.b (true)]] ?_
    conv=>whnf
    refine ⟨⟨I,I,I,I,I,⟨(by omega),(by simp only [lens]; omega)⟩,ixl (by assumption),I,I,⟨dT (by omega),I⟩,⟨dT (by omega),I⟩,⟨dT (by omega),I⟩,⟨dT (by omega),I⟩,⟨dT (by omega),I⟩,⟨dT (by omega),I⟩,⟨dT (by omega),I⟩,⟨dT (by omega),(by assumption),ixl (by assumption)⟩,⟨dT (by omega),I⟩,⟨dT (by omega),I⟩,⟨dT (by omega),⟨I,I,I⟩,I,⟨⟨I,I⟩,⟨I,I⟩,I⟩,⟨I,I⟩,(by assumption)⟩,dT (by omega),I,⟨rfl,I⟩,⟨rfl,I⟩,⟨rfl,I⟩,⟨rfl,I⟩,⟨rfl,I⟩,⟨rfl,I⟩,⟨rfl,I⟩,⟨rfl,I⟩,⟨rfl,I⟩,⟨rfl,I⟩,⟨rfl,I⟩,⟨rfl,I⟩,⟨rfl,w64 (by simp only [lens]; omega) (by simp only [lens]; omega)⟩,⟨rfl,I⟩,rfl,I⟩,by kernel_rfl,?_⟩
    refine W.cn ?_
    conv=>whnf
    refine ⟨fun h1=>?_,fun h1=>?_⟩
    replace h1:=dt h1
    simp only [List.length_map] at h1
    refine gd 49 58 [[],[],[],[],[],[],[],[.n (Int.toNat (Message.task m))],[.x (strT y)]] ?_
    conv=>whnf
    refine ⟨⟨I,I,I,I,I,I,I,⟨(by omega),(by simp only [lens]; omega)⟩,⟨⟨I,I⟩,ixl (by assumption)⟩,I⟩,by kernel_rfl,?_⟩
    refine gd 58 78 [[],[],[],[],[],[],[],[],[],[],[],[],[],[],[.call (V.s (formS { kind:=(2:Int),epoch:=Boss.epoch b,task:=Message.task m,text:=Message.text m:Entry })) ([[]])],[],[],[],[],[],[]] ?_
    conv=>whnf
    refine ⟨⟨I,I,I,I,I,I,I,I,I,I,I,I,I,I,⟨⟨I,I⟩,I,⟨⟨I,I,I,I,I⟩,I⟩,⟨I,I⟩,(by assumption)⟩,⟨⟨I,I⟩,I⟩,⟨I,I,(by simp only [lens]; omega)⟩,I,I,I,⟨I,I⟩,I⟩,by kernel_rfl,?_⟩
    refine rg [.n (Int.toNat (Message.task m)),.x (jobT j)] ?_
    conv=>whnf
    refine ⟨⟨I,I,I,I,I,I,⟨(by omega),(by simp only [lens]; omega)⟩,⟨⟨I,I,I,I⟩,ixl (by assumption)⟩,I⟩,?_⟩
    refine W.sq ?_
    refine gd 78 101 [[],[],[],[],[],[.n (Int.toNat (Message.task m))],[.x (patch (strT y) (0:Nat) [T.v (Value.string (Message.text m))])],[],[],[.b (false)],[.b (false)],[.b (false)],[.b (false)],[.b (false)],[.b (false)],[.b (false)],[.b (false)]] ?_
    conv=>whnf
    refine ⟨⟨I,I,I,I,I,⟨(by omega),(by simp only [lens]; omega)⟩,getset (by simp only [lens]; omega),I,I,dF (by omega),dF (by omega),dF (by omega),dF (by omega),dF (by omega),dF (by omega),dF (by omega),dF (by omega),I⟩,by kernel_rfl,?_⟩
    refine W.cn ?_
    conv=>whnf
    refine ⟨noT (rfl),fun _=>?_⟩
    refine W.skip ?_
    refine W.sq ?_
    refine gd 101 124 [[],[],[],[],[],[.n (Int.toNat (Message.task m))],[.x (patch (strT y) (0:Nat) [T.v (Value.string (Message.text m))])],[],[],[],[],[.b (false)],[.b (false)],[.b (false)],[.b (false)],[.b (false)],[.b (false)],[.b (false)]] ?_
    conv=>whnf
    refine ⟨⟨I,I,I,I,I,⟨(by omega),(by simp only [lens]; omega)⟩,getset (by simp only [lens]; omega),I,I,I,I,⟨notF rfl,I⟩,⟨notF rfl,I⟩,⟨notF rfl,I⟩,⟨notF rfl,I⟩,⟨notF rfl,I⟩,⟨notF rfl,I⟩,notF rfl,I⟩,by kernel_rfl,?_⟩
    refine W.cn ?_
    conv=>whnf
    refine ⟨fun h2=>?_,fun h2=>?_⟩
    replace h2:=dt h2
    simp only [List.length_map] at h2
    omega
    replace h2:=df h2
    simp only [List.length_map] at h2
    refine W.skip ?_
    refine W.sq ?_
    refine g 124 128 [] ?_
    conv=>whnf
    refine ⟨⟨I,I,I,I,I,I,I⟩,?_⟩
    refine W.blk ?_
    rotate_left 1
    replace h1:=df h1
    simp only [List.length_map] at h1
    omega
    refine W.lp (fun s (n:Nat)=>⟨[(0,s.s 0),(1,s.s 1),(2,s.s 2),(5,s.s 5),(6,s.s 6),(8,s.s 8),(128,s.s 128),(129,s.s 129),(130,.i n)],[(162,[s.c 162 0,s.c 162 1,s.c 162 2,s.c 162 3,s.c 162 4,s.c 162 5,s.c 162 6,s.c 162 7,s.c 162 8,s.c 162 9,s.c 162 10,s.c 162 11]),(5,[s.c 5 0]),(6,[s.c 6 0,s.c 6 1,s.c 6 2,s.c 6 3,s.c 6 4,s.c 6 5,s.c 6 6,s.c 6 7])],[]⟩) (fun (n:Nat)=>n ≤ b.owed.length ∧ ∀ o ∈ b.owed.take n,¬ (o.worker = m.frm ∧ o.lease = m.lease)) (fun (n:Nat)=>b.owed.length - n) (0) [some 162,some 5,some 6] [] ⟨rfl,⟨rfl,⟨_,rfl,_,_,rfl,rfl,rfl⟩,⟨_,rfl,_,_,rfl,rfl,_,_,rfl,rfl,_,_,rfl,rfl,_,_,rfl,rfl,_,_,rfl,rfl,_,_,rfl,rfl,_,_,rfl,rfl,_,_,rfl,rfl,rfl⟩,rfl,rfl,rfl,rfl,rfl,rfl,I⟩,⟨⟨rfl,⟨rfl,⟨rfl,⟨rfl,⟨rfl,⟨rfl,⟨rfl,⟨rfl,⟨rfl,⟨rfl,⟨rfl,⟨rfl,⟨rfl,I⟩⟩⟩⟩⟩⟩⟩⟩⟩⟩⟩⟩⟩,⟨⟨rfl,⟨rfl,I⟩⟩,⟨⟨rfl,⟨rfl,⟨rfl,⟨rfl,⟨rfl,⟨rfl,⟨rfl,⟨rfl,⟨rfl,I⟩⟩⟩⟩⟩⟩⟩⟩⟩,I⟩⟩⟩,I⟩ (by simp) ?_
    rintro n ⟨hn,hc⟩
    by_cases hn2:n < b.owed.length
    ·obtain ⟨o,ho⟩:=some_at hn2
     by_cases hw:o.worker = m.frm
     ·by_cases hl:o.lease = m.lease
      ·rw [res3_no (b:=putB b m) (fun q=>owed_hit ho ⟨hw,hl⟩ q.new)]
       conv=>whnf
       refine g 0 0 [] ?_
       conv=>whnf
       refine ⟨⟨I,I⟩,?_⟩
       refine W.sq ?_
       refine W.cn ?_
       conv=>whnf
       refine ⟨fun _=>?_,noF (by simp [*])⟩
       refine W.skip ?_
       refine W.sq ?_
       refine W.blk ?_
       refine g 131 134 [.n (n),.x (owedT o)] ?_
       conv=>whnf
       refine ⟨⟨⟨rfl,(by simp only [lens]; omega)⟩,ixl (by assumption),I,⟨I,I,I,I⟩,I⟩,?_⟩
       refine g 134 145 [.b (true),.b (true),.b (true),.b (true),.b (true),.b (true)] ?_
       conv=>whnf
       refine ⟨⟨I,I,I,I,I,I,⟨dT (by omega),I⟩,⟨dT (by omega),I⟩,⟨dT (by omega),I⟩,⟨dT (by omega),I⟩,⟨dT (by omega),I⟩,dT (by omega),I⟩,?_⟩
       refine W.cn ?_
       conv=>whnf
       refine ⟨fun _=>?_,noF (dT (by omega))⟩
       refine W.ret ?_
       refine EndsW.rt ?_
       conv=>whnf
       refine ⟨I,?_,?_⟩
       rfl
       all_goals (simp only [putB,bossO,cellsOf,List.map_set,List.map_append,List.map_cons,List.map_nil]; rfl)
      ·conv=>whnf
       refine g 0 0 [] ?_
       conv=>whnf
       refine ⟨⟨I,I⟩,?_⟩
       refine W.sq ?_
       refine W.cn ?_
       conv=>whnf
       refine ⟨fun _=>?_,noF (by simp [*])⟩
       refine W.skip ?_
       refine W.sq ?_
       refine W.blk ?_
       refine g 131 134 [.n (n),.x (owedT o)] ?_
       conv=>whnf
       refine ⟨⟨⟨rfl,(by simp only [lens]; omega)⟩,ixl (by assumption),I,⟨I,I,I,I⟩,I⟩,?_⟩
       refine g 134 145 [.b (true),.b (true),.b (true),.b (true),.b (true),.b (true)] ?_
       conv=>whnf
       refine ⟨⟨I,I,I,I,I,I,⟨dT (by omega),I⟩,⟨dT (by omega),I⟩,⟨dT (by omega),I⟩,⟨dT (by omega),I⟩,⟨dT (by omega),I⟩,dT (by omega),I⟩,?_⟩
       refine W.cn ?_
       conv=>whnf
       refine ⟨noT (dF (by omega)),fun _=>?_⟩
       refine W.skip ?_
       refine rg [.i ((↑n:Int) + (1:Int))] ?_
       conv=>whnf
       refine ⟨⟨w64 (by omega) (by omega),I,I⟩,?_⟩
       refine ⟨n + 1,[some 162,some 5,some 6],[],⟨rfl,⟨rfl,⟨_,rfl,_,_,rfl,rfl,rfl⟩,⟨_,rfl,_,_,rfl,rfl,_,_,rfl,rfl,_,_,rfl,rfl,_,_,rfl,rfl,_,_,rfl,rfl,_,_,rfl,rfl,_,_,rfl,rfl,_,_,rfl,rfl,rfl⟩,rfl,rfl,rfl,rfl,rfl,rfl,I⟩,⟨⟨rfl,⟨rfl,⟨rfl,⟨rfl,⟨rfl,⟨rfl,⟨rfl,⟨rfl,⟨rfl,⟨rfl,⟨rfl,⟨rfl,⟨rfl,I⟩⟩⟩⟩⟩⟩⟩⟩⟩⟩⟩⟩⟩,⟨⟨rfl,⟨rfl,I⟩⟩,⟨⟨rfl,⟨rfl,⟨rfl,⟨rfl,⟨rfl,⟨rfl,⟨rfl,⟨rfl,⟨rfl,I⟩⟩⟩⟩⟩⟩⟩⟩⟩,I⟩⟩⟩,I⟩,?_,?_⟩
       rotate_left 1
       (dsimp only; omega)
       dsimp only
       exact ⟨by omega,mem_step hc ho fun q=>hl q.2⟩
     ·conv=>whnf
      refine g 0 0 [] ?_
      conv=>whnf
      refine ⟨⟨I,I⟩,?_⟩
      refine W.sq ?_
      refine W.cn ?_
      conv=>whnf
      refine ⟨fun _=>?_,noF (by simp [*])⟩
      refine W.skip ?_
      refine W.sq ?_
      refine W.blk ?_
      refine g 131 134 [.n (n),.x (owedT o)] ?_
      conv=>whnf
      refine ⟨⟨⟨rfl,(by simp only [lens]; omega)⟩,ixl (by assumption),I,⟨I,I,I,I⟩,I⟩,?_⟩
      refine g 134 145 [.b (false),.b (false),.b (false),.b (false),.b (false),.b (false)] ?_
      conv=>whnf
      refine ⟨⟨I,I,I,I,I,I,dF (by omega),dF (by omega),dF (by omega),dF (by omega),dF (by omega),dF (by omega),I⟩,?_⟩
      refine W.cn ?_
      conv=>whnf
      refine ⟨noT (rfl),fun _=>?_⟩
      refine W.skip ?_
      refine rg [.i ((↑n:Int) + (1:Int))] ?_
      conv=>whnf
      refine ⟨⟨w64 (by omega) (by omega),I,I⟩,?_⟩
      refine ⟨n + 1,[some 162,some 5,some 6],[],⟨rfl,⟨rfl,⟨_,rfl,_,_,rfl,rfl,rfl⟩,⟨_,rfl,_,_,rfl,rfl,_,_,rfl,rfl,_,_,rfl,rfl,_,_,rfl,rfl,_,_,rfl,rfl,_,_,rfl,rfl,_,_,rfl,rfl,_,_,rfl,rfl,rfl⟩,rfl,rfl,rfl,rfl,rfl,rfl,I⟩,⟨⟨rfl,⟨rfl,⟨rfl,⟨rfl,⟨rfl,⟨rfl,⟨rfl,⟨rfl,⟨rfl,⟨rfl,⟨rfl,⟨rfl,⟨rfl,I⟩⟩⟩⟩⟩⟩⟩⟩⟩⟩⟩⟩⟩,⟨⟨rfl,⟨rfl,I⟩⟩,⟨⟨rfl,⟨rfl,⟨rfl,⟨rfl,⟨rfl,⟨rfl,⟨rfl,⟨rfl,⟨rfl,I⟩⟩⟩⟩⟩⟩⟩⟩⟩,I⟩⟩⟩,I⟩,?_,?_⟩
      rotate_left 1
      (dsimp only; omega)
      dsimp only
      exact ⟨by omega,mem_step hc ho fun q=>hw q.1⟩
    ·rw [take_all (by omega)] at hc
     rw [res3_yes (put_owes (ts:=p.tasks) hkr hO hc)]
     conv=>whnf
     refine g 0 0 [] ?_
     conv=>whnf
     refine ⟨⟨I,I⟩,?_⟩
     refine W.sq ?_
     refine W.cn ?_
     conv=>whnf
     refine ⟨noT (by simp [*]),fun _=>?_⟩
     refine W.exit ?_
     refine rgd [[],[],[],[],[],[],[],[],[],[],[],[],[],[],[],[]] ?_
     conv=>whnf
     refine ⟨⟨I,I,I,I,I,I,I,I,I,I,I,⟨⟨I,I,I,I⟩,I⟩,⟨I,I,(by simp only [lens]; omega)⟩,I,I,⟨I,I⟩,I⟩,by kernel_rfl,?_⟩
     refine EndsW.nm ?_
     conv=>whnf
     refine ⟨I,?_,?_⟩
     rfl
     all_goals (simp only [putB,bossO,cellsOf,List.map_set,List.map_append,List.map_cons,List.map_nil]; rfl)
   ·rw [res3_no (b:=putB b m) (fun q=>hO q.room)]
    refine i_impl_Boss_result ?_
    conv=>whnf
    refine g 0 0 [] ?_
    conv=>whnf
    refine ⟨⟨⟨I,I⟩,⟨I,I,I,I,I,I,I,I,I⟩,I⟩,?_⟩
    refine g 11 13 [] ?_
    conv=>whnf
    refine ⟨⟨I,I,I,I⟩,?_⟩
    refine W.sq ?_
    refine gd 13 49 [[],[],[],[],[],[.n (Int.toNat (Message.task m))],[.x (strT y)],[],[],[.b (true)],[.b (true)],[.b (true)],[.b (true)],[.b (true)],[.b (true)],[.b (true)],[.b (true),.x (taskT t)],[.b (true)],[.b (true)],[.b (true),.call (V.b true) ([[],[]])],[.b (true)],[],[.b (true)],[.b (true)],[.b (true)],[.b (true)],[.b (true)],[.b (true)],[.b (true)],[.b (true)],[.b (true)],[.b (true)],[.b (true)],[.b (true)],[.b (true),.i ((↑(List.length (List.map strT (Log.safe (Boss.log b)))):Int) + (↑(List.length (List.map strT (Log.loose (Boss.log b)))):Int))],[.b (true)],[.b (true)]] ?_
    conv=>whnf
    refine ⟨⟨I,I,I,I,I,⟨(by omega),(by simp only [lens]; omega)⟩,ixl (by assumption),I,I,⟨dT (by omega),I⟩,⟨dT (by omega),I⟩,⟨dT (by omega),I⟩,⟨dT (by omega),I⟩,⟨dT (by omega),I⟩,⟨dT (by omega),I⟩,⟨dT (by omega),I⟩,⟨dT (by omega),(by assumption),ixl (by assumption)⟩,⟨dT (by omega),I⟩,⟨dT (by omega),I⟩,⟨dT (by omega),⟨I,I,I⟩,I,⟨⟨I,I⟩,⟨I,I⟩,I⟩,⟨I,I⟩,(by assumption)⟩,dT (by omega),I,⟨rfl,I⟩,⟨rfl,I⟩,⟨rfl,I⟩,⟨rfl,I⟩,⟨rfl,I⟩,⟨rfl,I⟩,⟨rfl,I⟩,⟨rfl,I⟩,⟨rfl,I⟩,⟨rfl,I⟩,⟨rfl,I⟩,⟨rfl,I⟩,⟨rfl,w64 (by simp only [lens]; omega) (by simp only [lens]; omega)⟩,⟨rfl,I⟩,rfl,I⟩,by kernel_rfl,?_⟩
    refine W.cn ?_
    conv=>whnf
    refine ⟨fun h1=>?_,fun h1=>?_⟩
    replace h1:=dt h1
    simp only [List.length_map] at h1
    refine gd 49 58 [[],[],[],[],[],[],[],[.n (Int.toNat (Message.task m))],[.x (strT y)]] ?_
    conv=>whnf
    refine ⟨⟨I,I,I,I,I,I,I,⟨(by omega),(by simp only [lens]; omega)⟩,⟨⟨I,I⟩,ixl (by assumption)⟩,I⟩,by kernel_rfl,?_⟩
    refine gd 58 78 [[],[],[],[],[],[],[],[],[],[],[],[],[],[],[.call (V.s (formS { kind:=(2:Int),epoch:=Boss.epoch b,task:=Message.task m,text:=Message.text m:Entry })) ([[]])],[],[],[],[],[],[]] ?_
    conv=>whnf
    refine ⟨⟨I,I,I,I,I,I,I,I,I,I,I,I,I,I,⟨⟨I,I⟩,I,⟨⟨I,I,I,I,I⟩,I⟩,⟨I,I⟩,(by assumption)⟩,⟨⟨I,I⟩,I⟩,⟨I,I,(by simp only [lens]; omega)⟩,I,I,I,⟨I,I⟩,I⟩,by kernel_rfl,?_⟩
    refine rg [.n (Int.toNat (Message.task m)),.x (jobT j)] ?_
    conv=>whnf
    refine ⟨⟨I,I,I,I,I,I,⟨(by omega),(by simp only [lens]; omega)⟩,⟨⟨I,I,I,I⟩,ixl (by assumption)⟩,I⟩,?_⟩
    refine W.sq ?_
    refine gd 78 101 [[],[],[],[],[],[.n (Int.toNat (Message.task m))],[.x (patch (strT y) (0:Nat) [T.v (Value.string (Message.text m))])],[],[],[.b (false)],[.b (false)],[.b (false)],[.b (false)],[.b (false)],[.b (false)],[.b (false)],[.b (false)]] ?_
    conv=>whnf
    refine ⟨⟨I,I,I,I,I,⟨(by omega),(by simp only [lens]; omega)⟩,getset (by simp only [lens]; omega),I,I,dF (by omega),dF (by omega),dF (by omega),dF (by omega),dF (by omega),dF (by omega),dF (by omega),dF (by omega),I⟩,by kernel_rfl,?_⟩
    refine W.cn ?_
    conv=>whnf
    refine ⟨noT (rfl),fun _=>?_⟩
    refine W.skip ?_
    refine W.sq ?_
    refine gd 101 124 [[],[],[],[],[],[.n (Int.toNat (Message.task m))],[.x (patch (strT y) (0:Nat) [T.v (Value.string (Message.text m))])],[],[],[],[],[.b (false)],[.b (false)],[.b (false)],[.b (false)],[.b (false)],[.b (false)],[.b (false)]] ?_
    conv=>whnf
    refine ⟨⟨I,I,I,I,I,⟨(by omega),(by simp only [lens]; omega)⟩,getset (by simp only [lens]; omega),I,I,I,I,⟨notF rfl,I⟩,⟨notF rfl,I⟩,⟨notF rfl,I⟩,⟨notF rfl,I⟩,⟨notF rfl,I⟩,⟨notF rfl,I⟩,notF rfl,I⟩,by kernel_rfl,?_⟩
    refine W.cn ?_
    conv=>whnf
    refine ⟨fun h2=>?_,fun h2=>?_⟩
    replace h2:=dt h2
    simp only [List.length_map] at h2
    refine W.ret ?_
    refine EndsW.rt ?_
    conv=>whnf
    refine ⟨I,?_,?_⟩
    rfl
    rotate_left 1
    replace h2:=df h2
    simp only [List.length_map] at h2
    omega
    replace h1:=df h1
    simp only [List.length_map] at h1
    omega
    all_goals (simp only [putB,bossO,cellsOf,List.map_set,List.map_append,List.map_cons,List.map_nil]; rfl)
  ·rw [res_emp hP (by rw [hya]; exact hA) hte]
   by_cases hF:readyB b.results t.deps
   ·rw [decide_eq_true hF] at crd
    have hR:¬ b.log.safe.length + b.log.loose.length < 310:=fun q=>hP ⟨by rw [hya]; exact hA,by rw [deps_get ht0]; exact hF,q⟩
    by_cases ho:oldM b m
    ·have ho2:=hold.1 ho
     rw [free_old ho]
     refine i_impl_Boss_result ?_
     conv=>whnf
     refine g 0 0 [] ?_
     conv=>whnf
     refine ⟨⟨⟨I,I⟩,⟨I,I,I,I,I,I,I,I,I⟩,I⟩,?_⟩
     refine g 11 13 [] ?_
     conv=>whnf
     refine ⟨⟨I,I,I,I⟩,?_⟩
     refine W.sq ?_
     refine gd 13 49 [[],[],[],[],[],[.n (Int.toNat (Message.task m))],[.x (strT y)],[],[],[.b (true)],[.b (true)],[.b (true)],[.b (true)],[.b (true)],[.b (true)],[.b (true)],[.b (true),.x (taskT t)],[.b (true)],[.b (true)],[.b (true),.call (V.b true) ([[],[]])],[.b (true)],[],[.b (true)],[.b (true)],[.b (true)],[.b (true)],[.b (true)],[.b (true)],[.b (true)],[.b (true)],[.b (true)],[.b (true)],[.b (true)],[.b (true)],[.b (true),.i ((↑(List.length (List.map strT (Log.safe (Boss.log b)))):Int) + (↑(List.length (List.map strT (Log.loose (Boss.log b)))):Int))],[.b (true)],[.b (true)]] ?_
     conv=>whnf
     refine ⟨⟨I,I,I,I,I,⟨(by omega),(by simp only [lens]; omega)⟩,ixl (by assumption),I,I,⟨dT (by omega),I⟩,⟨dT (by omega),I⟩,⟨dT (by omega),I⟩,⟨dT (by omega),I⟩,⟨dT (by omega),I⟩,⟨dT (by omega),I⟩,⟨dT (by omega),I⟩,⟨dT (by omega),(by assumption),ixl (by assumption)⟩,⟨dT (by omega),I⟩,⟨dT (by omega),I⟩,⟨dT (by omega),⟨I,I,I⟩,I,⟨⟨I,I⟩,⟨I,I⟩,I⟩,⟨I,I⟩,(by assumption)⟩,dT (by omega),I,⟨rfl,I⟩,⟨rfl,I⟩,⟨rfl,I⟩,⟨rfl,I⟩,⟨rfl,I⟩,⟨rfl,I⟩,⟨rfl,I⟩,⟨rfl,I⟩,⟨rfl,I⟩,⟨rfl,I⟩,⟨rfl,I⟩,⟨rfl,I⟩,⟨rfl,w64 (by simp only [lens]; omega) (by simp only [lens]; omega)⟩,⟨rfl,I⟩,rfl,I⟩,by kernel_rfl,?_⟩
     refine W.cn ?_
     conv=>whnf
     refine ⟨fun h1=>?_,fun h1=>?_⟩
     replace h1:=dt h1
     simp only [List.length_map] at h1
     omega
     replace h1:=df h1
     simp only [List.length_map] at h1
     refine W.skip ?_
     refine W.sq ?_
     refine gd 49 101 [[],[],[],[],[],[.n (Int.toNat (Message.task m))],[.x (strT y)],[],[],[.b (true)],[.b (true)],[.b (true)],[.b (true)],[.b (true)],[.b (true),.x (seatT x)],[.b (true)],[.b (true)]] ?_
     conv=>whnf
     refine ⟨⟨I,I,I,I,I,⟨(by omega),(by simp only [lens]; omega)⟩,ixl (by assumption),I,I,⟨dT (by omega),I⟩,⟨dT (by omega),I⟩,⟨dT (by omega),I⟩,⟨dT (by omega),I⟩,⟨dT (by omega),I⟩,⟨dT (by omega),ixl (by assumption)⟩,⟨dT (by omega),I⟩,dT (by omega),I⟩,by kernel_rfl,?_⟩
     refine W.cn ?_
     conv=>whnf
     refine ⟨noT (dF (by omega)),fun _=>?_⟩
     refine W.skip ?_
     refine W.sq ?_
     by_cases h2:y = Message.text m
     refine gd 101 124 [[],[],[],[],[],[.n (Int.toNat (Message.task m))],[.x (strT y)],[],[],[],[],[.b (false)],[.b (false)],[.b (false)],[.b (false)],[.b (false)],[.b (false)],[.b (false)]] ?_
     conv=>whnf
     refine ⟨⟨I,I,I,I,I,⟨(by omega),(by simp only [lens]; omega)⟩,ixl (by assumption),I,I,I,I,⟨notF (by omega),I⟩,⟨notF (by omega),I⟩,⟨notF (by omega),I⟩,⟨notF (by omega),I⟩,⟨notF (by omega),I⟩,⟨notF (by omega),I⟩,notF (by omega),I⟩,by kernel_rfl,?_⟩
     refine W.cn ?_
     conv=>whnf
     refine ⟨fun _=>?_,noF (by simp_all)⟩
     refine W.ret ?_
     refine EndsW.rt ?_
     conv=>whnf
     refine ⟨I,?_,rfl⟩
     rfl
     refine gd 101 124 [[],[],[],[],[],[.n (Int.toNat (Message.task m))],[.x (strT y)],[],[],[],[],[.b (true)],[.b (true)],[.b (true)],[.b (true)],[.b (true)],[.b (true)],[.b (true)]] ?_
     conv=>whnf
     refine ⟨⟨I,I,I,I,I,⟨(by omega),(by simp only [lens]; omega)⟩,ixl (by assumption),I,I,I,I,notT (by omega),notT (by omega),notT (by omega),notT (by omega),notT (by omega),notT (by omega),notT (by omega),I⟩,by kernel_rfl,?_⟩
     refine W.cn ?_
     conv=>whnf
     refine ⟨fun _=>?_,noF (rfl)⟩
     refine W.ret ?_
     refine EndsW.rt ?_
     conv=>whnf
     refine ⟨I,?_,rfl⟩
     rfl
    ·have ho2:¬ m.epoch < x.epoch:=fun q=>ho (hold.2 q)
     rw [free_new ho]
     refine i_impl_Boss_result ?_
     conv=>whnf
     refine g 0 0 [] ?_
     conv=>whnf
     refine ⟨⟨⟨I,I⟩,⟨I,I,I,I,I,I,I,I,I⟩,I⟩,?_⟩
     refine g 11 13 [] ?_
     conv=>whnf
     refine ⟨⟨I,I,I,I⟩,?_⟩
     refine W.sq ?_
     refine gd 13 49 [[],[],[],[],[],[.n (Int.toNat (Message.task m))],[.x (strT y)],[],[],[.b (true)],[.b (true)],[.b (true)],[.b (true)],[.b (true)],[.b (true)],[.b (true)],[.b (true),.x (taskT t)],[.b (true)],[.b (true)],[.b (true),.call (V.b true) ([[],[]])],[.b (true)],[],[.b (true)],[.b (true)],[.b (true)],[.b (true)],[.b (true)],[.b (true)],[.b (true)],[.b (true)],[.b (true)],[.b (true)],[.b (true)],[.b (true)],[.b (true),.i ((↑(List.length (List.map strT (Log.safe (Boss.log b)))):Int) + (↑(List.length (List.map strT (Log.loose (Boss.log b)))):Int))],[.b (true)],[.b (true)]] ?_
     conv=>whnf
     refine ⟨⟨I,I,I,I,I,⟨(by omega),(by simp only [lens]; omega)⟩,ixl (by assumption),I,I,⟨dT (by omega),I⟩,⟨dT (by omega),I⟩,⟨dT (by omega),I⟩,⟨dT (by omega),I⟩,⟨dT (by omega),I⟩,⟨dT (by omega),I⟩,⟨dT (by omega),I⟩,⟨dT (by omega),(by assumption),ixl (by assumption)⟩,⟨dT (by omega),I⟩,⟨dT (by omega),I⟩,⟨dT (by omega),⟨I,I,I⟩,I,⟨⟨I,I⟩,⟨I,I⟩,I⟩,⟨I,I⟩,(by assumption)⟩,dT (by omega),I,⟨rfl,I⟩,⟨rfl,I⟩,⟨rfl,I⟩,⟨rfl,I⟩,⟨rfl,I⟩,⟨rfl,I⟩,⟨rfl,I⟩,⟨rfl,I⟩,⟨rfl,I⟩,⟨rfl,I⟩,⟨rfl,I⟩,⟨rfl,I⟩,⟨rfl,w64 (by simp only [lens]; omega) (by simp only [lens]; omega)⟩,⟨rfl,I⟩,rfl,I⟩,by kernel_rfl,?_⟩
     refine W.cn ?_
     conv=>whnf
     refine ⟨fun h1=>?_,fun h1=>?_⟩
     replace h1:=dt h1
     simp only [List.length_map] at h1
     omega
     replace h1:=df h1
     simp only [List.length_map] at h1
     refine W.skip ?_
     refine W.sq ?_
     refine gd 49 101 [[],[],[],[],[],[.n (Int.toNat (Message.task m))],[.x (strT y)],[],[],[.b (true)],[.b (true)],[.b (true)],[.b (true)],[.b (true)],[.b (true),.x (seatT x)],[.b (true)],[.b (true)]] ?_
     conv=>whnf
     refine ⟨⟨I,I,I,I,I,⟨(by omega),(by simp only [lens]; omega)⟩,ixl (by assumption),I,I,⟨dT (by omega),I⟩,⟨dT (by omega),I⟩,⟨dT (by omega),I⟩,⟨dT (by omega),I⟩,⟨dT (by omega),I⟩,⟨dT (by omega),ixl (by assumption)⟩,⟨dT (by omega),I⟩,dT (by omega),I⟩,by kernel_rfl,?_⟩
     refine W.cn ?_
     conv=>whnf
     refine ⟨fun _=>?_,noF (dT (by omega))⟩
     refine rg [.x (seatT x)] ?_
     conv=>whnf
     refine ⟨⟨I,I,I,I,I,⟨⟨I,I,I⟩,ixl (by assumption)⟩,I⟩,?_⟩
     refine W.sq ?_
     by_cases h2:y = Message.text m
     refine gd 101 124 [[],[],[],[],[],[.n (Int.toNat (Message.task m))],[.x (strT y)],[],[],[],[],[.b (false)],[.b (false)],[.b (false)],[.b (false)],[.b (false)],[.b (false)],[.b (false)]] ?_
     conv=>whnf
     refine ⟨⟨I,I,I,I,I,⟨(by omega),(by simp only [lens]; omega)⟩,ixl (by assumption),I,I,I,I,⟨notF (by omega),I⟩,⟨notF (by omega),I⟩,⟨notF (by omega),I⟩,⟨notF (by omega),I⟩,⟨notF (by omega),I⟩,⟨notF (by omega),I⟩,notF (by omega),I⟩,by kernel_rfl,?_⟩
     refine W.cn ?_
     conv=>whnf
     refine ⟨fun _=>?_,noF (by simp_all)⟩
     refine W.ret ?_
     refine EndsW.rt ?_
     conv=>whnf
     refine ⟨I,?_,?_⟩
     rfl
     rotate_left 1
     refine gd 101 124 [[],[],[],[],[],[.n (Int.toNat (Message.task m))],[.x (strT y)],[],[],[],[],[.b (true)],[.b (true)],[.b (true)],[.b (true)],[.b (true)],[.b (true)],[.b (true)]] ?_
     conv=>whnf
     refine ⟨⟨I,I,I,I,I,⟨(by omega),(by simp only [lens]; omega)⟩,ixl (by assumption),I,I,I,I,notT (by omega),notT (by omega),notT (by omega),notT (by omega),notT (by omega),notT (by omega),notT (by omega),I⟩,by kernel_rfl,?_⟩
     refine W.cn ?_
     conv=>whnf
     refine ⟨fun _=>?_,noF (rfl)⟩
     refine W.ret ?_
     refine EndsW.rt ?_
     conv=>whnf
     refine ⟨I,?_,?_⟩
     rfl
     rotate_left 1
     all_goals (simp only [putB,bossO,cellsOf,List.map_set,List.map_append,List.map_cons,List.map_nil]; rfl)
   ·rw [decide_eq_false hF] at crd
    by_cases ho:oldM b m
    ·have ho2:=hold.1 ho
     rw [free_old ho]
     refine i_impl_Boss_result ?_
     conv=>whnf
     refine g 0 0 [] ?_
     conv=>whnf
     refine ⟨⟨⟨I,I⟩,⟨I,I,I,I,I,I,I,I,I⟩,I⟩,?_⟩
     refine g 11 13 [] ?_
     conv=>whnf
     refine ⟨⟨I,I,I,I⟩,?_⟩
     refine W.sq ?_
     refine gd 13 49 [[],[],[],[],[],[.n (Int.toNat (Message.task m))],[.x (strT y)],[],[],[.b (true)],[.b (true)],[.b (true)],[.b (true)],[.b (true)],[.b (true)],[.b (true)],[.b (true),.x (taskT t)],[.b (true)],[.b (true)],[.b (true),.call (V.b false) ([[],[]])],[.b (true)],[],[.b (false)],[.b (false)],[.b (false)],[.b (false)],[.b (false)],[.b (false)],[.b (false)],[.b (false)],[.b (false)],[.b (false)],[.b (false)],[.b (false)],[.b (false)],[.b (false)],[.b (false)]] ?_
     conv=>whnf
     refine ⟨⟨I,I,I,I,I,⟨(by omega),(by simp only [lens]; omega)⟩,ixl (by assumption),I,I,⟨dT (by omega),I⟩,⟨dT (by omega),I⟩,⟨dT (by omega),I⟩,⟨dT (by omega),I⟩,⟨dT (by omega),I⟩,⟨dT (by omega),I⟩,⟨dT (by omega),I⟩,⟨dT (by omega),(by assumption),ixl (by assumption)⟩,⟨dT (by omega),I⟩,⟨dT (by omega),I⟩,⟨dT (by omega),⟨I,I,I⟩,I,⟨⟨I,I⟩,⟨I,I⟩,I⟩,⟨I,I⟩,(by assumption)⟩,dT (by omega),I,rfl,rfl,rfl,rfl,rfl,rfl,rfl,rfl,rfl,rfl,rfl,rfl,rfl,rfl,rfl,I⟩,by kernel_rfl,?_⟩
     refine W.cn ?_
     conv=>whnf
     refine ⟨noT (rfl),fun _=>?_⟩
     refine W.skip ?_
     refine W.sq ?_
     refine gd 49 101 [[],[],[],[],[],[.n (Int.toNat (Message.task m))],[.x (strT y)],[],[],[.b (true)],[.b (true)],[.b (true)],[.b (true)],[.b (true)],[.b (true),.x (seatT x)],[.b (true)],[.b (true)]] ?_
     conv=>whnf
     refine ⟨⟨I,I,I,I,I,⟨(by omega),(by simp only [lens]; omega)⟩,ixl (by assumption),I,I,⟨dT (by omega),I⟩,⟨dT (by omega),I⟩,⟨dT (by omega),I⟩,⟨dT (by omega),I⟩,⟨dT (by omega),I⟩,⟨dT (by omega),ixl (by assumption)⟩,⟨dT (by omega),I⟩,dT (by omega),I⟩,by kernel_rfl,?_⟩
     refine W.cn ?_
     conv=>whnf
     refine ⟨noT (dF (by omega)),fun _=>?_⟩
     refine W.skip ?_
     refine W.sq ?_
     by_cases h1:y = Message.text m
     refine gd 101 124 [[],[],[],[],[],[.n (Int.toNat (Message.task m))],[.x (strT y)],[],[],[],[],[.b (false)],[.b (false)],[.b (false)],[.b (false)],[.b (false)],[.b (false)],[.b (false)]] ?_
     conv=>whnf
     refine ⟨⟨I,I,I,I,I,⟨(by omega),(by simp only [lens]; omega)⟩,ixl (by assumption),I,I,I,I,⟨notF (by omega),I⟩,⟨notF (by omega),I⟩,⟨notF (by omega),I⟩,⟨notF (by omega),I⟩,⟨notF (by omega),I⟩,⟨notF (by omega),I⟩,notF (by omega),I⟩,by kernel_rfl,?_⟩
     refine W.cn ?_
     conv=>whnf
     refine ⟨fun _=>?_,noF (by simp_all)⟩
     refine W.ret ?_
     refine EndsW.rt ?_
     conv=>whnf
     refine ⟨I,?_,rfl⟩
     rfl
     refine gd 101 124 [[],[],[],[],[],[.n (Int.toNat (Message.task m))],[.x (strT y)],[],[],[],[],[.b (true)],[.b (true)],[.b (true)],[.b (true)],[.b (true)],[.b (true)],[.b (true)]] ?_
     conv=>whnf
     refine ⟨⟨I,I,I,I,I,⟨(by omega),(by simp only [lens]; omega)⟩,ixl (by assumption),I,I,I,I,notT (by omega),notT (by omega),notT (by omega),notT (by omega),notT (by omega),notT (by omega),notT (by omega),I⟩,by kernel_rfl,?_⟩
     refine W.cn ?_
     conv=>whnf
     refine ⟨fun _=>?_,noF (rfl)⟩
     refine W.ret ?_
     refine EndsW.rt ?_
     conv=>whnf
     refine ⟨I,?_,rfl⟩
     rfl
    ·have ho2:¬ m.epoch < x.epoch:=fun q=>ho (hold.2 q)
     rw [free_new ho]
     refine i_impl_Boss_result ?_
     conv=>whnf
     refine g 0 0 [] ?_
     conv=>whnf
     refine ⟨⟨⟨I,I⟩,⟨I,I,I,I,I,I,I,I,I⟩,I⟩,?_⟩
     refine g 11 13 [] ?_
     conv=>whnf
     refine ⟨⟨I,I,I,I⟩,?_⟩
     refine W.sq ?_
     refine gd 13 49 [[],[],[],[],[],[.n (Int.toNat (Message.task m))],[.x (strT y)],[],[],[.b (true)],[.b (true)],[.b (true)],[.b (true)],[.b (true)],[.b (true)],[.b (true)],[.b (true),.x (taskT t)],[.b (true)],[.b (true)],[.b (true),.call (V.b false) ([[],[]])],[.b (true)],[],[.b (false)],[.b (false)],[.b (false)],[.b (false)],[.b (false)],[.b (false)],[.b (false)],[.b (false)],[.b (false)],[.b (false)],[.b (false)],[.b (false)],[.b (false)],[.b (false)],[.b (false)]] ?_
     conv=>whnf
     refine ⟨⟨I,I,I,I,I,⟨(by omega),(by simp only [lens]; omega)⟩,ixl (by assumption),I,I,⟨dT (by omega),I⟩,⟨dT (by omega),I⟩,⟨dT (by omega),I⟩,⟨dT (by omega),I⟩,⟨dT (by omega),I⟩,⟨dT (by omega),I⟩,⟨dT (by omega),I⟩,⟨dT (by omega),(by assumption),ixl (by assumption)⟩,⟨dT (by omega),I⟩,⟨dT (by omega),I⟩,⟨dT (by omega),⟨I,I,I⟩,I,⟨⟨I,I⟩,⟨I,I⟩,I⟩,⟨I,I⟩,(by assumption)⟩,dT (by omega),I,rfl,rfl,rfl,rfl,rfl,rfl,rfl,rfl,rfl,rfl,rfl,rfl,rfl,rfl,rfl,I⟩,by kernel_rfl,?_⟩
     refine W.cn ?_
     conv=>whnf
     refine ⟨noT (rfl),fun _=>?_⟩
     refine W.skip ?_
     refine W.sq ?_
     refine gd 49 101 [[],[],[],[],[],[.n (Int.toNat (Message.task m))],[.x (strT y)],[],[],[.b (true)],[.b (true)],[.b (true)],[.b (true)],[.b (true)],[.b (true),.x (seatT x)],[.b (true)],[.b (true)]] ?_
     conv=>whnf
     refine ⟨⟨I,I,I,I,I,⟨(by omega),(by simp only [lens]; omega)⟩,ixl (by assumption),I,I,⟨dT (by omega),I⟩,⟨dT (by omega),I⟩,⟨dT (by omega),I⟩,⟨dT (by omega),I⟩,⟨dT (by omega),I⟩,⟨dT (by omega),ixl (by assumption)⟩,⟨dT (by omega),I⟩,dT (by omega),I⟩,by kernel_rfl,?_⟩
     refine W.cn ?_
     conv=>whnf
     refine ⟨fun _=>?_,noF (dT (by omega))⟩
     refine rg [.x (seatT x)] ?_
     conv=>whnf
     refine ⟨⟨I,I,I,I,I,⟨⟨I,I,I⟩,ixl (by assumption)⟩,I⟩,?_⟩
     refine W.sq ?_
     by_cases h1:y = Message.text m
     refine gd 101 124 [[],[],[],[],[],[.n (Int.toNat (Message.task m))],[.x (strT y)],[],[],[],[],[.b (false)],[.b (false)],[.b (false)],[.b (false)],[.b (false)],[.b (false)],[.b (false)]] ?_
     conv=>whnf
     refine ⟨⟨I,I,I,I,I,⟨(by omega),(by simp only [lens]; omega)⟩,ixl (by assumption),I,I,I,I,⟨notF (by omega),I⟩,⟨notF (by omega),I⟩,⟨notF (by omega),I⟩,⟨notF (by omega),I⟩,⟨notF (by omega),I⟩,⟨notF (by omega),I⟩,notF (by omega),I⟩,by kernel_rfl,?_⟩
     refine W.cn ?_
     conv=>whnf
     refine ⟨fun _=>?_,noF (by simp_all)⟩
     refine W.ret ?_
     refine EndsW.rt ?_
     conv=>whnf
     refine ⟨I,?_,?_⟩
     rfl
     rotate_left 1
     refine gd 101 124 [[],[],[],[],[],[.n (Int.toNat (Message.task m))],[.x (strT y)],[],[],[],[],[.b (true)],[.b (true)],[.b (true)],[.b (true)],[.b (true)],[.b (true)],[.b (true)]] ?_
     conv=>whnf
     refine ⟨⟨I,I,I,I,I,⟨(by omega),(by simp only [lens]; omega)⟩,ixl (by assumption),I,I,I,I,notT (by omega),notT (by omega),notT (by omega),notT (by omega),notT (by omega),notT (by omega),notT (by omega),I⟩,by kernel_rfl,?_⟩
     refine W.cn ?_
     conv=>whnf
     refine ⟨fun _=>?_,noF (rfl)⟩
     refine W.ret ?_
     refine EndsW.rt ?_
     conv=>whnf
     refine ⟨I,?_,?_⟩
     rfl
     rotate_left 1
     all_goals (simp only [putB,bossO,cellsOf,List.map_set,List.map_append,List.map_cons,List.map_nil]; rfl)
 ·rw [res_full (by rw [hya]; exact hA)]
  by_cases hs:y = m.text
  ·by_cases hO:b.owed.length < 2000
   ·refine i_impl_Boss_result ?_
    conv=>whnf
    refine g 0 0 [] ?_
    conv=>whnf
    refine ⟨⟨⟨I,I⟩,⟨I,I,I,I,I,I,I,I,I⟩,I⟩,?_⟩
    refine g 11 13 [] ?_
    conv=>whnf
    refine ⟨⟨I,I,I,I⟩,?_⟩
    refine W.sq ?_
    refine gd 13 49 [[],[],[],[],[],[.n (Int.toNat (Message.task m))],[.x (strT y)],[],[],[.b (false)],[.b (false)],[.b (false)],[.b (false)],[.b (false)],[.b (false)],[.b (false)],[.b (false)],[.b (false)],[.b (false)],[.b (false)],[.b (false)],[],[.b (false)],[.b (false)],[.b (false)],[.b (false)],[.b (false)],[.b (false)],[.b (false)],[.b (false)],[.b (false)],[.b (false)],[.b (false)],[.b (false)],[.b (false)],[.b (false)],[.b (false)]] ?_
    conv=>whnf
    refine ⟨⟨I,I,I,I,I,⟨(by omega),(by simp only [lens]; omega)⟩,ixl (by assumption),I,I,dF (by omega),dF (by omega),dF (by omega),dF (by omega),dF (by omega),dF (by omega),dF (by omega),dF (by omega),dF (by omega),dF (by omega),dF (by omega),dF (by omega),I,rfl,rfl,rfl,rfl,rfl,rfl,rfl,rfl,rfl,rfl,rfl,rfl,rfl,rfl,rfl,I⟩,by kernel_rfl,?_⟩
    refine W.cn ?_
    conv=>whnf
    refine ⟨noT (rfl),fun _=>?_⟩
    refine W.skip ?_
    refine W.sq ?_
    refine gd 49 101 [[],[],[],[],[],[.n (Int.toNat (Message.task m))],[.x (strT y)],[],[],[.b (false)],[.b (false)],[.b (false)],[.b (false)],[.b (false)],[.b (false)],[.b (false)],[.b (false)]] ?_
    conv=>whnf
    refine ⟨⟨I,I,I,I,I,⟨(by omega),(by simp only [lens]; omega)⟩,ixl (by assumption),I,I,dF (by omega),dF (by omega),dF (by omega),dF (by omega),dF (by omega),dF (by omega),dF (by omega),dF (by omega),I⟩,by kernel_rfl,?_⟩
    refine W.cn ?_
    conv=>whnf
    refine ⟨noT (rfl),fun _=>?_⟩
    refine W.skip ?_
    refine W.sq ?_
    refine gd 101 124 [[],[],[],[],[],[.n (Int.toNat (Message.task m))],[.x (strT y)],[],[],[],[],[.b (false)],[.b (false)],[.b (false)],[.b (false)],[.b (false)],[.b (false)],[.b (false)]] ?_
    conv=>whnf
    refine ⟨⟨I,I,I,I,I,⟨(by omega),(by simp only [lens]; omega)⟩,ixl (by assumption),I,I,I,I,⟨notF (by omega),I⟩,⟨notF (by omega),I⟩,⟨notF (by omega),I⟩,⟨notF (by omega),I⟩,⟨notF (by omega),I⟩,⟨notF (by omega),I⟩,notF (by omega),I⟩,by kernel_rfl,?_⟩
    refine W.cn ?_
    conv=>whnf
    refine ⟨fun h1=>?_,fun h1=>?_⟩
    replace h1:=dt h1
    simp only [List.length_map] at h1
    omega
    replace h1:=df h1
    simp only [List.length_map] at h1
    refine W.skip ?_
    refine W.sq ?_
    refine g 124 128 [] ?_
    conv=>whnf
    refine ⟨⟨I,I,I,I,I,I,I⟩,?_⟩
    refine W.blk ?_
    refine W.lp (fun s (n:Nat)=>⟨[(0,s.s 0),(1,s.s 1),(2,s.s 2),(5,s.s 5),(6,s.s 6),(8,s.s 8),(128,s.s 128),(129,s.s 129),(130,.i n)],[(162,[s.c 162 0,s.c 162 1,s.c 162 2,s.c 162 3,s.c 162 4,s.c 162 5,s.c 162 6,s.c 162 7,s.c 162 8,s.c 162 9,s.c 162 10,s.c 162 11]),(5,[s.c 5 0]),(6,[s.c 6 0,s.c 6 1,s.c 6 2,s.c 6 3,s.c 6 4,s.c 6 5,s.c 6 6,s.c 6 7])],[]⟩) (fun (n:Nat)=>n ≤ b.owed.length ∧ ∀ o ∈ b.owed.take n,¬ (o.worker = m.frm ∧ o.lease = m.lease)) (fun (n:Nat)=>b.owed.length - n) (0) [some 162,some 5,some 6] [] ⟨rfl,⟨rfl,⟨_,rfl,_,_,rfl,rfl,rfl⟩,⟨_,rfl,_,_,rfl,rfl,_,_,rfl,rfl,_,_,rfl,rfl,_,_,rfl,rfl,_,_,rfl,rfl,_,_,rfl,rfl,_,_,rfl,rfl,_,_,rfl,rfl,rfl⟩,rfl,rfl,rfl,rfl,rfl,rfl,I⟩,⟨⟨rfl,⟨rfl,⟨rfl,⟨rfl,⟨rfl,⟨rfl,⟨rfl,⟨rfl,⟨rfl,⟨rfl,⟨rfl,⟨rfl,⟨rfl,I⟩⟩⟩⟩⟩⟩⟩⟩⟩⟩⟩⟩⟩,⟨⟨rfl,⟨rfl,I⟩⟩,⟨⟨rfl,⟨rfl,⟨rfl,⟨rfl,⟨rfl,⟨rfl,⟨rfl,⟨rfl,⟨rfl,I⟩⟩⟩⟩⟩⟩⟩⟩⟩,I⟩⟩⟩,I⟩ (by simp) ?_
    rintro n ⟨hn,hc⟩
    by_cases hn2:n < b.owed.length
    ·obtain ⟨o,ho⟩:=some_at hn2
     by_cases hw:o.worker = m.frm
     ·by_cases hl:o.lease = m.lease
      ·rw [res3_no (fun q=>owed_hit ho ⟨hw,hl⟩ q.new)]
       conv=>whnf
       refine g 0 0 [] ?_
       conv=>whnf
       refine ⟨⟨I,I⟩,?_⟩
       refine W.sq ?_
       refine W.cn ?_
       conv=>whnf
       refine ⟨fun _=>?_,noF (by simp [*])⟩
       refine W.skip ?_
       refine W.sq ?_
       refine W.blk ?_
       refine g 131 134 [.n (n),.x (owedT o)] ?_
       conv=>whnf
       refine ⟨⟨⟨rfl,(by simp only [lens]; omega)⟩,ixl (by assumption),I,⟨I,I,I,I⟩,I⟩,?_⟩
       refine g 134 145 [.b (true),.b (true),.b (true),.b (true),.b (true),.b (true)] ?_
       conv=>whnf
       refine ⟨⟨I,I,I,I,I,I,⟨dT (by omega),I⟩,⟨dT (by omega),I⟩,⟨dT (by omega),I⟩,⟨dT (by omega),I⟩,⟨dT (by omega),I⟩,dT (by omega),I⟩,?_⟩
       refine W.cn ?_
       conv=>whnf
       refine ⟨fun _=>?_,noF (dT (by omega))⟩
       refine W.ret ?_
       refine EndsW.rt ?_
       conv=>whnf
       refine ⟨I,?_,rfl⟩
       rfl
       all_goals (simp only [putB,bossO,cellsOf,List.map_set,List.map_append,List.map_cons,List.map_nil]; rfl)
      ·conv=>whnf
       refine g 0 0 [] ?_
       conv=>whnf
       refine ⟨⟨I,I⟩,?_⟩
       refine W.sq ?_
       refine W.cn ?_
       conv=>whnf
       refine ⟨fun _=>?_,noF (by simp [*])⟩
       refine W.skip ?_
       refine W.sq ?_
       refine W.blk ?_
       refine g 131 134 [.n (n),.x (owedT o)] ?_
       conv=>whnf
       refine ⟨⟨⟨rfl,(by simp only [lens]; omega)⟩,ixl (by assumption),I,⟨I,I,I,I⟩,I⟩,?_⟩
       refine g 134 145 [.b (true),.b (true),.b (true),.b (true),.b (true),.b (true)] ?_
       conv=>whnf
       refine ⟨⟨I,I,I,I,I,I,⟨dT (by omega),I⟩,⟨dT (by omega),I⟩,⟨dT (by omega),I⟩,⟨dT (by omega),I⟩,⟨dT (by omega),I⟩,dT (by omega),I⟩,?_⟩
       refine W.cn ?_
       conv=>whnf
       refine ⟨noT (dF (by omega)),fun _=>?_⟩
       refine W.skip ?_
       refine rg [.i ((↑n:Int) + (1:Int))] ?_
       conv=>whnf
       refine ⟨⟨w64 (by omega) (by omega),I,I⟩,?_⟩
       refine ⟨n + 1,[some 162,some 5,some 6],[],⟨rfl,⟨rfl,⟨_,rfl,_,_,rfl,rfl,rfl⟩,⟨_,rfl,_,_,rfl,rfl,_,_,rfl,rfl,_,_,rfl,rfl,_,_,rfl,rfl,_,_,rfl,rfl,_,_,rfl,rfl,_,_,rfl,rfl,_,_,rfl,rfl,rfl⟩,rfl,rfl,rfl,rfl,rfl,rfl,I⟩,⟨⟨rfl,⟨rfl,⟨rfl,⟨rfl,⟨rfl,⟨rfl,⟨rfl,⟨rfl,⟨rfl,⟨rfl,⟨rfl,⟨rfl,⟨rfl,I⟩⟩⟩⟩⟩⟩⟩⟩⟩⟩⟩⟩⟩,⟨⟨rfl,⟨rfl,I⟩⟩,⟨⟨rfl,⟨rfl,⟨rfl,⟨rfl,⟨rfl,⟨rfl,⟨rfl,⟨rfl,⟨rfl,I⟩⟩⟩⟩⟩⟩⟩⟩⟩,I⟩⟩⟩,I⟩,?_,?_⟩
       rotate_left 1
       (dsimp only; omega)
       dsimp only
       exact ⟨by omega,mem_step hc ho fun q=>hl q.2⟩
     ·conv=>whnf
      refine g 0 0 [] ?_
      conv=>whnf
      refine ⟨⟨I,I⟩,?_⟩
      refine W.sq ?_
      refine W.cn ?_
      conv=>whnf
      refine ⟨fun _=>?_,noF (by simp [*])⟩
      refine W.skip ?_
      refine W.sq ?_
      refine W.blk ?_
      refine g 131 134 [.n (n),.x (owedT o)] ?_
      conv=>whnf
      refine ⟨⟨⟨rfl,(by simp only [lens]; omega)⟩,ixl (by assumption),I,⟨I,I,I,I⟩,I⟩,?_⟩
      refine g 134 145 [.b (false),.b (false),.b (false),.b (false),.b (false),.b (false)] ?_
      conv=>whnf
      refine ⟨⟨I,I,I,I,I,I,dF (by omega),dF (by omega),dF (by omega),dF (by omega),dF (by omega),dF (by omega),I⟩,?_⟩
      refine W.cn ?_
      conv=>whnf
      refine ⟨noT (rfl),fun _=>?_⟩
      refine W.skip ?_
      refine rg [.i ((↑n:Int) + (1:Int))] ?_
      conv=>whnf
      refine ⟨⟨w64 (by omega) (by omega),I,I⟩,?_⟩
      refine ⟨n + 1,[some 162,some 5,some 6],[],⟨rfl,⟨rfl,⟨_,rfl,_,_,rfl,rfl,rfl⟩,⟨_,rfl,_,_,rfl,rfl,_,_,rfl,rfl,_,_,rfl,rfl,_,_,rfl,rfl,_,_,rfl,rfl,_,_,rfl,rfl,_,_,rfl,rfl,_,_,rfl,rfl,rfl⟩,rfl,rfl,rfl,rfl,rfl,rfl,I⟩,⟨⟨rfl,⟨rfl,⟨rfl,⟨rfl,⟨rfl,⟨rfl,⟨rfl,⟨rfl,⟨rfl,⟨rfl,⟨rfl,⟨rfl,⟨rfl,I⟩⟩⟩⟩⟩⟩⟩⟩⟩⟩⟩⟩⟩,⟨⟨rfl,⟨rfl,I⟩⟩,⟨⟨rfl,⟨rfl,⟨rfl,⟨rfl,⟨rfl,⟨rfl,⟨rfl,⟨rfl,⟨rfl,I⟩⟩⟩⟩⟩⟩⟩⟩⟩,I⟩⟩⟩,I⟩,?_,?_⟩
      rotate_left 1
      (dsimp only; omega)
      dsimp only
      exact ⟨by omega,mem_step hc ho fun q=>hw q.1⟩
    ·rw [take_all (by omega)] at hc
     rw [res3_yes ⟨by rw [hya]; exact hs,hO,hc⟩]
     conv=>whnf
     refine g 0 0 [] ?_
     conv=>whnf
     refine ⟨⟨I,I⟩,?_⟩
     refine W.sq ?_
     refine W.cn ?_
     conv=>whnf
     refine ⟨noT (by simp [*]),fun _=>?_⟩
     refine W.exit ?_
     refine rgd [[],[],[],[],[],[],[],[],[],[],[],[],[],[],[],[]] ?_
     conv=>whnf
     refine ⟨⟨I,I,I,I,I,I,I,I,I,I,I,⟨⟨I,I,I,I⟩,I⟩,⟨I,I,(by simp only [lens]; omega)⟩,I,I,⟨I,I⟩,I⟩,by kernel_rfl,?_⟩
     refine EndsW.nm ?_
     conv=>whnf
     refine ⟨I,?_,?_⟩
     rfl
     all_goals (simp only [putB,bossO,cellsOf,List.map_set,List.map_append,List.map_cons,List.map_nil]; rfl)
   ·rw [res3_no (fun q=>hO q.room)]
    refine i_impl_Boss_result ?_
    conv=>whnf
    refine g 0 0 [] ?_
    conv=>whnf
    refine ⟨⟨⟨I,I⟩,⟨I,I,I,I,I,I,I,I,I⟩,I⟩,?_⟩
    refine g 11 13 [] ?_
    conv=>whnf
    refine ⟨⟨I,I,I,I⟩,?_⟩
    refine W.sq ?_
    refine gd 13 49 [[],[],[],[],[],[.n (Int.toNat (Message.task m))],[.x (strT y)],[],[],[.b (false)],[.b (false)],[.b (false)],[.b (false)],[.b (false)],[.b (false)],[.b (false)],[.b (false)],[.b (false)],[.b (false)],[.b (false)],[.b (false)],[],[.b (false)],[.b (false)],[.b (false)],[.b (false)],[.b (false)],[.b (false)],[.b (false)],[.b (false)],[.b (false)],[.b (false)],[.b (false)],[.b (false)],[.b (false)],[.b (false)],[.b (false)]] ?_
    conv=>whnf
    refine ⟨⟨I,I,I,I,I,⟨(by omega),(by simp only [lens]; omega)⟩,ixl (by assumption),I,I,dF (by omega),dF (by omega),dF (by omega),dF (by omega),dF (by omega),dF (by omega),dF (by omega),dF (by omega),dF (by omega),dF (by omega),dF (by omega),dF (by omega),I,rfl,rfl,rfl,rfl,rfl,rfl,rfl,rfl,rfl,rfl,rfl,rfl,rfl,rfl,rfl,I⟩,by kernel_rfl,?_⟩
    refine W.cn ?_
    conv=>whnf
    refine ⟨noT (rfl),fun _=>?_⟩
    refine W.skip ?_
    refine W.sq ?_
    refine gd 49 101 [[],[],[],[],[],[.n (Int.toNat (Message.task m))],[.x (strT y)],[],[],[.b (false)],[.b (false)],[.b (false)],[.b (false)],[.b (false)],[.b (false)],[.b (false)],[.b (false)]] ?_
    conv=>whnf
    refine ⟨⟨I,I,I,I,I,⟨(by omega),(by simp only [lens]; omega)⟩,ixl (by assumption),I,I,dF (by omega),dF (by omega),dF (by omega),dF (by omega),dF (by omega),dF (by omega),dF (by omega),dF (by omega),I⟩,by kernel_rfl,?_⟩
    refine W.cn ?_
    conv=>whnf
    refine ⟨noT (rfl),fun _=>?_⟩
    refine W.skip ?_
    refine W.sq ?_
    refine gd 101 124 [[],[],[],[],[],[.n (Int.toNat (Message.task m))],[.x (strT y)],[],[],[],[],[.b (false)],[.b (false)],[.b (false)],[.b (false)],[.b (false)],[.b (false)],[.b (false)]] ?_
    conv=>whnf
    refine ⟨⟨I,I,I,I,I,⟨(by omega),(by simp only [lens]; omega)⟩,ixl (by assumption),I,I,I,I,⟨notF (by omega),I⟩,⟨notF (by omega),I⟩,⟨notF (by omega),I⟩,⟨notF (by omega),I⟩,⟨notF (by omega),I⟩,⟨notF (by omega),I⟩,notF (by omega),I⟩,by kernel_rfl,?_⟩
    refine W.cn ?_
    conv=>whnf
    refine ⟨fun h1=>?_,fun h1=>?_⟩
    replace h1:=dt h1
    simp only [List.length_map] at h1
    refine W.ret ?_
    refine EndsW.rt ?_
    conv=>whnf
    refine ⟨I,?_,rfl⟩
    rfl
    replace h1:=df h1
    simp only [List.length_map] at h1
    omega
  ·rw [res3_no (fun q=>hs (by rw [← q.same,hya]))]
   refine i_impl_Boss_result ?_
   conv=>whnf
   refine g 0 0 [] ?_
   conv=>whnf
   refine ⟨⟨⟨I,I⟩,⟨I,I,I,I,I,I,I,I,I⟩,I⟩,?_⟩
   refine g 11 13 [] ?_
   conv=>whnf
   refine ⟨⟨I,I,I,I⟩,?_⟩
   refine W.sq ?_
   refine gd 13 49 [[],[],[],[],[],[.n (Int.toNat (Message.task m))],[.x (strT y)],[],[],[.b (false)],[.b (false)],[.b (false)],[.b (false)],[.b (false)],[.b (false)],[.b (false)],[.b (false)],[.b (false)],[.b (false)],[.b (false)],[.b (false)],[],[.b (false)],[.b (false)],[.b (false)],[.b (false)],[.b (false)],[.b (false)],[.b (false)],[.b (false)],[.b (false)],[.b (false)],[.b (false)],[.b (false)],[.b (false)],[.b (false)],[.b (false)]] ?_
   conv=>whnf
   refine ⟨⟨I,I,I,I,I,⟨(by omega),(by simp only [lens]; omega)⟩,ixl (by assumption),I,I,dF (by omega),dF (by omega),dF (by omega),dF (by omega),dF (by omega),dF (by omega),dF (by omega),dF (by omega),dF (by omega),dF (by omega),dF (by omega),dF (by omega),I,rfl,rfl,rfl,rfl,rfl,rfl,rfl,rfl,rfl,rfl,rfl,rfl,rfl,rfl,rfl,I⟩,by kernel_rfl,?_⟩
   refine W.cn ?_
   conv=>whnf
   refine ⟨noT (rfl),fun _=>?_⟩
   refine W.skip ?_
   refine W.sq ?_
   refine gd 49 101 [[],[],[],[],[],[.n (Int.toNat (Message.task m))],[.x (strT y)],[],[],[.b (false)],[.b (false)],[.b (false)],[.b (false)],[.b (false)],[.b (false)],[.b (false)],[.b (false)]] ?_
   conv=>whnf
   refine ⟨⟨I,I,I,I,I,⟨(by omega),(by simp only [lens]; omega)⟩,ixl (by assumption),I,I,dF (by omega),dF (by omega),dF (by omega),dF (by omega),dF (by omega),dF (by omega),dF (by omega),dF (by omega),I⟩,by kernel_rfl,?_⟩
   refine W.cn ?_
   conv=>whnf
   refine ⟨noT (rfl),fun _=>?_⟩
   refine W.skip ?_
   refine W.sq ?_
   refine gd 101 124 [[],[],[],[],[],[.n (Int.toNat (Message.task m))],[.x (strT y)],[],[],[],[],[.b (true)],[.b (true)],[.b (true)],[.b (true)],[.b (true)],[.b (true)],[.b (true)]] ?_
   conv=>whnf
   refine ⟨⟨I,I,I,I,I,⟨(by omega),(by simp only [lens]; omega)⟩,ixl (by assumption),I,I,I,I,notT (by omega),notT (by omega),notT (by omega),notT (by omega),notT (by omega),notT (by omega),notT (by omega),I⟩,by kernel_rfl,?_⟩
   refine W.cn ?_
   conv=>whnf
   refine ⟨fun _=>?_,noF (rfl)⟩
   refine W.ret ?_
   refine EndsW.rt ?_
   conv=>whnf
   refine ⟨I,?_,rfl⟩
   rfl
end Go.K
end
section
set_option linter.unusedVariables false
set_option linter.unusedSimpArgs false
set_option maxHeartbeats 8000000
set_option maxRecDepth 20000
open Go Go.Tm Go.Proofs
namespace Go.K
theorem free_yes {w:Int} {js:List Job} {n:Nat} {j:Job} (h:js[n]? = some j) (hd:j.worker = w):((mapN (freeJ w) js n).map jobT).set n (jobT noJob) = (mapN (freeJ w) js (n + 1)).map jobT:=by
 have:=mapN_setm (f:=freeJ w) (g:=jobT) h
 rw [show freeJ w j = noJob from if_pos hd] at this
 exact this
theorem free_no {w:Int} {js:List Job} {n:Nat} {j:Job} (h:js[n]? = some j) (hd:¬ j.worker = w):mapN (freeJ w) js n = mapN (freeJ w) js (n + 1):=mapN_same h (if_neg hd)
theorem beat_yes {l u:Int} {js:List Job} {n:Nat} {j:Job} (h:js[n]? = some j) (hd:j.lease = l):((mapN (beatJ l u) js n).map jobT).set n (jobT ⟨j.lease,j.worker,u⟩) = (mapN (beatJ l u) js (n + 1)).map jobT:=by
 have:=mapN_setm (f:=beatJ l u) (g:=jobT) h
 rw [show beatJ l u j = ⟨j.lease,j.worker,u⟩ from if_pos hd] at this
 exact this
theorem beat_no {l u:Int} {js:List Job} {n:Nat} {j:Job} (h:js[n]? = some j) (hd:¬ j.lease = l):mapN (beatJ l u) js n = mapN (beatJ l u) js (n + 1):=mapN_same h (if_neg hd)
theorem res_in {b:Boss} {p:Plan} {m:Message} (hv:BossOk b p) (h:BossLim b) (hf:ForB b m) (hk:m.kind = 3) (ht:m.task < p.tasks.length):ResIn b p.tasks m:=by
 obtain ⟨u1,u2,u3,u4,u5,u6,⟨u7,u8⟩,⟨u9,u10⟩,u11,u12,u13,u14⟩:=hv.up hf.up
 obtain ⟨_,⟨f1,_⟩,_⟩:=for_kind hf
 obtain ⟨_,⟨t1,_⟩,tx⟩:=for_res hf hk
 have hw:=hv.workers
 have f2:=hf.frm
 exact ⟨hv.plan,u3,u4,⟨t1,ht⟩,h.safe,h.loose,h.owed,by omega,⟨f1,by omega⟩,tx⟩
theorem c_impl_Boss_take (b:Boss) (p:Plan) (m:Message) (hv:BossOk b p) (h:BossLim b) (hm:m.inputs.length ≤ 9223372036854775806):F n_impl_Boss_take [.ptr (cellsOf (bossO b)),.val (planR p),.val (messageR m)] (.tup []) [cellsOf (bossO (takeB b p.tasks m)),[],[]]:=by
 have cm:=c_impl_Message_valid m hm
 by_cases hf:ForB b m
 ·obtain ⟨u1,u2,u3,u4,u5,u6,⟨u7,u8⟩,⟨u9,u10⟩,u11,u12,u13,u14⟩:=hv.up hf.up
  obtain ⟨hkd,⟨f1,f2⟩,⟨e1,e2⟩⟩:=for_kind hf
  have hnow:=hv.now
  have hwk:=hv.workers
  have hpl:=(chk_inv hv.plan).1
  obtain ⟨g1,g2,g3,g4⟩:=hf
  have hf:ForB b m:=⟨g1,g2,g3,g4⟩
  rw [decide_eq_true g2] at cm
  have hsi:seatI m < b.seats.length:=by unfold seatI; omega
  obtain ⟨x,hx⟩:=some_at hsi
  have hx':b.seats[(m.frm - 1).toNat]? = some x:=hx
  have hold:=old_at hx
  rcases hkd with hk | hk | hk
  ·rw [take_beat hf hk]
   refine i_impl_Boss_take ?_
   conv=>whnf
   refine g 2 3 [] ?_
   conv=>whnf
   refine ⟨⟨⟨I,I⟩,⟨I,I,I,I,I,I,I,I,I⟩,I⟩,?_⟩
   refine W.sq ?_
   refine gd 9 32 [[],[],[],[],[],[],[.b (false)],[.b (false),.call (V.b true) ([[]])],[.b (false)],[.b (false)],[],[.b (false)],[.b (false)],[.b (false)],[.b (false)],[],[.b (false)],[.b (false)],[.b (false)],[.b (false)],[.b (false)],[.b (false)],[.b (false)],[.b (false)]] ?_
   conv=>whnf
   refine ⟨⟨I,I,I,I,I,I,⟨nbF (by assumption),I⟩,⟨nbF (by assumption),⟨I,I⟩,I,⟨⟨I,I,I,I,I,I,I,I,I⟩,I⟩,⟨I,I⟩,(by assumption)⟩,⟨nbF (by assumption),I⟩,nbF (by assumption),I,⟨rfl,I⟩,⟨rfl,I⟩,⟨rfl,I⟩,rfl,I,⟨notF (by omega),I⟩,⟨notF (by omega),I⟩,⟨notF (by omega),I⟩,⟨notF (by omega),I⟩,⟨notF (by omega),I⟩,⟨notF (by omega),I⟩,⟨notF (by omega),I⟩,notF (by omega),I⟩,by kernel_rfl,?_⟩
   refine W.cn ?_
   conv=>whnf
   refine ⟨noT (dF (by omega)),fun _=>?_⟩
   refine W.skip ?_
   refine gd 32 41 [[],[],[],[],[],[],[.i (Message.frm m - (1:Int))],[.n (Int.toNat (Message.frm m - (1:Int)))],[]] ?_
   conv=>whnf
   refine ⟨⟨I,I,I,I,I,I,w64 (by omega) (by omega),⟨(by omega),(by simp only [lens]; omega)⟩,I,I⟩,by kernel_rfl,?_⟩
   refine g 41 42 [] ?_
   conv=>whnf
   refine ⟨⟨I,I,I⟩,?_⟩
   refine W.blk ?_
   refine g 44 45 [] ?_
   conv=>whnf
   refine ⟨⟨I,I,I⟩,?_⟩
   refine W.cn ?_
   conv=>whnf
   refine ⟨noT (dF (by omega)),fun _=>?_⟩
   refine g 1 2 [] ?_
   conv=>whnf
   refine ⟨⟨I,I,I⟩,?_⟩
   refine W.cn ?_
   conv=>whnf
   refine ⟨fun _=>?_,noF (dT (by omega))⟩
   refine g 6 90 [] ?_
   conv=>whnf
   refine ⟨⟨I,I,I,I,I,I,I⟩,?_⟩
   refine W.blk ?_
   refine W.lp (fun s (n:Nat)=>⟨[(0,s.s 0),(5,s.s 5),(90,s.s 90),(91,.i n)],[(5,[s.c 5 0,s.c 5 1,s.c 5 2,s.c 5 3,s.c 5 4,s.c 5 5,s.c 5 6,s.c 5 7]),(131,[.t (.i b.workers),.t (.b b.up),.t (.i b.now),.t (.i b.since),.t (.i b.epoch),.t (.i b.given),.own [false] (b.log.safe.map strT),.own [false] (b.log.loose.map strT),.own [false] (b.results.map strT),.own jobK ((mapN (beatJ m.lease (b.now + 12)) b.jobs n).map jobT),.own seatK (b.seats.map seatT),.own owedK (b.owed.map owedT)])],[]⟩) (fun (n:Nat)=>n ≤ b.jobs.length) (fun (n:Nat)=>b.jobs.length - n) (0) [some 5,some 131] [] ⟨rfl,⟨rfl,rfl,rfl,rfl,I⟩,⟨⟨rfl,⟨rfl,⟨rfl,⟨rfl,⟨rfl,⟨rfl,⟨rfl,⟨rfl,⟨rfl,I⟩⟩⟩⟩⟩⟩⟩⟩⟩,⟨⟨rfl,⟨rfl,⟨rfl,⟨rfl,⟨rfl,⟨rfl,⟨rfl,⟨rfl,⟨rfl,⟨rfl,⟨rfl,⟨rfl,⟨rfl,I⟩⟩⟩⟩⟩⟩⟩⟩⟩⟩⟩⟩⟩,I⟩⟩,I⟩ (by omega) ?_
   intro n hn
   have hl:=mapN_len (beatJ m.lease (b.now + 12)) b.jobs n
   by_cases hj:n < b.jobs.length
   ·obtain ⟨j,hj1⟩:=some_at hj
    by_cases hd:j.lease = m.lease
    ·have e:=beat_yes (u:=b.now + 12) hj1 hd
     conv=>whnf
     refine g 0 0 [] ?_
     conv=>whnf
     refine ⟨⟨I,I⟩,?_⟩
     refine W.sq ?_
     refine W.cn ?_
     conv=>whnf
     refine ⟨fun _=>?_,noF (by simp_all)⟩
     refine W.skip ?_
     refine W.sq ?_
     refine W.blk ?_
     refine g 92 94 [] ?_
     conv=>whnf
     refine ⟨⟨I,I,I⟩,?_⟩
     refine gd 94 104 [[],[],[],[],[],[.n (n)],[],[.x (jobT j)],[],[],[]] ?_
     conv=>whnf
     refine ⟨⟨I,I,I,I,I,⟨rfl,(by simp only [lens]; omega)⟩,I,mapN_getm (by assumption),I,I,I,I⟩,by kernel_rfl,?_⟩
     refine W.cn ?_
     conv=>whnf
     refine ⟨fun _=>?_,noF (dT (by omega))⟩
     refine rgd [[],[],[],[],[],[],[],[],[],[.i (Boss.now b + (12:Int))],[.n (n)],[],[.x (jobT j)]] ?_
     conv=>whnf
     refine ⟨⟨I,I,I,I,I,I,I,I,I,w64 (by omega) (by omega),⟨rfl,(by simp only [lens]; omega)⟩,I,⟨⟨I,I⟩,mapN_getm (by assumption)⟩,I⟩,by kernel_rfl,?_⟩
     refine rg [.i ((↑n:Int) + (1:Int))] ?_
     conv=>whnf
     refine ⟨⟨w64 (by omega) (by omega),I,I⟩,?_⟩
     refine ⟨n + 1,[some 5,some 131],[],⟨rfl,⟨rfl,rfl,rfl,rfl,I⟩,⟨⟨rfl,⟨rfl,⟨rfl,⟨rfl,⟨rfl,⟨rfl,⟨rfl,⟨rfl,⟨rfl,I⟩⟩⟩⟩⟩⟩⟩⟩⟩,⟨⟨rfl,⟨rfl,⟨rfl,⟨rfl,⟨rfl,⟨rfl,⟨rfl,⟨rfl,⟨rfl,⟨rfl,⟨(congrArg (V.own _) (e)),⟨rfl,⟨rfl,I⟩⟩⟩⟩⟩⟩⟩⟩⟩⟩⟩⟩⟩,I⟩⟩,I⟩,?_,?_⟩
     rotate_left 1
     (dsimp only; omega)
     dsimp only
     omega
    ·have e:=beat_no (u:=b.now + 12) hj1 hd
     conv=>whnf
     refine g 0 0 [] ?_
     conv=>whnf
     refine ⟨⟨I,I⟩,?_⟩
     refine W.sq ?_
     refine W.cn ?_
     conv=>whnf
     refine ⟨fun _=>?_,noF (by simp_all)⟩
     refine W.skip ?_
     refine W.sq ?_
     refine W.blk ?_
     refine g 92 94 [] ?_
     conv=>whnf
     refine ⟨⟨I,I,I⟩,?_⟩
     refine gd 94 104 [[],[],[],[],[],[.n (n)],[],[.x (jobT j)],[],[],[]] ?_
     conv=>whnf
     refine ⟨⟨I,I,I,I,I,⟨rfl,(by simp only [lens]; omega)⟩,I,mapN_getm (by assumption),I,I,I,I⟩,by kernel_rfl,?_⟩
     refine W.cn ?_
     conv=>whnf
     refine ⟨noT (dF (by omega)),fun _=>?_⟩
     refine W.skip ?_
     refine rg [.i ((↑n:Int) + (1:Int))] ?_
     conv=>whnf
     refine ⟨⟨w64 (by omega) (by omega),I,I⟩,?_⟩
     refine ⟨n + 1,[some 5,some 131],[],⟨rfl,⟨rfl,rfl,rfl,rfl,I⟩,⟨⟨rfl,⟨rfl,⟨rfl,⟨rfl,⟨rfl,⟨rfl,⟨rfl,⟨rfl,⟨rfl,I⟩⟩⟩⟩⟩⟩⟩⟩⟩,⟨⟨rfl,⟨rfl,⟨rfl,⟨rfl,⟨rfl,⟨rfl,⟨rfl,⟨rfl,⟨rfl,⟨rfl,⟨(congrArg (V.own _) (by rw [← e])),⟨rfl,⟨rfl,I⟩⟩⟩⟩⟩⟩⟩⟩⟩⟩⟩⟩⟩,I⟩⟩,I⟩,?_,?_⟩
     rotate_left 1
     (dsimp only; omega)
     dsimp only
     omega
   ·have e:=mapN_all (beatJ m.lease (b.now + 12)) b.jobs (n:=n) (by omega)
    conv=>whnf
    refine g 0 0 [] ?_
    conv=>whnf
    refine ⟨⟨I,I⟩,?_⟩
    refine W.sq ?_
    refine W.cn ?_
    conv=>whnf
    refine ⟨noT (by simp_all),fun _=>?_⟩
    refine W.exit ?_
    refine EndsW.nm ?_
    conv=>whnf
    refine ⟨I,?_,?_⟩
    rfl
    rw [e]
    rfl
  ·by_cases ht:m.task < p.tasks.length
   ·rw [take_res hf hk ht]
    have cr:=c_impl_Boss_result b p m (res_in hv h hf hk ht)
    refine i_impl_Boss_take ?_
    conv=>whnf
    refine g 2 3 [] ?_
    conv=>whnf
    refine ⟨⟨⟨I,I⟩,⟨I,I,I,I,I,I,I,I,I⟩,I⟩,?_⟩
    refine W.sq ?_
    refine gd 9 32 [[],[],[],[],[],[],[.b (false)],[.b (false),.call (V.b true) ([[]])],[.b (false)],[.b (false)],[],[.b (false)],[.b (false)],[.b (false)],[.b (false)],[],[.b (false)],[.b (false)],[.b (false)],[.b (false)],[.b (false)],[.b (false)],[.b (false)],[.b (false)]] ?_
    conv=>whnf
    refine ⟨⟨I,I,I,I,I,I,⟨nbF (by assumption),I⟩,⟨nbF (by assumption),⟨I,I⟩,I,⟨⟨I,I,I,I,I,I,I,I,I⟩,I⟩,⟨I,I⟩,(by assumption)⟩,⟨nbF (by assumption),I⟩,nbF (by assumption),I,⟨rfl,I⟩,⟨rfl,I⟩,⟨rfl,I⟩,rfl,I,⟨notF (by omega),I⟩,⟨notF (by omega),I⟩,⟨notF (by omega),I⟩,⟨notF (by omega),I⟩,⟨notF (by omega),I⟩,⟨notF (by omega),I⟩,⟨notF (by omega),I⟩,notF (by omega),I⟩,by kernel_rfl,?_⟩
    refine W.cn ?_
    conv=>whnf
    refine ⟨noT (dF (by omega)),fun _=>?_⟩
    refine W.skip ?_
    refine gd 32 41 [[],[],[],[],[],[],[.i (Message.frm m - (1:Int))],[.n (Int.toNat (Message.frm m - (1:Int)))],[]] ?_
    conv=>whnf
    refine ⟨⟨I,I,I,I,I,I,w64 (by omega) (by omega),⟨(by omega),(by simp only [lens]; omega)⟩,I,I⟩,by kernel_rfl,?_⟩
    refine g 41 42 [] ?_
    conv=>whnf
    refine ⟨⟨I,I,I⟩,?_⟩
    refine W.blk ?_
    refine g 44 45 [] ?_
    conv=>whnf
    refine ⟨⟨I,I,I⟩,?_⟩
    refine W.cn ?_
    conv=>whnf
    refine ⟨noT (dF (by omega)),fun _=>?_⟩
    refine g 1 2 [] ?_
    conv=>whnf
    refine ⟨⟨I,I,I⟩,?_⟩
    refine W.cn ?_
    conv=>whnf
    refine ⟨noT (dF (by omega)),fun _=>?_⟩
    refine g 42 86 [] ?_
    conv=>whnf
    refine ⟨⟨I,I,I⟩,?_⟩
    refine W.cn ?_
    conv=>whnf
    refine ⟨fun _=>?_,noF (dT (by omega))⟩
    refine g 118 125 [] ?_
    conv=>whnf
    refine ⟨⟨I,I,I,I,I,I,I⟩,?_⟩
    refine W.cn ?_
    conv=>whnf
    refine ⟨fun _=>?_,noF (by simp [*])⟩
    refine rg [.call (V.tup []) ([cellsOf (bossO (resultB b (Plan.tasks p) m)),[],[],[]])] ?_
    conv=>whnf
    refine ⟨⟨I,I,I,I,⟨⟨I,I,I,I,I⟩,I,⟨I,⟨I,I⟩,⟨I,I,I,I,I,I,I,I,I⟩,I,I⟩,⟨I,I⟩,(by assumption)⟩,I⟩,?_⟩
    refine EndsW.nm ?_
    conv=>whnf
    refine ⟨I,?_,rfl⟩
    rfl
   ·rw [take_out hf hk ht]
    refine i_impl_Boss_take ?_
    conv=>whnf
    refine g 2 3 [] ?_
    conv=>whnf
    refine ⟨⟨⟨I,I⟩,⟨I,I,I,I,I,I,I,I,I⟩,I⟩,?_⟩
    refine W.sq ?_
    refine gd 9 32 [[],[],[],[],[],[],[.b (false)],[.b (false),.call (V.b true) ([[]])],[.b (false)],[.b (false)],[],[.b (false)],[.b (false)],[.b (false)],[.b (false)],[],[.b (false)],[.b (false)],[.b (false)],[.b (false)],[.b (false)],[.b (false)],[.b (false)],[.b (false)]] ?_
    conv=>whnf
    refine ⟨⟨I,I,I,I,I,I,⟨nbF (by assumption),I⟩,⟨nbF (by assumption),⟨I,I⟩,I,⟨⟨I,I,I,I,I,I,I,I,I⟩,I⟩,⟨I,I⟩,(by assumption)⟩,⟨nbF (by assumption),I⟩,nbF (by assumption),I,⟨rfl,I⟩,⟨rfl,I⟩,⟨rfl,I⟩,rfl,I,⟨notF (by omega),I⟩,⟨notF (by omega),I⟩,⟨notF (by omega),I⟩,⟨notF (by omega),I⟩,⟨notF (by omega),I⟩,⟨notF (by omega),I⟩,⟨notF (by omega),I⟩,notF (by omega),I⟩,by kernel_rfl,?_⟩
    refine W.cn ?_
    conv=>whnf
    refine ⟨noT (dF (by omega)),fun _=>?_⟩
    refine W.skip ?_
    refine gd 32 41 [[],[],[],[],[],[],[.i (Message.frm m - (1:Int))],[.n (Int.toNat (Message.frm m - (1:Int)))],[]] ?_
    conv=>whnf
    refine ⟨⟨I,I,I,I,I,I,w64 (by omega) (by omega),⟨(by omega),(by simp only [lens]; omega)⟩,I,I⟩,by kernel_rfl,?_⟩
    refine g 41 42 [] ?_
    conv=>whnf
    refine ⟨⟨I,I,I⟩,?_⟩
    refine W.blk ?_
    refine g 44 45 [] ?_
    conv=>whnf
    refine ⟨⟨I,I,I⟩,?_⟩
    refine W.cn ?_
    conv=>whnf
    refine ⟨noT (dF (by omega)),fun _=>?_⟩
    refine g 1 2 [] ?_
    conv=>whnf
    refine ⟨⟨I,I,I⟩,?_⟩
    refine W.cn ?_
    conv=>whnf
    refine ⟨noT (dF (by omega)),fun _=>?_⟩
    refine g 42 86 [] ?_
    conv=>whnf
    refine ⟨⟨I,I,I⟩,?_⟩
    refine W.cn ?_
    conv=>whnf
    refine ⟨fun _=>?_,noF (dT (by omega))⟩
    refine g 118 125 [] ?_
    conv=>whnf
    refine ⟨⟨I,I,I,I,I,I,I⟩,?_⟩
    refine W.cn ?_
    conv=>whnf
    refine ⟨noT (by simp [*]),fun _=>?_⟩
    refine W.skip ?_
    refine EndsW.nm ?_
    conv=>whnf
    refine ⟨I,?_,rfl⟩
    rfl
  ·rw [take_here hf hk]
   by_cases ho:oldM b m
   ·rw [here_old ho]
    have ho2:=hold.1 ho
    refine i_impl_Boss_take ?_
    conv=>whnf
    refine g 2 3 [] ?_
    conv=>whnf
    refine ⟨⟨⟨I,I⟩,⟨I,I,I,I,I,I,I,I,I⟩,I⟩,?_⟩
    refine W.sq ?_
    refine gd 9 32 [[],[],[],[],[],[],[.b (false)],[.b (false),.call (V.b true) ([[]])],[.b (false)],[.b (false)],[],[.b (false)],[.b (false)],[.b (false)],[.b (false)],[],[.b (false)],[.b (false)],[.b (false)],[.b (false)],[.b (false)],[.b (false)],[.b (false)],[.b (false)]] ?_
    conv=>whnf
    refine ⟨⟨I,I,I,I,I,I,⟨nbF (by assumption),I⟩,⟨nbF (by assumption),⟨I,I⟩,I,⟨⟨I,I,I,I,I,I,I,I,I⟩,I⟩,⟨I,I⟩,(by assumption)⟩,⟨nbF (by assumption),I⟩,nbF (by assumption),I,⟨rfl,I⟩,⟨rfl,I⟩,⟨rfl,I⟩,rfl,I,⟨notF (by omega),I⟩,⟨notF (by omega),I⟩,⟨notF (by omega),I⟩,⟨notF (by omega),I⟩,⟨notF (by omega),I⟩,⟨notF (by omega),I⟩,⟨notF (by omega),I⟩,notF (by omega),I⟩,by kernel_rfl,?_⟩
    refine W.cn ?_
    conv=>whnf
    refine ⟨noT (dF (by omega)),fun _=>?_⟩
    refine W.skip ?_
    refine gd 32 41 [[],[],[],[],[],[],[.i (Message.frm m - (1:Int))],[.n (Int.toNat (Message.frm m - (1:Int)))],[]] ?_
    conv=>whnf
    refine ⟨⟨I,I,I,I,I,I,w64 (by omega) (by omega),⟨(by omega),(by simp only [lens]; omega)⟩,I,I⟩,by kernel_rfl,?_⟩
    refine g 41 42 [] ?_
    conv=>whnf
    refine ⟨⟨I,I,I⟩,?_⟩
    refine W.blk ?_
    refine g 44 45 [] ?_
    conv=>whnf
    refine ⟨⟨I,I,I⟩,?_⟩
    refine W.cn ?_
    conv=>whnf
    refine ⟨fun _=>?_,noF (dT (by omega))⟩
    refine gd 42 51 [[],[],[],[],[],[.x (seatT x)],[]] ?_
    conv=>whnf
    refine ⟨⟨I,I,I,I,I,ixl (by assumption),I,I⟩,by kernel_rfl,?_⟩
    refine W.cn ?_
    conv=>whnf
    refine ⟨noT (dF (by omega)),fun _=>?_⟩
    refine W.skip ?_
    refine EndsW.nm ?_
    conv=>whnf
    refine ⟨I,?_,rfl⟩
    rfl
   ·rw [here_new ho]
    have ho2:¬ m.epoch < x.epoch:=fun q=>ho (hold.2 q)
    have es:(b.seats.map seatT).set (m.frm - 1).toNat (seatT ⟨true,m.epoch⟩) = (b.seats.set (seatI m) ⟨true,m.epoch⟩).map seatT:=by rw [← List.map_set]; rfl
    refine i_impl_Boss_take ?_
    conv=>whnf
    refine g 2 3 [] ?_
    conv=>whnf
    refine ⟨⟨⟨I,I⟩,⟨I,I,I,I,I,I,I,I,I⟩,I⟩,?_⟩
    refine W.sq ?_
    refine gd 9 32 [[],[],[],[],[],[],[.b (false)],[.b (false),.call (V.b true) ([[]])],[.b (false)],[.b (false)],[],[.b (false)],[.b (false)],[.b (false)],[.b (false)],[],[.b (false)],[.b (false)],[.b (false)],[.b (false)],[.b (false)],[.b (false)],[.b (false)],[.b (false)]] ?_
    conv=>whnf
    refine ⟨⟨I,I,I,I,I,I,⟨nbF (by assumption),I⟩,⟨nbF (by assumption),⟨I,I⟩,I,⟨⟨I,I,I,I,I,I,I,I,I⟩,I⟩,⟨I,I⟩,(by assumption)⟩,⟨nbF (by assumption),I⟩,nbF (by assumption),I,⟨rfl,I⟩,⟨rfl,I⟩,⟨rfl,I⟩,rfl,I,⟨notF (by omega),I⟩,⟨notF (by omega),I⟩,⟨notF (by omega),I⟩,⟨notF (by omega),I⟩,⟨notF (by omega),I⟩,⟨notF (by omega),I⟩,⟨notF (by omega),I⟩,notF (by omega),I⟩,by kernel_rfl,?_⟩
    refine W.cn ?_
    conv=>whnf
    refine ⟨noT (dF (by omega)),fun _=>?_⟩
    refine W.skip ?_
    refine gd 32 41 [[],[],[],[],[],[],[.i (Message.frm m - (1:Int))],[.n (Int.toNat (Message.frm m - (1:Int)))],[]] ?_
    conv=>whnf
    refine ⟨⟨I,I,I,I,I,I,w64 (by omega) (by omega),⟨(by omega),(by simp only [lens]; omega)⟩,I,I⟩,by kernel_rfl,?_⟩
    refine g 41 42 [] ?_
    conv=>whnf
    refine ⟨⟨I,I,I⟩,?_⟩
    refine W.blk ?_
    refine g 44 45 [] ?_
    conv=>whnf
    refine ⟨⟨I,I,I⟩,?_⟩
    refine W.cn ?_
    conv=>whnf
    refine ⟨fun _=>?_,noF (dT (by omega))⟩
    refine gd 42 51 [[],[],[],[],[],[.x (seatT x)],[]] ?_
    conv=>whnf
    refine ⟨⟨I,I,I,I,I,ixl (by assumption),I,I⟩,by kernel_rfl,?_⟩
    refine W.cn ?_
    conv=>whnf
    refine ⟨fun _=>?_,noF (dT (by omega))⟩
    refine g 6 57 [.x (seatT x)] ?_
    conv=>whnf
    refine ⟨⟨I,I,I,I,I,⟨⟨I,I,I⟩,ixl (by assumption)⟩,I⟩,?_⟩
    refine g 57 61 [] ?_
    conv=>whnf
    refine ⟨⟨I,I,I,I,I,I,I⟩,?_⟩
    refine W.blk ?_
    refine W.lp (fun s (n:Nat)=>⟨[(0,s.s 0),(5,s.s 5),(61,s.s 61),(62,.i n)],[(5,[s.c 5 0,s.c 5 1,s.c 5 2,s.c 5 3,s.c 5 4,s.c 5 5,s.c 5 6,s.c 5 7]),(131,[.t (.i b.workers),.t (.b b.up),.t (.i b.now),.t (.i b.since),.t (.i b.epoch),.t (.i b.given),.own [false] (b.log.safe.map strT),.own [false] (b.log.loose.map strT),.own [false] (b.results.map strT),.own jobK ((mapN (freeJ m.frm) b.jobs n).map jobT),.own seatK ((b.seats.set (seatI m) ⟨true,m.epoch⟩).map seatT),.own owedK (b.owed.map owedT)])],[]⟩) (fun (n:Nat)=>n ≤ b.jobs.length) (fun (n:Nat)=>b.jobs.length - n) (0) [some 5,some 131] [] ⟨rfl,⟨rfl,rfl,rfl,rfl,I⟩,⟨⟨rfl,⟨rfl,⟨rfl,⟨rfl,⟨rfl,⟨rfl,⟨rfl,⟨rfl,⟨rfl,I⟩⟩⟩⟩⟩⟩⟩⟩⟩,⟨⟨rfl,⟨rfl,⟨rfl,⟨rfl,⟨rfl,⟨rfl,⟨rfl,⟨rfl,⟨rfl,⟨rfl,⟨rfl,⟨(congrArg (V.own _) (es)),⟨rfl,I⟩⟩⟩⟩⟩⟩⟩⟩⟩⟩⟩⟩⟩,I⟩⟩,I⟩ (by omega) ?_
    intro n hn
    have hl:=mapN_len (freeJ m.frm) b.jobs n
    by_cases hj:n < b.jobs.length
    ·obtain ⟨j,hj1⟩:=some_at hj
     by_cases hd:j.worker = m.frm
     ·have e:=free_yes hj1 hd
      conv=>whnf
      refine g 0 0 [] ?_
      conv=>whnf
      refine ⟨⟨I,I⟩,?_⟩
      refine W.sq ?_
      refine W.cn ?_
      conv=>whnf
      refine ⟨fun _=>?_,noF (by simp_all)⟩
      refine W.skip ?_
      refine W.sq ?_
      refine W.blk ?_
      refine g 63 65 [] ?_
      conv=>whnf
      refine ⟨⟨I,I,I⟩,?_⟩
      refine gd 65 75 [[],[],[],[],[],[.n (n)],[],[.x (jobT j)],[],[],[]] ?_
      conv=>whnf
      refine ⟨⟨I,I,I,I,I,⟨rfl,(by simp only [lens]; omega)⟩,I,mapN_getm (by assumption),I,I,I,I⟩,by kernel_rfl,?_⟩
      refine W.cn ?_
      conv=>whnf
      refine ⟨fun _=>?_,noF (dT (by omega))⟩
      refine rg [.n (n),.x (jobT j)] ?_
      conv=>whnf
      refine ⟨⟨I,I,I,I,I,I,⟨rfl,(by simp only [lens]; omega)⟩,⟨⟨I,I,I,I⟩,mapN_getm (by assumption)⟩,I⟩,?_⟩
      refine rg [.i ((↑n:Int) + (1:Int))] ?_
      conv=>whnf
      refine ⟨⟨w64 (by omega) (by omega),I,I⟩,?_⟩
      refine ⟨n + 1,[some 5,some 131],[],⟨rfl,⟨rfl,rfl,rfl,rfl,I⟩,⟨⟨rfl,⟨rfl,⟨rfl,⟨rfl,⟨rfl,⟨rfl,⟨rfl,⟨rfl,⟨rfl,I⟩⟩⟩⟩⟩⟩⟩⟩⟩,⟨⟨rfl,⟨rfl,⟨rfl,⟨rfl,⟨rfl,⟨rfl,⟨rfl,⟨rfl,⟨rfl,⟨rfl,⟨(congrArg (V.own _) (e)),⟨rfl,⟨rfl,I⟩⟩⟩⟩⟩⟩⟩⟩⟩⟩⟩⟩⟩,I⟩⟩,I⟩,?_,?_⟩
      rotate_left 1
      (dsimp only; omega)
      dsimp only
      omega
     ·have e:=free_no hj1 hd
      conv=>whnf
      refine g 0 0 [] ?_
      conv=>whnf
      refine ⟨⟨I,I⟩,?_⟩
      refine W.sq ?_
      refine W.cn ?_
      conv=>whnf
      refine ⟨fun _=>?_,noF (by simp_all)⟩
      refine W.skip ?_
      refine W.sq ?_
      refine W.blk ?_
      refine g 63 65 [] ?_
      conv=>whnf
      refine ⟨⟨I,I,I⟩,?_⟩
      refine gd 65 75 [[],[],[],[],[],[.n (n)],[],[.x (jobT j)],[],[],[]] ?_
      conv=>whnf
      refine ⟨⟨I,I,I,I,I,⟨rfl,(by simp only [lens]; omega)⟩,I,mapN_getm (by assumption),I,I,I,I⟩,by kernel_rfl,?_⟩
      refine W.cn ?_
      conv=>whnf
      refine ⟨noT (dF (by omega)),fun _=>?_⟩
      refine W.skip ?_
      refine rg [.i ((↑n:Int) + (1:Int))] ?_
      conv=>whnf
      refine ⟨⟨w64 (by omega) (by omega),I,I⟩,?_⟩
      refine ⟨n + 1,[some 5,some 131],[],⟨rfl,⟨rfl,rfl,rfl,rfl,I⟩,⟨⟨rfl,⟨rfl,⟨rfl,⟨rfl,⟨rfl,⟨rfl,⟨rfl,⟨rfl,⟨rfl,I⟩⟩⟩⟩⟩⟩⟩⟩⟩,⟨⟨rfl,⟨rfl,⟨rfl,⟨rfl,⟨rfl,⟨rfl,⟨rfl,⟨rfl,⟨rfl,⟨rfl,⟨(congrArg (V.own _) (by rw [← e])),⟨rfl,⟨rfl,I⟩⟩⟩⟩⟩⟩⟩⟩⟩⟩⟩⟩⟩,I⟩⟩,I⟩,?_,?_⟩
      rotate_left 1
      (dsimp only; omega)
      dsimp only
      omega
    ·have e:=mapN_all (freeJ m.frm) b.jobs (n:=n) (by omega)
     conv=>whnf
     refine g 0 0 [] ?_
     conv=>whnf
     refine ⟨⟨I,I⟩,?_⟩
     refine W.sq ?_
     refine W.cn ?_
     conv=>whnf
     refine ⟨noT (by simp_all),fun _=>?_⟩
     refine W.exit ?_
     refine EndsW.nm ?_
     conv=>whnf
     refine ⟨I,?_,?_⟩
     rfl
     rw [e]
     rfl
 ·rw [take_no hf]
  by_cases g1:b.up = true
  ·by_cases g2:msgOk m
   ·rw [decide_eq_true g2] at cm
    by_cases g3:m.to = 0
    ·have g4:¬ m.frm ≤ b.workers:=fun q=>hf ⟨g1,g2,g3,q⟩
     refine i_impl_Boss_take ?_
     conv=>whnf
     refine g 2 3 [] ?_
     conv=>whnf
     refine ⟨⟨⟨I,I⟩,⟨I,I,I,I,I,I,I,I,I⟩,I⟩,?_⟩
     refine W.sq ?_
     refine gd 9 32 [[],[],[],[],[],[],[.b (false)],[.b (false),.call (V.b true) ([[]])],[.b (false)],[.b (false)],[],[.b (false)],[.b (false)],[.b (false)],[.b (false)],[],[.b (false)],[.b (false)],[.b (false)],[.b (false)],[.b (false)],[.b (false)],[.b (false)],[.b (false)]] ?_
     conv=>whnf
     refine ⟨⟨I,I,I,I,I,I,⟨nbF (by assumption),I⟩,⟨nbF (by assumption),⟨I,I⟩,I,⟨⟨I,I,I,I,I,I,I,I,I⟩,I⟩,⟨I,I⟩,(by assumption)⟩,⟨nbF (by assumption),I⟩,nbF (by assumption),I,⟨rfl,I⟩,⟨rfl,I⟩,⟨rfl,I⟩,rfl,I,⟨notF (by omega),I⟩,⟨notF (by omega),I⟩,⟨notF (by omega),I⟩,⟨notF (by omega),I⟩,⟨notF (by omega),I⟩,⟨notF (by omega),I⟩,⟨notF (by omega),I⟩,notF (by omega),I⟩,by kernel_rfl,?_⟩
     refine W.cn ?_
     conv=>whnf
     refine ⟨fun _=>?_,noF (dT (by omega))⟩
     refine W.ret ?_
     refine EndsW.rt ?_
     conv=>whnf
     refine ⟨I,?_,rfl⟩
     rfl
    ·refine i_impl_Boss_take ?_
     conv=>whnf
     refine g 2 3 [] ?_
     conv=>whnf
     refine ⟨⟨⟨I,I⟩,⟨I,I,I,I,I,I,I,I,I⟩,I⟩,?_⟩
     refine W.sq ?_
     refine gd 9 32 [[],[],[],[],[],[],[.b (false)],[.b (false),.call (V.b true) ([[]])],[.b (false)],[.b (false)],[],[.b (false)],[.b (false)],[.b (false)],[.b (false)],[],[.b (true)],[.b (true)],[.b (true)],[.b (true)],[.b (true)],[.b (true)],[.b (true)],[.b (true)]] ?_
     conv=>whnf
     refine ⟨⟨I,I,I,I,I,I,⟨nbF (by assumption),I⟩,⟨nbF (by assumption),⟨I,I⟩,I,⟨⟨I,I,I,I,I,I,I,I,I⟩,I⟩,⟨I,I⟩,(by assumption)⟩,⟨nbF (by assumption),I⟩,nbF (by assumption),I,⟨rfl,I⟩,⟨rfl,I⟩,⟨rfl,I⟩,rfl,I,notT (by omega),notT (by omega),notT (by omega),notT (by omega),notT (by omega),notT (by omega),notT (by omega),notT (by omega),I⟩,by kernel_rfl,?_⟩
     refine W.cn ?_
     conv=>whnf
     refine ⟨fun _=>?_,noF (rfl)⟩
     refine W.ret ?_
     refine EndsW.rt ?_
     conv=>whnf
     refine ⟨I,?_,rfl⟩
     rfl
   ·rw [decide_eq_false g2] at cm
    refine i_impl_Boss_take ?_
    conv=>whnf
    refine g 2 3 [] ?_
    conv=>whnf
    refine ⟨⟨⟨I,I⟩,⟨I,I,I,I,I,I,I,I,I⟩,I⟩,?_⟩
    refine W.sq ?_
    refine gd 9 32 [[],[],[],[],[],[],[.b (false)],[.b (false),.call (V.b false) ([[]])],[.b (false)],[.b (false)],[],[.b (true)],[.b (true)],[.b (true)],[.b (true)],[],[.b (true)],[.b (true)],[.b (true)],[.b (true)],[.b (true)],[.b (true)],[.b (true)],[.b (true)]] ?_
    conv=>whnf
    refine ⟨⟨I,I,I,I,I,I,⟨nbF (by assumption),I⟩,⟨nbF (by assumption),⟨I,I⟩,I,⟨⟨I,I,I,I,I,I,I,I,I⟩,I⟩,⟨I,I⟩,(by assumption)⟩,⟨nbF (by assumption),I⟩,nbF (by assumption),I,rfl,rfl,rfl,rfl,I,rfl,rfl,rfl,rfl,rfl,rfl,rfl,rfl,I⟩,by kernel_rfl,?_⟩
    refine W.cn ?_
    conv=>whnf
    refine ⟨fun _=>?_,noF (rfl)⟩
    refine W.ret ?_
    refine EndsW.rt ?_
    conv=>whnf
    refine ⟨I,?_,rfl⟩
    rfl
  ·refine i_impl_Boss_take ?_
   conv=>whnf
   refine g 2 3 [] ?_
   conv=>whnf
   refine ⟨⟨⟨I,I⟩,⟨I,I,I,I,I,I,I,I,I⟩,I⟩,?_⟩
   refine W.sq ?_
   refine gd 9 32 [[],[],[],[],[],[],[.b (true)],[.b (true)],[.b (true)],[.b (true)],[],[.b (true)],[.b (true)],[.b (true)],[.b (true)],[],[.b (true)],[.b (true)],[.b (true)],[.b (true)],[.b (true)],[.b (true)],[.b (true)],[.b (true)]] ?_
   conv=>whnf
   refine ⟨⟨I,I,I,I,I,I,(by simp [*]),(by simp [*]),(by simp [*]),(by simp [*]),I,rfl,rfl,rfl,rfl,I,rfl,rfl,rfl,rfl,rfl,rfl,rfl,rfl,I⟩,by kernel_rfl,?_⟩
   refine W.cn ?_
   conv=>whnf
   refine ⟨fun _=>?_,noF (rfl)⟩
   refine W.ret ?_
   refine EndsW.rt ?_
   conv=>whnf
   refine ⟨I,?_,rfl⟩
   rfl
theorem c_impl_BossTake (b:Boss) (p:Plan) (m:Message) (hp:planWf p) (h:BossLim b) (hm:m.inputs.length ≤ 9223372036854775806):F n_impl_BossTake [.val (bossR b),.val (planR p),.val (messageR m)] (ledO (bTake b p m)) [[],[],[]]:=by
 have cv:=ci_valid b p hp h
 by_cases hv:BossOk b p
 ·rw [decide_eq_true hv] at cv
  rw [btake_ok hv]
  have ct:=ci_twin b h
  have cf:=c_impl_Boss_take b p m hv h hm
  refine i_impl_BossTake ?_
  conv=>whnf
  refine g 1 3 [] ?_
  conv=>whnf
  refine ⟨⟨⟨I,I,I,I,I,I,I,I,I,I,I,I,I⟩,⟨I,I⟩,⟨I,I,I,I,I,I,I,I,I⟩,I,I⟩,?_⟩
  refine W.sq ?_
  refine g 7 10 [.call (V.b true) ([[],[]])] ?_
  conv=>whnf
  refine ⟨⟨I,I,⟨⟨I,I,I⟩,I,⟨⟨I,I,I,I,I,I,I,I,I,I,I,I,I⟩,⟨I,I⟩,I⟩,⟨I,I⟩,(by assumption)⟩,I,I⟩,?_⟩
  refine W.cn ?_
  conv=>whnf
  refine ⟨noT (rfl),fun _=>?_⟩
  refine W.skip ?_
  refine g 10 14 [.call (bossO b) ([[]])] ?_
  conv=>whnf
  refine ⟨⟨I,⟨⟨I,I⟩,I,⟨⟨I,I,I,I,I,I,I,I,I,I,I,I,I⟩,I⟩,⟨I,I⟩,(by assumption)⟩,⟨I,I,I,I,I,I,I,I,I,I,I,I,I⟩,I⟩,?_⟩
  refine g 14 17 [.call (V.tup []) ([cellsOf (bossO (takeB b (Plan.tasks p) m)),[],[]])] ?_
  conv=>whnf
  refine ⟨⟨I,I,⟨⟨I,I,I,I⟩,I,⟨I,⟨I,I⟩,⟨I,I,I,I,I,I,I,I,I⟩,I⟩,⟨I,I⟩,(by assumption)⟩,I⟩,?_⟩
  refine g 0 6 [] ?_
  conv=>whnf
  refine ⟨⟨I,I,⟨I,I,I,I,I,I,I,I,I,I,I,I,I,I⟩,I⟩,?_⟩
  refine W.ret ?_
  refine EndsW.rt ?_
  conv=>whnf
  refine ⟨⟨I,I,I,I,I,I,I,I,I,I,I,I,I,I,I⟩,?_,rfl⟩
  rfl
 ·rw [decide_eq_false hv] at cv
  rw [btake_no hv]
  refine i_impl_BossTake ?_
  conv=>whnf
  refine g 1 3 [] ?_
  conv=>whnf
  refine ⟨⟨⟨I,I,I,I,I,I,I,I,I,I,I,I,I⟩,⟨I,I⟩,⟨I,I,I,I,I,I,I,I,I⟩,I,I⟩,?_⟩
  refine W.sq ?_
  refine g 7 10 [.call (V.b false) ([[],[]])] ?_
  conv=>whnf
  refine ⟨⟨I,I,⟨⟨I,I,I⟩,I,⟨⟨I,I,I,I,I,I,I,I,I,I,I,I,I⟩,⟨I,I⟩,I⟩,⟨I,I⟩,(by assumption)⟩,I,I⟩,?_⟩
  refine W.cn ?_
  conv=>whnf
  refine ⟨fun _=>?_,noF (rfl)⟩
  refine g 10 12 [] ?_
  conv=>whnf
  refine ⟨⟨I,⟨I,I,I,I,I,I,I,I,I,I,I,I,I,I⟩,I⟩,?_⟩
  refine W.ret ?_
  refine EndsW.rt ?_
  conv=>whnf
  refine ⟨⟨I,I,I,I,I,I,I,I,I,I,I,I,I,I,I⟩,?_,rfl⟩
  rfl
end Go.K
end
section
set_option linter.unusedVariables false
set_option linter.unusedSimpArgs false
set_option maxHeartbeats 8000000
set_option maxRecDepth 20000
open Go Go.Tm Go.Proofs
namespace Go.K
theorem c_l5Free_old (b:Boss) (m:Message) {x:Seat} (hx:b.seats[seatI m]? = some x) (f1:1 ≤ m.frm ∧ m.frm ≤ 8) (ho:oldM b m):F n_spec_l5Free [.val (bossO b),.val (messageR m)] (.tup [bossO b,.b false]) [[],[]]:=by
 have hx':b.seats[(m.frm - 1).toNat]? = some x:=hx
 have ho2:=(old_at hx).1 ho
 have hl:=(List.getElem?_eq_some_iff.1 hx').1
 refine i_spec_l5Free ?_
 conv=>whnf
 refine g 0 0 [] ?_
 conv=>whnf
 refine ⟨⟨⟨I,I,I,I,I,I,I,I,I,I,I,I,I⟩,⟨I,I,I,I,I,I,I,I,I⟩,I,I,I⟩,?_⟩
 refine W.sq ?_
 refine gd 6 16 [[],[],[],[],[],[],[.i (Message.frm m - (1:Int))],[.n (Int.toNat (Message.frm m - (1:Int)))],[],[.x (seatT x)],[]] ?_
 conv=>whnf
 refine ⟨⟨I,I,I,I,I,I,w64 (by omega) (by omega),⟨(by omega),(by simp only [lens]; omega)⟩,I,ixl (by assumption),I,I⟩,by kernel_rfl,?_⟩
 refine W.cn ?_
 conv=>whnf
 refine ⟨fun _=>?_,noF (dT (by omega))⟩
 refine g 16 18 [] ?_
 conv=>whnf
 refine ⟨⟨I,⟨I,I,I,I,I,I,I,I,I,I,I,I,I⟩,I,I⟩,?_⟩
 refine W.ret ?_
 refine EndsW.rt ?_
 conv=>whnf
 refine ⟨⟨I,⟨I,I,I,I,I,I,I,I,I,I,I,I,I⟩,I,⟨I,I⟩,I⟩,?_,rfl⟩
 rfl
theorem c_l5Free_new (b:Boss) (m:Message) {x:Seat} (hx:b.seats[seatI m]? = some x) (f1:1 ≤ m.frm ∧ m.frm ≤ 8) (ho:¬ oldM b m):F n_spec_l5Free [.val (bossO b),.val (messageR m)] (.tup [bossO (freeB b m),.b true]) [[],[]]:=by
 have hx':b.seats[(m.frm - 1).toNat]? = some x:=hx
 have ho2:¬ m.epoch < x.epoch:=fun q=>ho ((old_at hx).2 q)
 have hl:=(List.getElem?_eq_some_iff.1 hx').1
 rw [free_new ho]
 refine i_spec_l5Free ?_
 conv=>whnf
 refine g 0 0 [] ?_
 conv=>whnf
 refine ⟨⟨⟨I,I,I,I,I,I,I,I,I,I,I,I,I⟩,⟨I,I,I,I,I,I,I,I,I⟩,I,I,I⟩,?_⟩
 refine W.sq ?_
 refine gd 6 16 [[],[],[],[],[],[],[.i (Message.frm m - (1:Int))],[.n (Int.toNat (Message.frm m - (1:Int)))],[],[.x (seatT x)],[]] ?_
 conv=>whnf
 refine ⟨⟨I,I,I,I,I,I,w64 (by omega) (by omega),⟨(by omega),(by simp only [lens]; omega)⟩,I,ixl (by assumption),I,I⟩,by kernel_rfl,?_⟩
 refine W.cn ?_
 conv=>whnf
 refine ⟨noT (dF (by omega)),fun _=>?_⟩
 refine W.skip ?_
 refine g 16 27 [.i (Message.frm m - (1:Int)),.n (Int.toNat (Message.frm m - (1:Int))),.x (seatT x)] ?_
 conv=>whnf
 refine ⟨⟨I,I,I,I,w64 (by omega) (by omega),I,I,I,⟨(by omega),(by simp only [lens]; omega)⟩,⟨⟨I,I,I⟩,ixl (by assumption)⟩,I⟩,?_⟩
 refine g 0 4 [] ?_
 conv=>whnf
 refine ⟨⟨I,⟨I,I,I,I,I,I,I,I,I,I,I,I,I⟩,I,I⟩,?_⟩
 refine W.ret ?_
 refine EndsW.rt ?_
 conv=>whnf
 refine ⟨⟨I,⟨I,I,I,I,I,I,I,I,I,I,I,I,I⟩,I,⟨I,I⟩,I⟩,?_,rfl⟩
 all_goals (simp only [bossO,List.map_set]; rfl)
theorem c_l5Result_out (b:Boss) (p:Plan) (m:Message) (hl:p.tasks.length ≤ 1048576) (ht:¬ m.task < p.tasks.length):F n_spec_l5Result [.val (bossO b),.val (planR p),.val (messageR m)] (bossO b) [[],[],[]]:=by
 refine i_spec_l5Result ?_
 conv=>whnf
 refine g 0 0 [] ?_
 conv=>whnf
 refine ⟨⟨⟨I,I,I,I,I,I,I,I,I,I,I,I,I⟩,⟨I,I⟩,⟨I,I,I,I,I,I,I,I,I⟩,I,I⟩,?_⟩
 refine W.sq ?_
 refine g 10 13 [] ?_
 conv=>whnf
 refine ⟨⟨I,I,I,I,I,I,I⟩,?_⟩
 refine W.cn ?_
 conv=>whnf
 refine ⟨fun _=>?_,noF (by simp_all)⟩
 refine g 13 15 [] ?_
 conv=>whnf
 refine ⟨⟨I,⟨I,I,I,I,I,I,I,I,I,I,I,I,I⟩,I⟩,?_⟩
 refine W.ret ?_
 refine EndsW.rt ?_
 conv=>whnf
 refine ⟨⟨I,I,I,I,I,I,I,I,I,I,I,I,I,I⟩,?_,rfl⟩
 rfl
theorem c_spec_l5Result (b:Boss) (p:Plan) (m:Message) (h:ResIn b p.tasks m) (f8:m.frm ≤ 8):F n_spec_l5Result [.val (bossO b),.val (planR p),.val (messageR m)] (bossO (resultB b p.tasks m)) [[],[],[]]:=by
 obtain ⟨hck,u3,u4,⟨t1,t2⟩,l1,l2,l3,l4,⟨f1,f2⟩,tx⟩:=h
 have hpl:=(chk_inv hck).1
 have hsi:seatI m < b.seats.length:=by unfold seatI; omega
 have hkr:m.task.toNat < b.results.length:=by omega
 have hte:¬ m.text = emp:=fun q=>by rw [q] at tx; cases tx
 obtain ⟨x,hx⟩:=some_at hsi
 obtain ⟨t,ht0⟩:=some_at (xs:=p.tasks) (n:=m.task.toNat) (by omega)
 obtain ⟨y,hy0⟩:=some_at (xs:=b.results) (n:=m.task.toNat) (by omega)
 obtain ⟨j,hj0⟩:=some_at (xs:=b.jobs) (n:=m.task.toNat) (by omega)
 have hya:=at_get' hy0
 obtain ⟨_,_,a3,a4⟩:=chk_task hck ht0
 have crd:=c_spec_l4Deps p b.results m.task t1 ht0 (fun e he=>by have:=a4 e he; omega) (by omega)
 have cf:=c_spec_FormEntry 2 b.epoch m.task m.text (by omega)
 by_cases hA:y = emp
 ·by_cases hP:CanPut b p.tasks m
  ·have hF:readyB b.results t.deps:=by have:=hP.ready; rw [deps_get ht0] at this; exact this
   have hR:=hP.room
   rw [decide_eq_true hF] at crd
   rw [res_put hP hkr hte]
   by_cases hO:b.owed.length < 2000
   ·refine i_spec_l5Result ?_
    conv=>whnf
    refine g 0 0 [] ?_
    conv=>whnf
    refine ⟨⟨⟨I,I,I,I,I,I,I,I,I,I,I,I,I⟩,⟨I,I⟩,⟨I,I,I,I,I,I,I,I,I⟩,I,I⟩,?_⟩
    refine W.sq ?_
    refine g 10 13 [] ?_
    conv=>whnf
    refine ⟨⟨I,I,I,I,I,I,I⟩,?_⟩
    refine W.cn ?_
    conv=>whnf
    refine ⟨noT (by simp [*]),fun _=>?_⟩
    refine W.skip ?_
    refine W.sq ?_
    refine g 13 41 [.n (Int.toNat (Message.task m)),.x (strT y),.b (true),.b (true),.b (true),.b (true),.b (true),.b (true),.call (V.b true) ([[],[],[]]),.b (true),.b (true),.b (true),.b (true),.b (true),.b (true),.b (true),.b (true),.b (true),.b (true),.i ((↑(List.length (List.map strT (Log.safe (Boss.log b)))):Int) + (↑(List.length (List.map strT (Log.loose (Boss.log b)))):Int)),.b (true),.b (true)] ?_
    conv=>whnf
    refine ⟨⟨I,I,I,I,⟨(by omega),(by simp only [lens]; omega)⟩,ixl (by assumption),I,I,⟨dT (by omega),I⟩,⟨dT (by omega),I⟩,⟨dT (by omega),I⟩,⟨dT (by omega),I⟩,⟨dT (by omega),I⟩,⟨dT (by omega),⟨I,I,I,I⟩,I,⟨⟨I,I⟩,⟨I,I⟩,⟨I,I⟩,I⟩,⟨I,I⟩,(by assumption)⟩,dT (by omega),I,⟨rfl,I⟩,⟨rfl,I⟩,⟨rfl,I⟩,⟨rfl,I⟩,⟨rfl,I⟩,⟨rfl,I⟩,⟨rfl,I⟩,⟨rfl,I⟩,⟨rfl,w64 (by simp only [lens]; omega) (by simp only [lens]; omega)⟩,⟨rfl,I⟩,rfl,I⟩,?_⟩
    refine W.cn ?_
    conv=>whnf
    refine ⟨fun h1=>?_,fun h1=>?_⟩
    replace h1:=dt h1
    simp only [List.length_map] at h1
    refine g 44 49 [.n (Int.toNat (Message.task m)),.x (strT y)] ?_
    conv=>whnf
    refine ⟨⟨I,I,I,I,I,I,⟨(by omega),(by simp only [lens]; omega)⟩,⟨⟨I,I⟩,ixl (by assumption)⟩,I⟩,?_⟩
    refine gd 49 64 [[],[],[],[],[],[],[],[],[],[],[.call (V.s (formS { kind:=(2:Int),epoch:=Boss.epoch b,task:=Message.task m,text:=Message.text m:Entry })) ([[]])],[],[],[],[],[]] ?_
    conv=>whnf
    refine ⟨⟨I,I,I,I,I,I,I,I,I,I,⟨⟨I,I⟩,I,⟨⟨I,I,I,I,I⟩,I⟩,⟨I,I⟩,(by assumption)⟩,⟨⟨I,I⟩,I⟩,⟨I,I,(by simp only [lens]; omega)⟩,I,I,⟨I,I⟩,I⟩,by kernel_rfl,?_⟩
    refine rg [.n (Int.toNat (Message.task m)),.x (jobT j)] ?_
    conv=>whnf
    refine ⟨⟨I,I,I,I,I,⟨(by omega),(by simp only [lens]; omega)⟩,⟨⟨I,I,I,I⟩,ixl (by assumption)⟩,I⟩,?_⟩
    refine W.sq ?_
    refine g 64 76 [.n (Int.toNat (Message.task m)),.x (patch (strT y) (0:Nat) [T.v (Value.string (Message.text m))])] ?_
    conv=>whnf
    refine ⟨⟨I,I,I,I,⟨(by omega),(by simp only [lens]; omega)⟩,getset (by simp only [lens]; omega),I,I⟩,?_⟩
    refine W.cn ?_
    conv=>whnf
    refine ⟨noT (dF (by omega)),fun _=>?_⟩
    refine W.skip ?_
    refine W.sq ?_
    refine gd 76 97 [[],[],[],[],[.n (Int.toNat (Message.task m))],[.x (patch (strT y) (0:Nat) [T.v (Value.string (Message.text m))])],[],[],[],[],[.b (false)],[.b (false)],[.b (false)],[.b (false)],[.b (false)]] ?_
    conv=>whnf
    refine ⟨⟨I,I,I,I,⟨(by omega),(by simp only [lens]; omega)⟩,getset (by simp only [lens]; omega),I,I,I,I,⟨notF rfl,I⟩,⟨notF rfl,I⟩,⟨notF rfl,I⟩,⟨notF rfl,I⟩,notF rfl,I⟩,by kernel_rfl,?_⟩
    refine W.cn ?_
    conv=>whnf
    refine ⟨fun h2=>?_,fun h2=>?_⟩
    replace h2:=dt h2
    simp only [List.length_map] at h2
    omega
    replace h2:=df h2
    simp only [List.length_map] at h2
    refine W.skip ?_
    refine W.sq ?_
    refine g 41 43 [] ?_
    conv=>whnf
    refine ⟨⟨I,I⟩,?_⟩
    refine W.blk ?_
    rotate_left 1
    replace h1:=df h1
    simp only [List.length_map] at h1
    omega
    refine W.lp (fun s (n:Nat)=>⟨[(0,s.s 0),(1,s.s 1),(2,s.s 2),(3,s.s 3),(5,s.s 5),(6,s.s 6),(7,.i n),(9,s.s 9),(43,s.s 43)],[(140,[s.c 140 0,s.c 140 1,s.c 140 2,s.c 140 3,s.c 140 4,s.c 140 5,s.c 140 6,s.c 140 7,s.c 140 8,s.c 140 9,s.c 140 10,s.c 140 11]),(3,[s.c 3 0,s.c 3 1,s.c 3 2,s.c 3 3,s.c 3 4,s.c 3 5,s.c 3 6,s.c 3 7,s.c 3 8,s.c 3 9,s.c 3 10,s.c 3 11]),(5,[s.c 5 0,s.c 5 1,s.c 5 2,s.c 5 3,s.c 5 4,s.c 5 5,s.c 5 6,s.c 5 7]),(6,[s.c 6 0,s.c 6 1,s.c 6 2,s.c 6 3,s.c 6 4,s.c 6 5,s.c 6 6,s.c 6 7,s.c 6 8,s.c 6 9,s.c 6 10,s.c 6 11])],[]⟩) (fun (n:Nat)=>n ≤ b.owed.length ∧ ∀ o ∈ b.owed.take n,¬ (o.worker = m.frm ∧ o.lease = m.lease)) (fun (n:Nat)=>b.owed.length - n) (0) [some 140,some 3,some 5,some 6] [] ⟨rfl,⟨⟨_,rfl,_,_,rfl,rfl,_,_,rfl,rfl,_,_,rfl,rfl,_,_,rfl,rfl,_,_,rfl,rfl,_,_,rfl,rfl,_,_,rfl,rfl,_,_,rfl,rfl,_,_,rfl,rfl,_,_,rfl,rfl,_,_,rfl,rfl,_,_,rfl,rfl,rfl⟩,⟨_,rfl,_,_,rfl,rfl,rfl⟩,⟨_,rfl,_,_,rfl,rfl,_,_,rfl,rfl,_,_,rfl,rfl,_,_,rfl,rfl,_,_,rfl,rfl,_,_,rfl,rfl,_,_,rfl,rfl,_,_,rfl,rfl,rfl⟩,rfl,rfl,rfl,rfl,rfl,rfl,I⟩,⟨⟨rfl,⟨rfl,⟨rfl,⟨rfl,⟨rfl,⟨rfl,⟨rfl,⟨I,⟨I,⟨I,⟨I,⟨I,⟨I,I⟩⟩⟩⟩⟩⟩⟩⟩⟩⟩⟩⟩⟩,⟨⟨rfl,⟨rfl,⟨rfl,⟨rfl,⟨rfl,⟨rfl,⟨rfl,⟨rfl,⟨rfl,⟨rfl,⟨rfl,⟨rfl,⟨rfl,I⟩⟩⟩⟩⟩⟩⟩⟩⟩⟩⟩⟩⟩,⟨⟨rfl,⟨rfl,⟨rfl,⟨rfl,⟨rfl,⟨rfl,⟨rfl,⟨rfl,⟨rfl,I⟩⟩⟩⟩⟩⟩⟩⟩⟩,⟨⟨rfl,⟨rfl,⟨rfl,⟨rfl,⟨rfl,⟨rfl,⟨rfl,⟨rfl,⟨rfl,⟨rfl,⟨rfl,⟨rfl,⟨rfl,I⟩⟩⟩⟩⟩⟩⟩⟩⟩⟩⟩⟩⟩,I⟩⟩⟩⟩,I⟩ (by simp) ?_
    rintro n ⟨hn,hc⟩
    by_cases hn2:n < b.owed.length
    ·obtain ⟨o,ho⟩:=some_at hn2
     by_cases hw:o.worker = m.frm
     ·by_cases hl:o.lease = m.lease
      ·rw [res3_no (b:=putB b m) (fun q=>owed_hit ho ⟨hw,hl⟩ q.new)]
       conv=>whnf
       refine W.sq ?_
       refine g 99 103 [] ?_
       conv=>whnf
       refine ⟨⟨I,I,I,I,I,I⟩,?_⟩
       refine W.cn ?_
       conv=>whnf
       refine ⟨fun _=>?_,noF (by simp [*])⟩
       refine W.skip ?_
       refine W.sq ?_
       refine W.blk ?_
       refine gd 103 125 [[],[],[],[.n (n)],[],[.x (owedT o)],[],[],[],[],[.b (true)],[.b (true)],[.b (true)],[.b (true),.n (n)],[.b (true)],[.b (true),.x (owedT o)],[.b (true)],[.b (true)],[.b (true)],[.b (true)]] ?_
       conv=>whnf
       refine ⟨⟨I,I,I,⟨rfl,(by simp only [lens]; omega)⟩,I,ixl (by assumption),I,I,I,I,⟨dT (by omega),I⟩,⟨dT (by omega),I⟩,⟨dT (by omega),I⟩,⟨dT (by omega),rfl,(by simp only [lens]; omega)⟩,⟨dT (by omega),I⟩,⟨dT (by omega),ixl (by assumption)⟩,⟨dT (by omega),I⟩,⟨dT (by omega),I⟩,⟨dT (by omega),I⟩,dT (by omega),I⟩,by kernel_rfl,?_⟩
       refine W.cn ?_
       conv=>whnf
       refine ⟨fun _=>?_,noF (dT (by omega))⟩
       refine g 125 127 [] ?_
       conv=>whnf
       refine ⟨⟨I,⟨I,I,I,I,I,I,I,I,I,I,I,I,I⟩,I⟩,?_⟩
       refine W.ret ?_
       refine EndsW.rt ?_
       conv=>whnf
       refine ⟨⟨I,I,I,I,I,I,I,I,I,I,I,I,I,I⟩,?_,rfl⟩
       all_goals (simp only [putB,bossO,cellsOf,List.map_set,List.map_append,List.map_cons,List.map_nil]; rfl)
      ·conv=>whnf
       refine W.sq ?_
       refine g 99 103 [] ?_
       conv=>whnf
       refine ⟨⟨I,I,I,I,I,I⟩,?_⟩
       refine W.cn ?_
       conv=>whnf
       refine ⟨fun _=>?_,noF (by simp [*])⟩
       refine W.skip ?_
       refine W.sq ?_
       refine W.blk ?_
       refine gd 103 125 [[],[],[],[.n (n)],[],[.x (owedT o)],[],[],[],[],[.b (true)],[.b (true)],[.b (true)],[.b (true),.n (n)],[.b (true)],[.b (true),.x (owedT o)],[.b (true)],[.b (true)],[.b (true)],[.b (true)]] ?_
       conv=>whnf
       refine ⟨⟨I,I,I,⟨rfl,(by simp only [lens]; omega)⟩,I,ixl (by assumption),I,I,I,I,⟨dT (by omega),I⟩,⟨dT (by omega),I⟩,⟨dT (by omega),I⟩,⟨dT (by omega),rfl,(by simp only [lens]; omega)⟩,⟨dT (by omega),I⟩,⟨dT (by omega),ixl (by assumption)⟩,⟨dT (by omega),I⟩,⟨dT (by omega),I⟩,⟨dT (by omega),I⟩,dT (by omega),I⟩,by kernel_rfl,?_⟩
       refine W.cn ?_
       conv=>whnf
       refine ⟨noT (dF (by omega)),fun _=>?_⟩
       refine W.skip ?_
       refine rg [.i ((↑n:Int) + (1:Int))] ?_
       conv=>whnf
       refine ⟨⟨I,w64 (by omega) (by omega),I,I⟩,?_⟩
       refine ⟨n + 1,[some 140,some 3,some 5,some 6],[],⟨rfl,⟨⟨_,rfl,_,_,rfl,rfl,_,_,rfl,rfl,_,_,rfl,rfl,_,_,rfl,rfl,_,_,rfl,rfl,_,_,rfl,rfl,_,_,rfl,rfl,_,_,rfl,rfl,_,_,rfl,rfl,_,_,rfl,rfl,_,_,rfl,rfl,_,_,rfl,rfl,rfl⟩,⟨_,rfl,_,_,rfl,rfl,rfl⟩,⟨_,rfl,_,_,rfl,rfl,_,_,rfl,rfl,_,_,rfl,rfl,_,_,rfl,rfl,_,_,rfl,rfl,_,_,rfl,rfl,_,_,rfl,rfl,_,_,rfl,rfl,rfl⟩,rfl,rfl,rfl,rfl,rfl,rfl,I⟩,⟨⟨rfl,⟨rfl,⟨rfl,⟨rfl,⟨rfl,⟨rfl,⟨rfl,⟨I,⟨I,⟨I,⟨I,⟨I,⟨I,I⟩⟩⟩⟩⟩⟩⟩⟩⟩⟩⟩⟩⟩,⟨⟨rfl,⟨rfl,⟨rfl,⟨rfl,⟨rfl,⟨rfl,⟨rfl,⟨rfl,⟨rfl,⟨rfl,⟨rfl,⟨rfl,⟨rfl,I⟩⟩⟩⟩⟩⟩⟩⟩⟩⟩⟩⟩⟩,⟨⟨rfl,⟨rfl,⟨rfl,⟨rfl,⟨rfl,⟨rfl,⟨rfl,⟨rfl,⟨rfl,I⟩⟩⟩⟩⟩⟩⟩⟩⟩,⟨⟨rfl,⟨rfl,⟨rfl,⟨rfl,⟨rfl,⟨rfl,⟨rfl,⟨rfl,⟨rfl,⟨rfl,⟨rfl,⟨rfl,⟨rfl,I⟩⟩⟩⟩⟩⟩⟩⟩⟩⟩⟩⟩⟩,I⟩⟩⟩⟩,I⟩,?_,?_⟩
       rotate_left 1
       (dsimp only; omega)
       dsimp only
       exact ⟨by omega,mem_step hc ho fun q=>hl q.2⟩
     ·conv=>whnf
      refine W.sq ?_
      refine g 99 103 [] ?_
      conv=>whnf
      refine ⟨⟨I,I,I,I,I,I⟩,?_⟩
      refine W.cn ?_
      conv=>whnf
      refine ⟨fun _=>?_,noF (by simp [*])⟩
      refine W.skip ?_
      refine W.sq ?_
      refine W.blk ?_
      refine gd 103 125 [[],[],[],[.n (n)],[],[.x (owedT o)],[],[],[],[],[.b (false)],[.b (false)],[.b (false)],[.b (false)],[.b (false)],[.b (false)],[.b (false)],[.b (false)],[.b (false)],[.b (false)]] ?_
      conv=>whnf
      refine ⟨⟨I,I,I,⟨rfl,(by simp only [lens]; omega)⟩,I,ixl (by assumption),I,I,I,I,dF (by omega),dF (by omega),dF (by omega),dF (by omega),dF (by omega),dF (by omega),dF (by omega),dF (by omega),dF (by omega),dF (by omega),I⟩,by kernel_rfl,?_⟩
      refine W.cn ?_
      conv=>whnf
      refine ⟨noT (rfl),fun _=>?_⟩
      refine W.skip ?_
      refine rg [.i ((↑n:Int) + (1:Int))] ?_
      conv=>whnf
      refine ⟨⟨I,w64 (by omega) (by omega),I,I⟩,?_⟩
      refine ⟨n + 1,[some 140,some 3,some 5,some 6],[],⟨rfl,⟨⟨_,rfl,_,_,rfl,rfl,_,_,rfl,rfl,_,_,rfl,rfl,_,_,rfl,rfl,_,_,rfl,rfl,_,_,rfl,rfl,_,_,rfl,rfl,_,_,rfl,rfl,_,_,rfl,rfl,_,_,rfl,rfl,_,_,rfl,rfl,_,_,rfl,rfl,rfl⟩,⟨_,rfl,_,_,rfl,rfl,rfl⟩,⟨_,rfl,_,_,rfl,rfl,_,_,rfl,rfl,_,_,rfl,rfl,_,_,rfl,rfl,_,_,rfl,rfl,_,_,rfl,rfl,_,_,rfl,rfl,_,_,rfl,rfl,rfl⟩,rfl,rfl,rfl,rfl,rfl,rfl,I⟩,⟨⟨rfl,⟨rfl,⟨rfl,⟨rfl,⟨rfl,⟨rfl,⟨rfl,⟨I,⟨I,⟨I,⟨I,⟨I,⟨I,I⟩⟩⟩⟩⟩⟩⟩⟩⟩⟩⟩⟩⟩,⟨⟨rfl,⟨rfl,⟨rfl,⟨rfl,⟨rfl,⟨rfl,⟨rfl,⟨rfl,⟨rfl,⟨rfl,⟨rfl,⟨rfl,⟨rfl,I⟩⟩⟩⟩⟩⟩⟩⟩⟩⟩⟩⟩⟩,⟨⟨rfl,⟨rfl,⟨rfl,⟨rfl,⟨rfl,⟨rfl,⟨rfl,⟨rfl,⟨rfl,I⟩⟩⟩⟩⟩⟩⟩⟩⟩,⟨⟨rfl,⟨rfl,⟨rfl,⟨rfl,⟨rfl,⟨rfl,⟨rfl,⟨rfl,⟨rfl,⟨rfl,⟨rfl,⟨rfl,⟨rfl,I⟩⟩⟩⟩⟩⟩⟩⟩⟩⟩⟩⟩⟩,I⟩⟩⟩⟩,I⟩,?_,?_⟩
      rotate_left 1
      (dsimp only; omega)
      dsimp only
      exact ⟨by omega,mem_step hc ho fun q=>hw q.1⟩
    ·rw [take_all (by omega)] at hc
     rw [res3_yes (put_owes (ts:=p.tasks) hkr hO hc)]
     conv=>whnf
     refine W.sq ?_
     refine g 99 103 [] ?_
     conv=>whnf
     refine ⟨⟨I,I,I,I,I,I⟩,?_⟩
     refine W.cn ?_
     conv=>whnf
     refine ⟨noT (by simp [*]),fun _=>?_⟩
     refine W.exit ?_
     refine g 103 139 [] ?_
     conv=>whnf
     refine ⟨⟨I,I,I,I,I,I,I,I,I,⟨⟨I,I,I,I⟩,I⟩,⟨I,I,(by simp only [lens]; omega)⟩,I,⟨I,I⟩,I⟩,?_⟩
     refine g 0 6 [] ?_
     conv=>whnf
     refine ⟨⟨I,⟨I,I,I,I,I,I,I,I,I,I,I,I,I⟩,I⟩,?_⟩
     refine W.ret ?_
     refine EndsW.rt ?_
     conv=>whnf
     refine ⟨⟨I,I,I,I,I,I,I,I,I,I,I,I,I,I⟩,?_,rfl⟩
     all_goals (simp only [putB,bossO,cellsOf,List.map_set,List.map_append,List.map_cons,List.map_nil]; rfl)
   ·rw [res3_no (b:=putB b m) (fun q=>hO q.room)]
    refine i_spec_l5Result ?_
    conv=>whnf
    refine g 0 0 [] ?_
    conv=>whnf
    refine ⟨⟨⟨I,I,I,I,I,I,I,I,I,I,I,I,I⟩,⟨I,I⟩,⟨I,I,I,I,I,I,I,I,I⟩,I,I⟩,?_⟩
    refine W.sq ?_
    refine g 10 13 [] ?_
    conv=>whnf
    refine ⟨⟨I,I,I,I,I,I,I⟩,?_⟩
    refine W.cn ?_
    conv=>whnf
    refine ⟨noT (by simp [*]),fun _=>?_⟩
    refine W.skip ?_
    refine W.sq ?_
    refine g 13 41 [.n (Int.toNat (Message.task m)),.x (strT y),.b (true),.b (true),.b (true),.b (true),.b (true),.b (true),.call (V.b true) ([[],[],[]]),.b (true),.b (true),.b (true),.b (true),.b (true),.b (true),.b (true),.b (true),.b (true),.b (true),.i ((↑(List.length (List.map strT (Log.safe (Boss.log b)))):Int) + (↑(List.length (List.map strT (Log.loose (Boss.log b)))):Int)),.b (true),.b (true)] ?_
    conv=>whnf
    refine ⟨⟨I,I,I,I,⟨(by omega),(by simp only [lens]; omega)⟩,ixl (by assumption),I,I,⟨dT (by omega),I⟩,⟨dT (by omega),I⟩,⟨dT (by omega),I⟩,⟨dT (by omega),I⟩,⟨dT (by omega),I⟩,⟨dT (by omega),⟨I,I,I,I⟩,I,⟨⟨I,I⟩,⟨I,I⟩,⟨I,I⟩,I⟩,⟨I,I⟩,(by assumption)⟩,dT (by omega),I,⟨rfl,I⟩,⟨rfl,I⟩,⟨rfl,I⟩,⟨rfl,I⟩,⟨rfl,I⟩,⟨rfl,I⟩,⟨rfl,I⟩,⟨rfl,I⟩,⟨rfl,w64 (by simp only [lens]; omega) (by simp only [lens]; omega)⟩,⟨rfl,I⟩,rfl,I⟩,?_⟩
    refine W.cn ?_
    conv=>whnf
    refine ⟨fun h1=>?_,fun h1=>?_⟩
    replace h1:=dt h1
    simp only [List.length_map] at h1
    refine g 44 49 [.n (Int.toNat (Message.task m)),.x (strT y)] ?_
    conv=>whnf
    refine ⟨⟨I,I,I,I,I,I,⟨(by omega),(by simp only [lens]; omega)⟩,⟨⟨I,I⟩,ixl (by assumption)⟩,I⟩,?_⟩
    refine gd 49 64 [[],[],[],[],[],[],[],[],[],[],[.call (V.s (formS { kind:=(2:Int),epoch:=Boss.epoch b,task:=Message.task m,text:=Message.text m:Entry })) ([[]])],[],[],[],[],[]] ?_
    conv=>whnf
    refine ⟨⟨I,I,I,I,I,I,I,I,I,I,⟨⟨I,I⟩,I,⟨⟨I,I,I,I,I⟩,I⟩,⟨I,I⟩,(by assumption)⟩,⟨⟨I,I⟩,I⟩,⟨I,I,(by simp only [lens]; omega)⟩,I,I,⟨I,I⟩,I⟩,by kernel_rfl,?_⟩
    refine rg [.n (Int.toNat (Message.task m)),.x (jobT j)] ?_
    conv=>whnf
    refine ⟨⟨I,I,I,I,I,⟨(by omega),(by simp only [lens]; omega)⟩,⟨⟨I,I,I,I⟩,ixl (by assumption)⟩,I⟩,?_⟩
    refine W.sq ?_
    refine g 64 76 [.n (Int.toNat (Message.task m)),.x (patch (strT y) (0:Nat) [T.v (Value.string (Message.text m))])] ?_
    conv=>whnf
    refine ⟨⟨I,I,I,I,⟨(by omega),(by simp only [lens]; omega)⟩,getset (by simp only [lens]; omega),I,I⟩,?_⟩
    refine W.cn ?_
    conv=>whnf
    refine ⟨noT (dF (by omega)),fun _=>?_⟩
    refine W.skip ?_
    refine W.sq ?_
    refine gd 76 97 [[],[],[],[],[.n (Int.toNat (Message.task m))],[.x (patch (strT y) (0:Nat) [T.v (Value.string (Message.text m))])],[],[],[],[],[.b (false)],[.b (false)],[.b (false)],[.b (false)],[.b (false)]] ?_
    conv=>whnf
    refine ⟨⟨I,I,I,I,⟨(by omega),(by simp only [lens]; omega)⟩,getset (by simp only [lens]; omega),I,I,I,I,⟨notF rfl,I⟩,⟨notF rfl,I⟩,⟨notF rfl,I⟩,⟨notF rfl,I⟩,notF rfl,I⟩,by kernel_rfl,?_⟩
    refine W.cn ?_
    conv=>whnf
    refine ⟨fun h2=>?_,fun h2=>?_⟩
    replace h2:=dt h2
    simp only [List.length_map] at h2
    refine g 41 43 [] ?_
    conv=>whnf
    refine ⟨⟨I,⟨I,I,I,I,I,I,I,I,I,I,I,I,I⟩,I⟩,?_⟩
    refine W.ret ?_
    refine EndsW.rt ?_
    conv=>whnf
    refine ⟨⟨I,I,I,I,I,I,I,I,I,I,I,I,I,I⟩,?_,rfl⟩
    rotate_left 1
    replace h2:=df h2
    simp only [List.length_map] at h2
    omega
    replace h1:=df h1
    simp only [List.length_map] at h1
    omega
    all_goals (simp only [putB,bossO,cellsOf,List.map_set,List.map_append,List.map_cons,List.map_nil]; rfl)
  ·rw [res_emp hP (by rw [hya]; exact hA) hte]
   have hO:True:=trivial
   by_cases hF:readyB b.results t.deps
   ·rw [decide_eq_true hF] at crd
    have hR:¬ b.log.safe.length + b.log.loose.length < 310:=fun q=>hP ⟨by rw [hya]; exact hA,by rw [deps_get ht0]; exact hF,q⟩
    by_cases ho:oldM b m
    ·have cfr:=c_l5Free_old b m hx ⟨f1,f8⟩ ho
     rw [free_old ho]
     refine i_spec_l5Result ?_
     conv=>whnf
     refine g 0 0 [] ?_
     conv=>whnf
     refine ⟨⟨⟨I,I,I,I,I,I,I,I,I,I,I,I,I⟩,⟨I,I⟩,⟨I,I,I,I,I,I,I,I,I⟩,I,I⟩,?_⟩
     refine W.sq ?_
     refine g 10 13 [] ?_
     conv=>whnf
     refine ⟨⟨I,I,I,I,I,I,I⟩,?_⟩
     refine W.cn ?_
     conv=>whnf
     refine ⟨noT (by simp [*]),fun _=>?_⟩
     refine W.skip ?_
     refine W.sq ?_
     refine g 13 41 [.n (Int.toNat (Message.task m)),.x (strT y),.b (true),.b (true),.b (true),.b (true),.b (true),.b (true),.call (V.b true) ([[],[],[]]),.b (true),.b (true),.b (true),.b (true),.b (true),.b (true),.b (true),.b (true),.b (true),.b (true),.i ((↑(List.length (List.map strT (Log.safe (Boss.log b)))):Int) + (↑(List.length (List.map strT (Log.loose (Boss.log b)))):Int)),.b (true),.b (true)] ?_
     conv=>whnf
     refine ⟨⟨I,I,I,I,⟨(by omega),(by simp only [lens]; omega)⟩,ixl (by assumption),I,I,⟨dT (by omega),I⟩,⟨dT (by omega),I⟩,⟨dT (by omega),I⟩,⟨dT (by omega),I⟩,⟨dT (by omega),I⟩,⟨dT (by omega),⟨I,I,I,I⟩,I,⟨⟨I,I⟩,⟨I,I⟩,⟨I,I⟩,I⟩,⟨I,I⟩,(by assumption)⟩,dT (by omega),I,⟨rfl,I⟩,⟨rfl,I⟩,⟨rfl,I⟩,⟨rfl,I⟩,⟨rfl,I⟩,⟨rfl,I⟩,⟨rfl,I⟩,⟨rfl,I⟩,⟨rfl,w64 (by simp only [lens]; omega) (by simp only [lens]; omega)⟩,⟨rfl,I⟩,rfl,I⟩,?_⟩
     refine W.cn ?_
     conv=>whnf
     refine ⟨fun h1=>?_,fun h1=>?_⟩
     replace h1:=dt h1
     simp only [List.length_map] at h1
     omega
     replace h1:=df h1
     simp only [List.length_map] at h1
     refine W.skip ?_
     refine W.sq ?_
     refine g 41 76 [.n (Int.toNat (Message.task m)),.x (strT y)] ?_
     conv=>whnf
     refine ⟨⟨I,I,I,I,⟨(by omega),(by simp only [lens]; omega)⟩,ixl (by assumption),I,I⟩,?_⟩
     refine W.cn ?_
     conv=>whnf
     refine ⟨fun _=>?_,noF (dT (by omega))⟩
     refine rg [.call (V.tup [bossO b,V.b false]) ([[],[]])] ?_
     conv=>whnf
     refine ⟨⟨I,I,⟨⟨⟨I,I,I,I,I,I,I,I,I,I,I,I,I⟩,I,I⟩,I,⟨I,⟨I,I,I,I,I,I,I,I,I⟩,I⟩,⟨I,I⟩,(by assumption)⟩,I,I,I,⟨I,I,I,I,I,I,I,I,I,I,I,I,I⟩,I⟩,?_⟩
     refine W.sq ?_
     by_cases h2:y = Message.text m
     refine gd 76 97 [[],[],[],[],[.n (Int.toNat (Message.task m))],[.x (strT y)],[],[],[],[],[.b (false)],[.b (false)],[.b (false)],[.b (false)],[.b (false)]] ?_
     conv=>whnf
     refine ⟨⟨I,I,I,I,⟨(by omega),(by simp only [lens]; omega)⟩,ixl (by assumption),I,I,I,I,⟨notF (by omega),I⟩,⟨notF (by omega),I⟩,⟨notF (by omega),I⟩,⟨notF (by omega),I⟩,notF (by omega),I⟩,by kernel_rfl,?_⟩
     refine W.cn ?_
     conv=>whnf
     refine ⟨fun _=>?_,noF (by simp_all)⟩
     refine g 97 99 [] ?_
     conv=>whnf
     refine ⟨⟨I,⟨I,I,I,I,I,I,I,I,I,I,I,I,I⟩,I⟩,?_⟩
     refine W.ret ?_
     refine EndsW.rt ?_
     conv=>whnf
     refine ⟨⟨I,I,I,I,I,I,I,I,I,I,I,I,I,I⟩,?_,rfl⟩
     rfl
     refine gd 76 97 [[],[],[],[],[.n (Int.toNat (Message.task m))],[.x (strT y)],[],[],[],[],[.b (true)],[.b (true)],[.b (true)],[.b (true)],[.b (true)]] ?_
     conv=>whnf
     refine ⟨⟨I,I,I,I,⟨(by omega),(by simp only [lens]; omega)⟩,ixl (by assumption),I,I,I,I,notT (by omega),notT (by omega),notT (by omega),notT (by omega),notT (by omega),I⟩,by kernel_rfl,?_⟩
     refine W.cn ?_
     conv=>whnf
     refine ⟨fun _=>?_,noF (rfl)⟩
     refine g 97 99 [] ?_
     conv=>whnf
     refine ⟨⟨I,⟨I,I,I,I,I,I,I,I,I,I,I,I,I⟩,I⟩,?_⟩
     refine W.ret ?_
     refine EndsW.rt ?_
     conv=>whnf
     refine ⟨⟨I,I,I,I,I,I,I,I,I,I,I,I,I,I⟩,?_,rfl⟩
     rfl
    ·have cfr:=c_l5Free_new b m hx ⟨f1,f8⟩ ho
     rw [free_new ho] at cfr ⊢
     refine i_spec_l5Result ?_
     conv=>whnf
     refine g 0 0 [] ?_
     conv=>whnf
     refine ⟨⟨⟨I,I,I,I,I,I,I,I,I,I,I,I,I⟩,⟨I,I⟩,⟨I,I,I,I,I,I,I,I,I⟩,I,I⟩,?_⟩
     refine W.sq ?_
     refine g 10 13 [] ?_
     conv=>whnf
     refine ⟨⟨I,I,I,I,I,I,I⟩,?_⟩
     refine W.cn ?_
     conv=>whnf
     refine ⟨noT (by simp [*]),fun _=>?_⟩
     refine W.skip ?_
     refine W.sq ?_
     refine g 13 41 [.n (Int.toNat (Message.task m)),.x (strT y),.b (true),.b (true),.b (true),.b (true),.b (true),.b (true),.call (V.b true) ([[],[],[]]),.b (true),.b (true),.b (true),.b (true),.b (true),.b (true),.b (true),.b (true),.b (true),.b (true),.i ((↑(List.length (List.map strT (Log.safe (Boss.log b)))):Int) + (↑(List.length (List.map strT (Log.loose (Boss.log b)))):Int)),.b (true),.b (true)] ?_
     conv=>whnf
     refine ⟨⟨I,I,I,I,⟨(by omega),(by simp only [lens]; omega)⟩,ixl (by assumption),I,I,⟨dT (by omega),I⟩,⟨dT (by omega),I⟩,⟨dT (by omega),I⟩,⟨dT (by omega),I⟩,⟨dT (by omega),I⟩,⟨dT (by omega),⟨I,I,I,I⟩,I,⟨⟨I,I⟩,⟨I,I⟩,⟨I,I⟩,I⟩,⟨I,I⟩,(by assumption)⟩,dT (by omega),I,⟨rfl,I⟩,⟨rfl,I⟩,⟨rfl,I⟩,⟨rfl,I⟩,⟨rfl,I⟩,⟨rfl,I⟩,⟨rfl,I⟩,⟨rfl,I⟩,⟨rfl,w64 (by simp only [lens]; omega) (by simp only [lens]; omega)⟩,⟨rfl,I⟩,rfl,I⟩,?_⟩
     refine W.cn ?_
     conv=>whnf
     refine ⟨fun h1=>?_,fun h1=>?_⟩
     replace h1:=dt h1
     simp only [List.length_map] at h1
     omega
     replace h1:=df h1
     simp only [List.length_map] at h1
     refine W.skip ?_
     refine W.sq ?_
     refine g 41 76 [.n (Int.toNat (Message.task m)),.x (strT y)] ?_
     conv=>whnf
     refine ⟨⟨I,I,I,I,⟨(by omega),(by simp only [lens]; omega)⟩,ixl (by assumption),I,I⟩,?_⟩
     refine W.cn ?_
     conv=>whnf
     refine ⟨fun _=>?_,noF (dT (by omega))⟩
     refine rg [.call (V.tup [bossO { workers:=Boss.workers b,up:=Boss.up b,now:=Boss.now b,since:=Boss.since b,epoch:=Boss.epoch b,given:=Boss.given b,log:=Boss.log b,results:=Boss.results b,jobs:=Boss.jobs b,seats:=List.set (Boss.seats b) (seatI m) { free:=true,epoch:=Message.epoch m:Seat },owed:=Boss.owed b:Boss },V.b true]) ([[],[]])] ?_
     conv=>whnf
     refine ⟨⟨I,I,⟨⟨⟨I,I,I,I,I,I,I,I,I,I,I,I,I⟩,I,I⟩,I,⟨I,⟨I,I,I,I,I,I,I,I,I⟩,I⟩,⟨I,I⟩,(by assumption)⟩,I,I,I,⟨I,I,I,I,I,I,I,I,I,I,I,I,I⟩,I⟩,?_⟩
     refine W.sq ?_
     by_cases h2:y = Message.text m
     refine gd 76 97 [[],[],[],[],[.n (Int.toNat (Message.task m))],[.x (strT y)],[],[],[],[],[.b (false)],[.b (false)],[.b (false)],[.b (false)],[.b (false)]] ?_
     conv=>whnf
     refine ⟨⟨I,I,I,I,⟨(by omega),(by simp only [lens]; omega)⟩,ixl (by assumption),I,I,I,I,⟨notF (by omega),I⟩,⟨notF (by omega),I⟩,⟨notF (by omega),I⟩,⟨notF (by omega),I⟩,notF (by omega),I⟩,by kernel_rfl,?_⟩
     refine W.cn ?_
     conv=>whnf
     refine ⟨fun _=>?_,noF (by simp_all)⟩
     refine g 97 99 [] ?_
     conv=>whnf
     refine ⟨⟨I,⟨I,I,I,I,I,I,I,I,I,I,I,I,I⟩,I⟩,?_⟩
     refine W.ret ?_
     refine EndsW.rt ?_
     conv=>whnf
     refine ⟨⟨I,I,I,I,I,I,I,I,I,I,I,I,I,I⟩,?_,rfl⟩
     rfl
     refine gd 76 97 [[],[],[],[],[.n (Int.toNat (Message.task m))],[.x (strT y)],[],[],[],[],[.b (true)],[.b (true)],[.b (true)],[.b (true)],[.b (true)]] ?_
     conv=>whnf
     refine ⟨⟨I,I,I,I,⟨(by omega),(by simp only [lens]; omega)⟩,ixl (by assumption),I,I,I,I,notT (by omega),notT (by omega),notT (by omega),notT (by omega),notT (by omega),I⟩,by kernel_rfl,?_⟩
     refine W.cn ?_
     conv=>whnf
     refine ⟨fun _=>?_,noF (rfl)⟩
     refine g 97 99 [] ?_
     conv=>whnf
     refine ⟨⟨I,⟨I,I,I,I,I,I,I,I,I,I,I,I,I⟩,I⟩,?_⟩
     refine W.ret ?_
     refine EndsW.rt ?_
     conv=>whnf
     refine ⟨⟨I,I,I,I,I,I,I,I,I,I,I,I,I,I⟩,?_,rfl⟩
     rfl
   ·rw [decide_eq_false hF] at crd
    by_cases ho:oldM b m
    ·have cfr:=c_l5Free_old b m hx ⟨f1,f8⟩ ho
     rw [free_old ho]
     refine i_spec_l5Result ?_
     conv=>whnf
     refine g 0 0 [] ?_
     conv=>whnf
     refine ⟨⟨⟨I,I,I,I,I,I,I,I,I,I,I,I,I⟩,⟨I,I⟩,⟨I,I,I,I,I,I,I,I,I⟩,I,I⟩,?_⟩
     refine W.sq ?_
     refine g 10 13 [] ?_
     conv=>whnf
     refine ⟨⟨I,I,I,I,I,I,I⟩,?_⟩
     refine W.cn ?_
     conv=>whnf
     refine ⟨noT (by simp [*]),fun _=>?_⟩
     refine W.skip ?_
     refine W.sq ?_
     refine g 13 41 [.n (Int.toNat (Message.task m)),.x (strT y),.b (true),.b (true),.b (true),.b (true),.b (true),.b (true),.call (V.b false) ([[],[],[]]),.b (true),.b (false),.b (false),.b (false),.b (false),.b (false),.b (false),.b (false),.b (false),.b (false),.b (false),.b (false)] ?_
     conv=>whnf
     refine ⟨⟨I,I,I,I,⟨(by omega),(by simp only [lens]; omega)⟩,ixl (by assumption),I,I,⟨dT (by omega),I⟩,⟨dT (by omega),I⟩,⟨dT (by omega),I⟩,⟨dT (by omega),I⟩,⟨dT (by omega),I⟩,⟨dT (by omega),⟨I,I,I,I⟩,I,⟨⟨I,I⟩,⟨I,I⟩,⟨I,I⟩,I⟩,⟨I,I⟩,(by assumption)⟩,dT (by omega),I,rfl,rfl,rfl,rfl,rfl,rfl,rfl,rfl,rfl,rfl,rfl,I⟩,?_⟩
     refine W.cn ?_
     conv=>whnf
     refine ⟨noT (rfl),fun _=>?_⟩
     refine W.skip ?_
     refine W.sq ?_
     refine g 41 76 [.n (Int.toNat (Message.task m)),.x (strT y)] ?_
     conv=>whnf
     refine ⟨⟨I,I,I,I,⟨(by omega),(by simp only [lens]; omega)⟩,ixl (by assumption),I,I⟩,?_⟩
     refine W.cn ?_
     conv=>whnf
     refine ⟨fun _=>?_,noF (dT (by omega))⟩
     refine rg [.call (V.tup [bossO b,V.b false]) ([[],[]])] ?_
     conv=>whnf
     refine ⟨⟨I,I,⟨⟨⟨I,I,I,I,I,I,I,I,I,I,I,I,I⟩,I,I⟩,I,⟨I,⟨I,I,I,I,I,I,I,I,I⟩,I⟩,⟨I,I⟩,(by assumption)⟩,I,I,I,⟨I,I,I,I,I,I,I,I,I,I,I,I,I⟩,I⟩,?_⟩
     refine W.sq ?_
     by_cases h1:y = Message.text m
     refine gd 76 97 [[],[],[],[],[.n (Int.toNat (Message.task m))],[.x (strT y)],[],[],[],[],[.b (false)],[.b (false)],[.b (false)],[.b (false)],[.b (false)]] ?_
     conv=>whnf
     refine ⟨⟨I,I,I,I,⟨(by omega),(by simp only [lens]; omega)⟩,ixl (by assumption),I,I,I,I,⟨notF (by omega),I⟩,⟨notF (by omega),I⟩,⟨notF (by omega),I⟩,⟨notF (by omega),I⟩,notF (by omega),I⟩,by kernel_rfl,?_⟩
     refine W.cn ?_
     conv=>whnf
     refine ⟨fun _=>?_,noF (by simp_all)⟩
     refine g 97 99 [] ?_
     conv=>whnf
     refine ⟨⟨I,⟨I,I,I,I,I,I,I,I,I,I,I,I,I⟩,I⟩,?_⟩
     refine W.ret ?_
     refine EndsW.rt ?_
     conv=>whnf
     refine ⟨⟨I,I,I,I,I,I,I,I,I,I,I,I,I,I⟩,?_,rfl⟩
     rfl
     refine gd 76 97 [[],[],[],[],[.n (Int.toNat (Message.task m))],[.x (strT y)],[],[],[],[],[.b (true)],[.b (true)],[.b (true)],[.b (true)],[.b (true)]] ?_
     conv=>whnf
     refine ⟨⟨I,I,I,I,⟨(by omega),(by simp only [lens]; omega)⟩,ixl (by assumption),I,I,I,I,notT (by omega),notT (by omega),notT (by omega),notT (by omega),notT (by omega),I⟩,by kernel_rfl,?_⟩
     refine W.cn ?_
     conv=>whnf
     refine ⟨fun _=>?_,noF (rfl)⟩
     refine g 97 99 [] ?_
     conv=>whnf
     refine ⟨⟨I,⟨I,I,I,I,I,I,I,I,I,I,I,I,I⟩,I⟩,?_⟩
     refine W.ret ?_
     refine EndsW.rt ?_
     conv=>whnf
     refine ⟨⟨I,I,I,I,I,I,I,I,I,I,I,I,I,I⟩,?_,rfl⟩
     rfl
    ·have cfr:=c_l5Free_new b m hx ⟨f1,f8⟩ ho
     rw [free_new ho] at cfr ⊢
     refine i_spec_l5Result ?_
     conv=>whnf
     refine g 0 0 [] ?_
     conv=>whnf
     refine ⟨⟨⟨I,I,I,I,I,I,I,I,I,I,I,I,I⟩,⟨I,I⟩,⟨I,I,I,I,I,I,I,I,I⟩,I,I⟩,?_⟩
     refine W.sq ?_
     refine g 10 13 [] ?_
     conv=>whnf
     refine ⟨⟨I,I,I,I,I,I,I⟩,?_⟩
     refine W.cn ?_
     conv=>whnf
     refine ⟨noT (by simp [*]),fun _=>?_⟩
     refine W.skip ?_
     refine W.sq ?_
     refine g 13 41 [.n (Int.toNat (Message.task m)),.x (strT y),.b (true),.b (true),.b (true),.b (true),.b (true),.b (true),.call (V.b false) ([[],[],[]]),.b (true),.b (false),.b (false),.b (false),.b (false),.b (false),.b (false),.b (false),.b (false),.b (false),.b (false),.b (false)] ?_
     conv=>whnf
     refine ⟨⟨I,I,I,I,⟨(by omega),(by simp only [lens]; omega)⟩,ixl (by assumption),I,I,⟨dT (by omega),I⟩,⟨dT (by omega),I⟩,⟨dT (by omega),I⟩,⟨dT (by omega),I⟩,⟨dT (by omega),I⟩,⟨dT (by omega),⟨I,I,I,I⟩,I,⟨⟨I,I⟩,⟨I,I⟩,⟨I,I⟩,I⟩,⟨I,I⟩,(by assumption)⟩,dT (by omega),I,rfl,rfl,rfl,rfl,rfl,rfl,rfl,rfl,rfl,rfl,rfl,I⟩,?_⟩
     refine W.cn ?_
     conv=>whnf
     refine ⟨noT (rfl),fun _=>?_⟩
     refine W.skip ?_
     refine W.sq ?_
     refine g 41 76 [.n (Int.toNat (Message.task m)),.x (strT y)] ?_
     conv=>whnf
     refine ⟨⟨I,I,I,I,⟨(by omega),(by simp only [lens]; omega)⟩,ixl (by assumption),I,I⟩,?_⟩
     refine W.cn ?_
     conv=>whnf
     refine ⟨fun _=>?_,noF (dT (by omega))⟩
     refine rg [.call (V.tup [bossO { workers:=Boss.workers b,up:=Boss.up b,now:=Boss.now b,since:=Boss.since b,epoch:=Boss.epoch b,given:=Boss.given b,log:=Boss.log b,results:=Boss.results b,jobs:=Boss.jobs b,seats:=List.set (Boss.seats b) (seatI m) { free:=true,epoch:=Message.epoch m:Seat },owed:=Boss.owed b:Boss },V.b true]) ([[],[]])] ?_
     conv=>whnf
     refine ⟨⟨I,I,⟨⟨⟨I,I,I,I,I,I,I,I,I,I,I,I,I⟩,I,I⟩,I,⟨I,⟨I,I,I,I,I,I,I,I,I⟩,I⟩,⟨I,I⟩,(by assumption)⟩,I,I,I,⟨I,I,I,I,I,I,I,I,I,I,I,I,I⟩,I⟩,?_⟩
     refine W.sq ?_
     by_cases h1:y = Message.text m
     refine gd 76 97 [[],[],[],[],[.n (Int.toNat (Message.task m))],[.x (strT y)],[],[],[],[],[.b (false)],[.b (false)],[.b (false)],[.b (false)],[.b (false)]] ?_
     conv=>whnf
     refine ⟨⟨I,I,I,I,⟨(by omega),(by simp only [lens]; omega)⟩,ixl (by assumption),I,I,I,I,⟨notF (by omega),I⟩,⟨notF (by omega),I⟩,⟨notF (by omega),I⟩,⟨notF (by omega),I⟩,notF (by omega),I⟩,by kernel_rfl,?_⟩
     refine W.cn ?_
     conv=>whnf
     refine ⟨fun _=>?_,noF (by simp_all)⟩
     refine g 97 99 [] ?_
     conv=>whnf
     refine ⟨⟨I,⟨I,I,I,I,I,I,I,I,I,I,I,I,I⟩,I⟩,?_⟩
     refine W.ret ?_
     refine EndsW.rt ?_
     conv=>whnf
     refine ⟨⟨I,I,I,I,I,I,I,I,I,I,I,I,I,I⟩,?_,rfl⟩
     rfl
     refine gd 76 97 [[],[],[],[],[.n (Int.toNat (Message.task m))],[.x (strT y)],[],[],[],[],[.b (true)],[.b (true)],[.b (true)],[.b (true)],[.b (true)]] ?_
     conv=>whnf
     refine ⟨⟨I,I,I,I,⟨(by omega),(by simp only [lens]; omega)⟩,ixl (by assumption),I,I,I,I,notT (by omega),notT (by omega),notT (by omega),notT (by omega),notT (by omega),I⟩,by kernel_rfl,?_⟩
     refine W.cn ?_
     conv=>whnf
     refine ⟨fun _=>?_,noF (rfl)⟩
     refine g 97 99 [] ?_
     conv=>whnf
     refine ⟨⟨I,⟨I,I,I,I,I,I,I,I,I,I,I,I,I⟩,I⟩,?_⟩
     refine W.ret ?_
     refine EndsW.rt ?_
     conv=>whnf
     refine ⟨⟨I,I,I,I,I,I,I,I,I,I,I,I,I,I⟩,?_,rfl⟩
     rfl
 ·rw [res_full (by rw [hya]; exact hA)]
  by_cases hs:y = m.text
  ·by_cases hO:b.owed.length < 2000
   ·refine i_spec_l5Result ?_
    conv=>whnf
    refine g 0 0 [] ?_
    conv=>whnf
    refine ⟨⟨⟨I,I,I,I,I,I,I,I,I,I,I,I,I⟩,⟨I,I⟩,⟨I,I,I,I,I,I,I,I,I⟩,I,I⟩,?_⟩
    refine W.sq ?_
    refine g 10 13 [] ?_
    conv=>whnf
    refine ⟨⟨I,I,I,I,I,I,I⟩,?_⟩
    refine W.cn ?_
    conv=>whnf
    refine ⟨noT (by simp [*]),fun _=>?_⟩
    refine W.skip ?_
    refine W.sq ?_
    refine g 13 41 [.n (Int.toNat (Message.task m)),.x (strT y),.b (false),.b (false),.b (false),.b (false),.b (false),.b (false),.b (false),.b (false),.b (false),.b (false),.b (false),.b (false),.b (false),.b (false),.b (false),.b (false),.b (false),.b (false)] ?_
    conv=>whnf
    refine ⟨⟨I,I,I,I,⟨(by omega),(by simp only [lens]; omega)⟩,ixl (by assumption),I,I,dF (by omega),dF (by omega),dF (by omega),dF (by omega),dF (by omega),dF (by omega),dF (by omega),I,rfl,rfl,rfl,rfl,rfl,rfl,rfl,rfl,rfl,rfl,rfl,I⟩,?_⟩
    refine W.cn ?_
    conv=>whnf
    refine ⟨noT (rfl),fun _=>?_⟩
    refine W.skip ?_
    refine W.sq ?_
    refine g 41 76 [.n (Int.toNat (Message.task m)),.x (strT y)] ?_
    conv=>whnf
    refine ⟨⟨I,I,I,I,⟨(by omega),(by simp only [lens]; omega)⟩,ixl (by assumption),I,I⟩,?_⟩
    refine W.cn ?_
    conv=>whnf
    refine ⟨noT (dF (by omega)),fun _=>?_⟩
    refine W.skip ?_
    refine W.sq ?_
    refine gd 76 97 [[],[],[],[],[.n (Int.toNat (Message.task m))],[.x (strT y)],[],[],[],[],[.b (false)],[.b (false)],[.b (false)],[.b (false)],[.b (false)]] ?_
    conv=>whnf
    refine ⟨⟨I,I,I,I,⟨(by omega),(by simp only [lens]; omega)⟩,ixl (by assumption),I,I,I,I,⟨notF (by omega),I⟩,⟨notF (by omega),I⟩,⟨notF (by omega),I⟩,⟨notF (by omega),I⟩,notF (by omega),I⟩,by kernel_rfl,?_⟩
    refine W.cn ?_
    conv=>whnf
    refine ⟨fun h1=>?_,fun h1=>?_⟩
    replace h1:=dt h1
    simp only [List.length_map] at h1
    omega
    replace h1:=df h1
    simp only [List.length_map] at h1
    refine W.skip ?_
    refine W.sq ?_
    refine g 4 5 [] ?_
    conv=>whnf
    refine ⟨⟨I,I⟩,?_⟩
    refine W.blk ?_
    refine W.lp (fun s (n:Nat)=>⟨[(0,s.s 0),(1,s.s 1),(2,s.s 2),(3,s.s 3),(5,s.s 5),(6,s.s 6),(7,.i n),(9,s.s 9)],[(140,[s.c 140 0,s.c 140 1,s.c 140 2,s.c 140 3,s.c 140 4,s.c 140 5,s.c 140 6,s.c 140 7,s.c 140 8,s.c 140 9,s.c 140 10,s.c 140 11]),(3,[s.c 3 0,s.c 3 1,s.c 3 2,s.c 3 3,s.c 3 4,s.c 3 5,s.c 3 6,s.c 3 7,s.c 3 8,s.c 3 9,s.c 3 10,s.c 3 11]),(5,[s.c 5 0,s.c 5 1,s.c 5 2,s.c 5 3,s.c 5 4,s.c 5 5,s.c 5 6,s.c 5 7]),(6,[s.c 6 0,s.c 6 1,s.c 6 2,s.c 6 3,s.c 6 4,s.c 6 5,s.c 6 6,s.c 6 7,s.c 6 8,s.c 6 9,s.c 6 10,s.c 6 11])],[]⟩) (fun (n:Nat)=>n ≤ b.owed.length ∧ ∀ o ∈ b.owed.take n,¬ (o.worker = m.frm ∧ o.lease = m.lease)) (fun (n:Nat)=>b.owed.length - n) (0) [some 140,some 3,some 5,some 6] [] ⟨rfl,⟨⟨_,rfl,_,_,rfl,rfl,_,_,rfl,rfl,_,_,rfl,rfl,_,_,rfl,rfl,_,_,rfl,rfl,_,_,rfl,rfl,_,_,rfl,rfl,_,_,rfl,rfl,_,_,rfl,rfl,_,_,rfl,rfl,_,_,rfl,rfl,_,_,rfl,rfl,rfl⟩,⟨_,rfl,_,_,rfl,rfl,rfl⟩,⟨_,rfl,_,_,rfl,rfl,_,_,rfl,rfl,_,_,rfl,rfl,_,_,rfl,rfl,_,_,rfl,rfl,_,_,rfl,rfl,_,_,rfl,rfl,_,_,rfl,rfl,rfl⟩,rfl,rfl,rfl,rfl,rfl,I⟩,⟨⟨rfl,⟨rfl,⟨rfl,⟨rfl,⟨rfl,⟨rfl,⟨rfl,⟨I,⟨I,⟨I,⟨I,⟨I,⟨I,I⟩⟩⟩⟩⟩⟩⟩⟩⟩⟩⟩⟩⟩,⟨⟨rfl,⟨rfl,⟨rfl,⟨rfl,⟨rfl,⟨rfl,⟨rfl,⟨rfl,⟨rfl,⟨rfl,⟨rfl,⟨rfl,⟨rfl,I⟩⟩⟩⟩⟩⟩⟩⟩⟩⟩⟩⟩⟩,⟨⟨rfl,⟨rfl,⟨rfl,⟨rfl,⟨rfl,⟨rfl,⟨rfl,⟨rfl,⟨rfl,I⟩⟩⟩⟩⟩⟩⟩⟩⟩,⟨⟨rfl,⟨rfl,⟨rfl,⟨rfl,⟨rfl,⟨rfl,⟨rfl,⟨rfl,⟨rfl,⟨rfl,⟨rfl,⟨rfl,⟨rfl,I⟩⟩⟩⟩⟩⟩⟩⟩⟩⟩⟩⟩⟩,I⟩⟩⟩⟩,I⟩ (by simp) ?_
    rintro n ⟨hn,hc⟩
    by_cases hn2:n < b.owed.length
    ·obtain ⟨o,ho⟩:=some_at hn2
     by_cases hw:o.worker = m.frm
     ·by_cases hl:o.lease = m.lease
      ·rw [res3_no (fun q=>owed_hit ho ⟨hw,hl⟩ q.new)]
       conv=>whnf
       refine W.sq ?_
       refine g 99 103 [] ?_
       conv=>whnf
       refine ⟨⟨I,I,I,I,I,I⟩,?_⟩
       refine W.cn ?_
       conv=>whnf
       refine ⟨fun _=>?_,noF (by simp [*])⟩
       refine W.skip ?_
       refine W.sq ?_
       refine W.blk ?_
       refine gd 103 125 [[],[],[],[.n (n)],[],[.x (owedT o)],[],[],[],[],[.b (true)],[.b (true)],[.b (true)],[.b (true),.n (n)],[.b (true)],[.b (true),.x (owedT o)],[.b (true)],[.b (true)],[.b (true)],[.b (true)]] ?_
       conv=>whnf
       refine ⟨⟨I,I,I,⟨rfl,(by simp only [lens]; omega)⟩,I,ixl (by assumption),I,I,I,I,⟨dT (by omega),I⟩,⟨dT (by omega),I⟩,⟨dT (by omega),I⟩,⟨dT (by omega),rfl,(by simp only [lens]; omega)⟩,⟨dT (by omega),I⟩,⟨dT (by omega),ixl (by assumption)⟩,⟨dT (by omega),I⟩,⟨dT (by omega),I⟩,⟨dT (by omega),I⟩,dT (by omega),I⟩,by kernel_rfl,?_⟩
       refine W.cn ?_
       conv=>whnf
       refine ⟨fun _=>?_,noF (dT (by omega))⟩
       refine g 125 127 [] ?_
       conv=>whnf
       refine ⟨⟨I,⟨I,I,I,I,I,I,I,I,I,I,I,I,I⟩,I⟩,?_⟩
       refine W.ret ?_
       refine EndsW.rt ?_
       conv=>whnf
       refine ⟨⟨I,I,I,I,I,I,I,I,I,I,I,I,I,I⟩,?_,rfl⟩
       rfl
       all_goals (simp only [putB,bossO,cellsOf,List.map_set,List.map_append,List.map_cons,List.map_nil]; rfl)
      ·conv=>whnf
       refine W.sq ?_
       refine g 99 103 [] ?_
       conv=>whnf
       refine ⟨⟨I,I,I,I,I,I⟩,?_⟩
       refine W.cn ?_
       conv=>whnf
       refine ⟨fun _=>?_,noF (by simp [*])⟩
       refine W.skip ?_
       refine W.sq ?_
       refine W.blk ?_
       refine gd 103 125 [[],[],[],[.n (n)],[],[.x (owedT o)],[],[],[],[],[.b (true)],[.b (true)],[.b (true)],[.b (true),.n (n)],[.b (true)],[.b (true),.x (owedT o)],[.b (true)],[.b (true)],[.b (true)],[.b (true)]] ?_
       conv=>whnf
       refine ⟨⟨I,I,I,⟨rfl,(by simp only [lens]; omega)⟩,I,ixl (by assumption),I,I,I,I,⟨dT (by omega),I⟩,⟨dT (by omega),I⟩,⟨dT (by omega),I⟩,⟨dT (by omega),rfl,(by simp only [lens]; omega)⟩,⟨dT (by omega),I⟩,⟨dT (by omega),ixl (by assumption)⟩,⟨dT (by omega),I⟩,⟨dT (by omega),I⟩,⟨dT (by omega),I⟩,dT (by omega),I⟩,by kernel_rfl,?_⟩
       refine W.cn ?_
       conv=>whnf
       refine ⟨noT (dF (by omega)),fun _=>?_⟩
       refine W.skip ?_
       refine rg [.i ((↑n:Int) + (1:Int))] ?_
       conv=>whnf
       refine ⟨⟨I,w64 (by omega) (by omega),I,I⟩,?_⟩
       refine ⟨n + 1,[some 140,some 3,some 5,some 6],[],⟨rfl,⟨⟨_,rfl,_,_,rfl,rfl,_,_,rfl,rfl,_,_,rfl,rfl,_,_,rfl,rfl,_,_,rfl,rfl,_,_,rfl,rfl,_,_,rfl,rfl,_,_,rfl,rfl,_,_,rfl,rfl,_,_,rfl,rfl,_,_,rfl,rfl,_,_,rfl,rfl,rfl⟩,⟨_,rfl,_,_,rfl,rfl,rfl⟩,⟨_,rfl,_,_,rfl,rfl,_,_,rfl,rfl,_,_,rfl,rfl,_,_,rfl,rfl,_,_,rfl,rfl,_,_,rfl,rfl,_,_,rfl,rfl,_,_,rfl,rfl,rfl⟩,rfl,rfl,rfl,rfl,rfl,I⟩,⟨⟨rfl,⟨rfl,⟨rfl,⟨rfl,⟨rfl,⟨rfl,⟨rfl,⟨I,⟨I,⟨I,⟨I,⟨I,⟨I,I⟩⟩⟩⟩⟩⟩⟩⟩⟩⟩⟩⟩⟩,⟨⟨rfl,⟨rfl,⟨rfl,⟨rfl,⟨rfl,⟨rfl,⟨rfl,⟨rfl,⟨rfl,⟨rfl,⟨rfl,⟨rfl,⟨rfl,I⟩⟩⟩⟩⟩⟩⟩⟩⟩⟩⟩⟩⟩,⟨⟨rfl,⟨rfl,⟨rfl,⟨rfl,⟨rfl,⟨rfl,⟨rfl,⟨rfl,⟨rfl,I⟩⟩⟩⟩⟩⟩⟩⟩⟩,⟨⟨rfl,⟨rfl,⟨rfl,⟨rfl,⟨rfl,⟨rfl,⟨rfl,⟨rfl,⟨rfl,⟨rfl,⟨rfl,⟨rfl,⟨rfl,I⟩⟩⟩⟩⟩⟩⟩⟩⟩⟩⟩⟩⟩,I⟩⟩⟩⟩,I⟩,?_,?_⟩
       rotate_left 1
       (dsimp only; omega)
       dsimp only
       exact ⟨by omega,mem_step hc ho fun q=>hl q.2⟩
     ·conv=>whnf
      refine W.sq ?_
      refine g 99 103 [] ?_
      conv=>whnf
      refine ⟨⟨I,I,I,I,I,I⟩,?_⟩
      refine W.cn ?_
      conv=>whnf
      refine ⟨fun _=>?_,noF (by simp [*])⟩
      refine W.skip ?_
      refine W.sq ?_
      refine W.blk ?_
      refine gd 103 125 [[],[],[],[.n (n)],[],[.x (owedT o)],[],[],[],[],[.b (false)],[.b (false)],[.b (false)],[.b (false)],[.b (false)],[.b (false)],[.b (false)],[.b (false)],[.b (false)],[.b (false)]] ?_
      conv=>whnf
      refine ⟨⟨I,I,I,⟨rfl,(by simp only [lens]; omega)⟩,I,ixl (by assumption),I,I,I,I,dF (by omega),dF (by omega),dF (by omega),dF (by omega),dF (by omega),dF (by omega),dF (by omega),dF (by omega),dF (by omega),dF (by omega),I⟩,by kernel_rfl,?_⟩
      refine W.cn ?_
      conv=>whnf
      refine ⟨noT (rfl),fun _=>?_⟩
      refine W.skip ?_
      refine rg [.i ((↑n:Int) + (1:Int))] ?_
      conv=>whnf
      refine ⟨⟨I,w64 (by omega) (by omega),I,I⟩,?_⟩
      refine ⟨n + 1,[some 140,some 3,some 5,some 6],[],⟨rfl,⟨⟨_,rfl,_,_,rfl,rfl,_,_,rfl,rfl,_,_,rfl,rfl,_,_,rfl,rfl,_,_,rfl,rfl,_,_,rfl,rfl,_,_,rfl,rfl,_,_,rfl,rfl,_,_,rfl,rfl,_,_,rfl,rfl,_,_,rfl,rfl,_,_,rfl,rfl,rfl⟩,⟨_,rfl,_,_,rfl,rfl,rfl⟩,⟨_,rfl,_,_,rfl,rfl,_,_,rfl,rfl,_,_,rfl,rfl,_,_,rfl,rfl,_,_,rfl,rfl,_,_,rfl,rfl,_,_,rfl,rfl,_,_,rfl,rfl,rfl⟩,rfl,rfl,rfl,rfl,rfl,I⟩,⟨⟨rfl,⟨rfl,⟨rfl,⟨rfl,⟨rfl,⟨rfl,⟨rfl,⟨I,⟨I,⟨I,⟨I,⟨I,⟨I,I⟩⟩⟩⟩⟩⟩⟩⟩⟩⟩⟩⟩⟩,⟨⟨rfl,⟨rfl,⟨rfl,⟨rfl,⟨rfl,⟨rfl,⟨rfl,⟨rfl,⟨rfl,⟨rfl,⟨rfl,⟨rfl,⟨rfl,I⟩⟩⟩⟩⟩⟩⟩⟩⟩⟩⟩⟩⟩,⟨⟨rfl,⟨rfl,⟨rfl,⟨rfl,⟨rfl,⟨rfl,⟨rfl,⟨rfl,⟨rfl,I⟩⟩⟩⟩⟩⟩⟩⟩⟩,⟨⟨rfl,⟨rfl,⟨rfl,⟨rfl,⟨rfl,⟨rfl,⟨rfl,⟨rfl,⟨rfl,⟨rfl,⟨rfl,⟨rfl,⟨rfl,I⟩⟩⟩⟩⟩⟩⟩⟩⟩⟩⟩⟩⟩,I⟩⟩⟩⟩,I⟩,?_,?_⟩
      rotate_left 1
      (dsimp only; omega)
      dsimp only
      exact ⟨by omega,mem_step hc ho fun q=>hw q.1⟩
    ·rw [take_all (by omega)] at hc
     rw [res3_yes ⟨by rw [hya]; exact hs,hO,hc⟩]
     conv=>whnf
     refine W.sq ?_
     refine g 99 103 [] ?_
     conv=>whnf
     refine ⟨⟨I,I,I,I,I,I⟩,?_⟩
     refine W.cn ?_
     conv=>whnf
     refine ⟨noT (by simp [*]),fun _=>?_⟩
     refine W.exit ?_
     refine g 7 139 [] ?_
     conv=>whnf
     refine ⟨⟨I,I,I,I,I,I,I,I,I,⟨⟨I,I,I,I⟩,I⟩,⟨I,I,(by simp only [lens]; omega)⟩,I,⟨I,I⟩,I⟩,?_⟩
     refine g 0 6 [] ?_
     conv=>whnf
     refine ⟨⟨I,⟨I,I,I,I,I,I,I,I,I,I,I,I,I⟩,I⟩,?_⟩
     refine W.ret ?_
     refine EndsW.rt ?_
     conv=>whnf
     refine ⟨⟨I,I,I,I,I,I,I,I,I,I,I,I,I,I⟩,?_,rfl⟩
     all_goals (simp only [putB,bossO,cellsOf,List.map_set,List.map_append,List.map_cons,List.map_nil]; rfl)
   ·rw [res3_no (fun q=>hO q.room)]
    refine i_spec_l5Result ?_
    conv=>whnf
    refine g 0 0 [] ?_
    conv=>whnf
    refine ⟨⟨⟨I,I,I,I,I,I,I,I,I,I,I,I,I⟩,⟨I,I⟩,⟨I,I,I,I,I,I,I,I,I⟩,I,I⟩,?_⟩
    refine W.sq ?_
    refine g 10 13 [] ?_
    conv=>whnf
    refine ⟨⟨I,I,I,I,I,I,I⟩,?_⟩
    refine W.cn ?_
    conv=>whnf
    refine ⟨noT (by simp [*]),fun _=>?_⟩
    refine W.skip ?_
    refine W.sq ?_
    refine g 13 41 [.n (Int.toNat (Message.task m)),.x (strT y),.b (false),.b (false),.b (false),.b (false),.b (false),.b (false),.b (false),.b (false),.b (false),.b (false),.b (false),.b (false),.b (false),.b (false),.b (false),.b (false),.b (false),.b (false)] ?_
    conv=>whnf
    refine ⟨⟨I,I,I,I,⟨(by omega),(by simp only [lens]; omega)⟩,ixl (by assumption),I,I,dF (by omega),dF (by omega),dF (by omega),dF (by omega),dF (by omega),dF (by omega),dF (by omega),I,rfl,rfl,rfl,rfl,rfl,rfl,rfl,rfl,rfl,rfl,rfl,I⟩,?_⟩
    refine W.cn ?_
    conv=>whnf
    refine ⟨noT (rfl),fun _=>?_⟩
    refine W.skip ?_
    refine W.sq ?_
    refine g 41 76 [.n (Int.toNat (Message.task m)),.x (strT y)] ?_
    conv=>whnf
    refine ⟨⟨I,I,I,I,⟨(by omega),(by simp only [lens]; omega)⟩,ixl (by assumption),I,I⟩,?_⟩
    refine W.cn ?_
    conv=>whnf
    refine ⟨noT (dF (by omega)),fun _=>?_⟩
    refine W.skip ?_
    refine W.sq ?_
    refine gd 76 97 [[],[],[],[],[.n (Int.toNat (Message.task m))],[.x (strT y)],[],[],[],[],[.b (false)],[.b (false)],[.b (false)],[.b (false)],[.b (false)]] ?_
    conv=>whnf
    refine ⟨⟨I,I,I,I,⟨(by omega),(by simp only [lens]; omega)⟩,ixl (by assumption),I,I,I,I,⟨notF (by omega),I⟩,⟨notF (by omega),I⟩,⟨notF (by omega),I⟩,⟨notF (by omega),I⟩,notF (by omega),I⟩,by kernel_rfl,?_⟩
    refine W.cn ?_
    conv=>whnf
    refine ⟨fun h1=>?_,fun h1=>?_⟩
    replace h1:=dt h1
    simp only [List.length_map] at h1
    refine g 97 99 [] ?_
    conv=>whnf
    refine ⟨⟨I,⟨I,I,I,I,I,I,I,I,I,I,I,I,I⟩,I⟩,?_⟩
    refine W.ret ?_
    refine EndsW.rt ?_
    conv=>whnf
    refine ⟨⟨I,I,I,I,I,I,I,I,I,I,I,I,I,I⟩,?_,rfl⟩
    rfl
    replace h1:=df h1
    simp only [List.length_map] at h1
    omega
  ·rw [res3_no (fun q=>hs (by rw [← q.same,hya]))]
   refine i_spec_l5Result ?_
   conv=>whnf
   refine g 0 0 [] ?_
   conv=>whnf
   refine ⟨⟨⟨I,I,I,I,I,I,I,I,I,I,I,I,I⟩,⟨I,I⟩,⟨I,I,I,I,I,I,I,I,I⟩,I,I⟩,?_⟩
   refine W.sq ?_
   refine g 10 13 [] ?_
   conv=>whnf
   refine ⟨⟨I,I,I,I,I,I,I⟩,?_⟩
   refine W.cn ?_
   conv=>whnf
   refine ⟨noT (by simp [*]),fun _=>?_⟩
   refine W.skip ?_
   refine W.sq ?_
   refine g 13 41 [.n (Int.toNat (Message.task m)),.x (strT y),.b (false),.b (false),.b (false),.b (false),.b (false),.b (false),.b (false),.b (false),.b (false),.b (false),.b (false),.b (false),.b (false),.b (false),.b (false),.b (false),.b (false),.b (false)] ?_
   conv=>whnf
   refine ⟨⟨I,I,I,I,⟨(by omega),(by simp only [lens]; omega)⟩,ixl (by assumption),I,I,dF (by omega),dF (by omega),dF (by omega),dF (by omega),dF (by omega),dF (by omega),dF (by omega),I,rfl,rfl,rfl,rfl,rfl,rfl,rfl,rfl,rfl,rfl,rfl,I⟩,?_⟩
   refine W.cn ?_
   conv=>whnf
   refine ⟨noT (rfl),fun _=>?_⟩
   refine W.skip ?_
   refine W.sq ?_
   refine g 41 76 [.n (Int.toNat (Message.task m)),.x (strT y)] ?_
   conv=>whnf
   refine ⟨⟨I,I,I,I,⟨(by omega),(by simp only [lens]; omega)⟩,ixl (by assumption),I,I⟩,?_⟩
   refine W.cn ?_
   conv=>whnf
   refine ⟨noT (dF (by omega)),fun _=>?_⟩
   refine W.skip ?_
   refine W.sq ?_
   refine gd 76 97 [[],[],[],[],[.n (Int.toNat (Message.task m))],[.x (strT y)],[],[],[],[],[.b (true)],[.b (true)],[.b (true)],[.b (true)],[.b (true)]] ?_
   conv=>whnf
   refine ⟨⟨I,I,I,I,⟨(by omega),(by simp only [lens]; omega)⟩,ixl (by assumption),I,I,I,I,notT (by omega),notT (by omega),notT (by omega),notT (by omega),notT (by omega),I⟩,by kernel_rfl,?_⟩
   refine W.cn ?_
   conv=>whnf
   refine ⟨fun _=>?_,noF (rfl)⟩
   refine g 97 99 [] ?_
   conv=>whnf
   refine ⟨⟨I,⟨I,I,I,I,I,I,I,I,I,I,I,I,I⟩,I⟩,?_⟩
   refine W.ret ?_
   refine EndsW.rt ?_
   conv=>whnf
   refine ⟨⟨I,I,I,I,I,I,I,I,I,I,I,I,I,I⟩,?_,rfl⟩
   rfl
end Go.K
end
section
set_option linter.unusedVariables false
set_option linter.unusedSimpArgs false
set_option maxHeartbeats 8000000
set_option maxRecDepth 20000
open Go Go.Tm Go.Proofs
namespace Go.K
theorem c_spec_BossTake (b:Boss) (p:Plan) (m:Message) (hp:planWf p) (h:BossLim b) (hm:m.inputs.length ≤ 9223372036854775806):F n_spec_BossTake [.val (bossR b),.val (planR p),.val (messageR m)] (ledO (bTake b p m)) [[],[],[]]:=by
 have cv:=cs_valid b p hp h
 by_cases hv:BossOk b p
 ·rw [decide_eq_true hv] at cv
  rw [btake_ok hv]
  have ct:=cs_copy b h
  have cm:=c_spec_l2Ok m hm
  by_cases hf:ForB b m
  ·obtain ⟨u1,u2,u3,u4,u5,u6,⟨u7,u8⟩,⟨u9,u10⟩,u11,u12,u13,u14⟩:=hv.up hf.up
   obtain ⟨hkd,⟨f1,f2⟩,⟨e1,e2⟩⟩:=for_kind hf
   have hnow:=hv.now
   have hwk:=hv.workers
   have hpl:=(chk_inv hv.plan).1
   obtain ⟨g1,g2,g3,g4⟩:=hf
   have hf:ForB b m:=⟨g1,g2,g3,g4⟩
   rw [decide_eq_true g2] at cm
   have hsi:seatI m < b.seats.length:=by unfold seatI; omega
   obtain ⟨x,hx⟩:=some_at hsi
   rcases hkd with hk | hk | hk
   ·rw [take_beat hf hk]
    refine i_spec_BossTake ?_
    conv=>whnf
    refine g 2 3 [] ?_
    conv=>whnf
    refine ⟨⟨⟨I,I,I,I,I,I,I,I,I,I,I,I,I⟩,⟨I,I⟩,⟨I,I,I,I,I,I,I,I,I⟩,I,I⟩,?_⟩
    refine W.sq ?_
    refine g 12 13 [.call (V.b true) ([[],[]])] ?_
    conv=>whnf
    refine ⟨⟨I,I,⟨⟨I,I,I⟩,I,⟨⟨I,I,I,I,I,I,I,I,I,I,I,I,I⟩,⟨I,I⟩,I⟩,⟨I,I⟩,(by assumption)⟩,I,I⟩,?_⟩
    refine W.cn ?_
    conv=>whnf
    refine ⟨noT (rfl),fun _=>?_⟩
    refine W.skip ?_
    refine g 14 19 [.call (bossO b) ([[]])] ?_
    conv=>whnf
    refine ⟨⟨I,⟨⟨I,I⟩,I,⟨⟨I,I,I,I,I,I,I,I,I,I,I,I,I⟩,I⟩,⟨I,I⟩,(by assumption)⟩,I,⟨I,I,I,I,I,I,I,I,I,I,I,I,I⟩,I⟩,?_⟩
    refine W.sq ?_
    refine g 13 38 [.b (false),.b (false),.call (V.b true) ([[]]),.b (false),.b (false),.b (false),.b (false),.b (false),.b (false),.b (false),.b (false),.b (false),.b (false),.b (false),.b (false)] ?_
    conv=>whnf
    refine ⟨⟨I,I,I,I,⟨nbF (by assumption),I⟩,⟨nbF (by assumption),⟨I,I⟩,I,⟨⟨I,I,I,I,I,I,I,I,I⟩,I⟩,⟨I,I⟩,(by assumption)⟩,⟨nbF (by assumption),I⟩,nbF (by assumption),I,⟨rfl,I⟩,⟨rfl,I⟩,⟨rfl,I⟩,rfl,I,⟨notF (by omega),I⟩,⟨notF (by omega),I⟩,⟨notF (by omega),I⟩,⟨notF (by omega),I⟩,⟨notF (by omega),I⟩,notF (by omega),I⟩,?_⟩
    refine W.cn ?_
    conv=>whnf
    refine ⟨noT (dF (by omega)),fun _=>?_⟩
    refine W.skip ?_
    refine W.sq ?_
    refine g 38 42 [] ?_
    conv=>whnf
    refine ⟨⟨I,I,I⟩,?_⟩
    refine W.blk ?_
    refine g 3 4 [] ?_
    conv=>whnf
    refine ⟨⟨I,I,I⟩,?_⟩
    refine W.cn ?_
    conv=>whnf
    refine ⟨noT (dF (by omega)),fun _=>?_⟩
    refine g 43 45 [] ?_
    conv=>whnf
    refine ⟨⟨I,I,I⟩,?_⟩
    refine W.cn ?_
    conv=>whnf
    refine ⟨fun _=>?_,noF (dT (by omega))⟩
    refine g 42 78 [] ?_
    conv=>whnf
    refine ⟨⟨I,I⟩,?_⟩
    refine W.blk ?_
    refine W.lp (fun s (n:Nat)=>⟨[(0,s.s 0),(5,s.s 5),(6,s.s 6),(7,s.s 7),(11,.i n)],[(5,[s.c 5 0,s.c 5 1,s.c 5 2,s.c 5 3,s.c 5 4,s.c 5 5,s.c 5 6,s.c 5 7]),(6,[s.c 6 0,s.c 6 1,s.c 6 2,s.c 6 3,s.c 6 4,s.c 6 5,s.c 6 6,s.c 6 7,s.c 6 8,s.c 6 9,s.c 6 10,s.c 6 11,s.c 6 12]),(7,[.t (.i b.workers),.t (.b b.up),.t (.i b.now),.t (.i b.since),.t (.i b.epoch),.t (.i b.given),.own [false] (b.log.safe.map strT),.own [false] (b.log.loose.map strT),.own [false] (b.results.map strT),.own jobK ((mapN (beatJ m.lease (b.now + 12)) b.jobs n).map jobT),.own seatK (b.seats.map seatT),.own owedK (b.owed.map owedT)])],[]⟩) (fun (n:Nat)=>n ≤ b.jobs.length) (fun (n:Nat)=>b.jobs.length - n) (0) [some 5,some 6,some 7] [] ⟨rfl,⟨⟨_,rfl,_,_,rfl,rfl,_,_,rfl,rfl,_,_,rfl,rfl,_,_,rfl,rfl,_,_,rfl,rfl,_,_,rfl,rfl,_,_,rfl,rfl,_,_,rfl,rfl,_,_,rfl,rfl,_,_,rfl,rfl,_,_,rfl,rfl,_,_,rfl,rfl,rfl⟩,rfl,rfl,rfl,rfl,I⟩,⟨⟨rfl,⟨rfl,⟨rfl,⟨rfl,⟨rfl,⟨rfl,⟨rfl,⟨rfl,⟨rfl,I⟩⟩⟩⟩⟩⟩⟩⟩⟩,⟨⟨rfl,⟨rfl,⟨rfl,⟨rfl,⟨rfl,⟨rfl,⟨rfl,⟨rfl,⟨rfl,⟨rfl,⟨rfl,⟨rfl,⟨rfl,⟨rfl,I⟩⟩⟩⟩⟩⟩⟩⟩⟩⟩⟩⟩⟩⟩,⟨⟨rfl,⟨rfl,⟨rfl,⟨rfl,⟨rfl,⟨rfl,⟨rfl,⟨rfl,⟨rfl,⟨rfl,⟨rfl,⟨rfl,⟨rfl,I⟩⟩⟩⟩⟩⟩⟩⟩⟩⟩⟩⟩⟩,I⟩⟩⟩,I⟩ (by omega) ?_
    intro n hn
    have hl:=mapN_len (beatJ m.lease (b.now + 12)) b.jobs n
    by_cases hj:n < b.jobs.length
    ·obtain ⟨j,hj1⟩:=some_at hj
     by_cases hd:j.lease = m.lease
     ·have e:=beat_yes (u:=b.now + 12) hj1 hd
      conv=>whnf
      refine W.sq ?_
      refine g 78 82 [] ?_
      conv=>whnf
      refine ⟨⟨I,I,I,I,I,I⟩,?_⟩
      refine W.cn ?_
      conv=>whnf
      refine ⟨fun _=>?_,noF (by simp_all)⟩
      refine W.skip ?_
      refine W.sq ?_
      refine W.blk ?_
      refine gd 82 93 [[],[],[],[.n (n)],[],[.x (jobT j)],[],[],[]] ?_
      conv=>whnf
      refine ⟨⟨I,I,I,⟨rfl,(by simp only [lens]; omega)⟩,I,mapN_getm (by assumption),I,I,I,I⟩,by kernel_rfl,?_⟩
      refine W.cn ?_
      conv=>whnf
      refine ⟨fun _=>?_,noF (dT (by omega))⟩
      refine rg [.i (Boss.now b + (12:Int)),.n (n),.x (jobT j)] ?_
      conv=>whnf
      refine ⟨⟨I,I,I,I,I,w64 (by omega) (by omega),⟨rfl,(by simp only [lens]; omega)⟩,I,⟨⟨I,I⟩,mapN_getm (by assumption)⟩,I⟩,?_⟩
      refine rg [.i ((↑n:Int) + (1:Int))] ?_
      conv=>whnf
      refine ⟨⟨I,w64 (by omega) (by omega),I,I⟩,?_⟩
      refine ⟨n + 1,[some 5,some 6,some 7],[],⟨rfl,⟨⟨_,rfl,_,_,rfl,rfl,_,_,rfl,rfl,_,_,rfl,rfl,_,_,rfl,rfl,_,_,rfl,rfl,_,_,rfl,rfl,_,_,rfl,rfl,_,_,rfl,rfl,_,_,rfl,rfl,_,_,rfl,rfl,_,_,rfl,rfl,_,_,rfl,rfl,rfl⟩,rfl,rfl,rfl,rfl,I⟩,⟨⟨rfl,⟨rfl,⟨rfl,⟨rfl,⟨rfl,⟨rfl,⟨rfl,⟨rfl,⟨rfl,I⟩⟩⟩⟩⟩⟩⟩⟩⟩,⟨⟨rfl,⟨rfl,⟨rfl,⟨rfl,⟨rfl,⟨rfl,⟨rfl,⟨rfl,⟨rfl,⟨rfl,⟨rfl,⟨rfl,⟨rfl,⟨rfl,I⟩⟩⟩⟩⟩⟩⟩⟩⟩⟩⟩⟩⟩⟩,⟨⟨rfl,⟨rfl,⟨rfl,⟨rfl,⟨rfl,⟨rfl,⟨rfl,⟨rfl,⟨rfl,⟨rfl,⟨(congrArg (V.own _) (e)),⟨rfl,⟨rfl,I⟩⟩⟩⟩⟩⟩⟩⟩⟩⟩⟩⟩⟩,I⟩⟩⟩,I⟩,?_,?_⟩
      rotate_left 1
      (dsimp only; omega)
      dsimp only
      omega
     ·have e:=beat_no (u:=b.now + 12) hj1 hd
      conv=>whnf
      refine W.sq ?_
      refine g 78 82 [] ?_
      conv=>whnf
      refine ⟨⟨I,I,I,I,I,I⟩,?_⟩
      refine W.cn ?_
      conv=>whnf
      refine ⟨fun _=>?_,noF (by simp_all)⟩
      refine W.skip ?_
      refine W.sq ?_
      refine W.blk ?_
      refine gd 82 93 [[],[],[],[.n (n)],[],[.x (jobT j)],[],[],[]] ?_
      conv=>whnf
      refine ⟨⟨I,I,I,⟨rfl,(by simp only [lens]; omega)⟩,I,mapN_getm (by assumption),I,I,I,I⟩,by kernel_rfl,?_⟩
      refine W.cn ?_
      conv=>whnf
      refine ⟨noT (dF (by omega)),fun _=>?_⟩
      refine W.skip ?_
      refine rg [.i ((↑n:Int) + (1:Int))] ?_
      conv=>whnf
      refine ⟨⟨I,w64 (by omega) (by omega),I,I⟩,?_⟩
      refine ⟨n + 1,[some 5,some 6,some 7],[],⟨rfl,⟨⟨_,rfl,_,_,rfl,rfl,_,_,rfl,rfl,_,_,rfl,rfl,_,_,rfl,rfl,_,_,rfl,rfl,_,_,rfl,rfl,_,_,rfl,rfl,_,_,rfl,rfl,_,_,rfl,rfl,_,_,rfl,rfl,_,_,rfl,rfl,_,_,rfl,rfl,rfl⟩,rfl,rfl,rfl,rfl,I⟩,⟨⟨rfl,⟨rfl,⟨rfl,⟨rfl,⟨rfl,⟨rfl,⟨rfl,⟨rfl,⟨rfl,I⟩⟩⟩⟩⟩⟩⟩⟩⟩,⟨⟨rfl,⟨rfl,⟨rfl,⟨rfl,⟨rfl,⟨rfl,⟨rfl,⟨rfl,⟨rfl,⟨rfl,⟨rfl,⟨rfl,⟨rfl,⟨rfl,I⟩⟩⟩⟩⟩⟩⟩⟩⟩⟩⟩⟩⟩⟩,⟨⟨rfl,⟨rfl,⟨rfl,⟨rfl,⟨rfl,⟨rfl,⟨rfl,⟨rfl,⟨rfl,⟨rfl,⟨(congrArg (V.own _) (by rw [← e])),⟨rfl,⟨rfl,I⟩⟩⟩⟩⟩⟩⟩⟩⟩⟩⟩⟩⟩,I⟩⟩⟩,I⟩,?_,?_⟩
      rotate_left 1
      (dsimp only; omega)
      dsimp only
      omega
    ·have e:=mapN_all (beatJ m.lease (b.now + 12)) b.jobs (n:=n) (by omega)
     conv=>whnf
     refine W.sq ?_
     refine g 78 82 [] ?_
     conv=>whnf
     refine ⟨⟨I,I,I,I,I,I⟩,?_⟩
     refine W.cn ?_
     conv=>whnf
     refine ⟨noT (by simp_all),fun _=>?_⟩
     refine W.exit ?_
     refine g 7 110 [] ?_
     conv=>whnf
     refine ⟨⟨I,I,⟨I,I,I,I,I,I,I,I,I,I,I,I,I,I⟩,I⟩,?_⟩
     refine W.ret ?_
     refine EndsW.rt ?_
     conv=>whnf
     refine ⟨⟨I,I,I,I,I,I,I,I,I,I,I,I,I,I,I⟩,?_,rfl⟩
     rw [e]
     rfl
   ·by_cases ht:m.task < p.tasks.length
    ·rw [take_res hf hk ht]
     have cr:=c_spec_l5Result b p m (res_in hv h hf hk ht) f2
     refine i_spec_BossTake ?_
     conv=>whnf
     refine g 2 3 [] ?_
     conv=>whnf
     refine ⟨⟨⟨I,I,I,I,I,I,I,I,I,I,I,I,I⟩,⟨I,I⟩,⟨I,I,I,I,I,I,I,I,I⟩,I,I⟩,?_⟩
     refine W.sq ?_
     refine g 12 13 [.call (V.b true) ([[],[]])] ?_
     conv=>whnf
     refine ⟨⟨I,I,⟨⟨I,I,I⟩,I,⟨⟨I,I,I,I,I,I,I,I,I,I,I,I,I⟩,⟨I,I⟩,I⟩,⟨I,I⟩,(by assumption)⟩,I,I⟩,?_⟩
     refine W.cn ?_
     conv=>whnf
     refine ⟨noT (rfl),fun _=>?_⟩
     refine W.skip ?_
     refine g 14 19 [.call (bossO b) ([[]])] ?_
     conv=>whnf
     refine ⟨⟨I,⟨⟨I,I⟩,I,⟨⟨I,I,I,I,I,I,I,I,I,I,I,I,I⟩,I⟩,⟨I,I⟩,(by assumption)⟩,I,⟨I,I,I,I,I,I,I,I,I,I,I,I,I⟩,I⟩,?_⟩
     refine W.sq ?_
     refine g 13 38 [.b (false),.b (false),.call (V.b true) ([[]]),.b (false),.b (false),.b (false),.b (false),.b (false),.b (false),.b (false),.b (false),.b (false),.b (false),.b (false),.b (false)] ?_
     conv=>whnf
     refine ⟨⟨I,I,I,I,⟨nbF (by assumption),I⟩,⟨nbF (by assumption),⟨I,I⟩,I,⟨⟨I,I,I,I,I,I,I,I,I⟩,I⟩,⟨I,I⟩,(by assumption)⟩,⟨nbF (by assumption),I⟩,nbF (by assumption),I,⟨rfl,I⟩,⟨rfl,I⟩,⟨rfl,I⟩,rfl,I,⟨notF (by omega),I⟩,⟨notF (by omega),I⟩,⟨notF (by omega),I⟩,⟨notF (by omega),I⟩,⟨notF (by omega),I⟩,notF (by omega),I⟩,?_⟩
     refine W.cn ?_
     conv=>whnf
     refine ⟨noT (dF (by omega)),fun _=>?_⟩
     refine W.skip ?_
     refine W.sq ?_
     refine g 38 42 [] ?_
     conv=>whnf
     refine ⟨⟨I,I,I⟩,?_⟩
     refine W.blk ?_
     refine g 3 4 [] ?_
     conv=>whnf
     refine ⟨⟨I,I,I⟩,?_⟩
     refine W.cn ?_
     conv=>whnf
     refine ⟨noT (dF (by omega)),fun _=>?_⟩
     refine g 43 45 [] ?_
     conv=>whnf
     refine ⟨⟨I,I,I⟩,?_⟩
     refine W.cn ?_
     conv=>whnf
     refine ⟨noT (dF (by omega)),fun _=>?_⟩
     refine g 42 78 [] ?_
     conv=>whnf
     refine ⟨⟨I,I,I⟩,?_⟩
     refine W.cn ?_
     conv=>whnf
     refine ⟨fun _=>?_,noF (dT (by omega))⟩
     refine rg [.call (bossO (resultB b (Plan.tasks p) m)) ([[],[],[]])] ?_
     conv=>whnf
     refine ⟨⟨I,I,I,⟨⟨⟨I,I,I,I,I,I,I,I,I,I,I,I,I⟩,I,I,I⟩,I,⟨I,⟨I,I⟩,⟨I,I,I,I,I,I,I,I,I⟩,I⟩,⟨I,I⟩,(by assumption)⟩,⟨I,I,I,I,I,I,I,I,I,I,I,I,I⟩,I⟩,?_⟩
     refine g 7 110 [] ?_
     conv=>whnf
     refine ⟨⟨I,I,⟨I,I,I,I,I,I,I,I,I,I,I,I,I,I⟩,I⟩,?_⟩
     refine W.ret ?_
     refine EndsW.rt ?_
     conv=>whnf
     refine ⟨⟨I,I,I,I,I,I,I,I,I,I,I,I,I,I,I⟩,?_,rfl⟩
     rfl
    ·rw [take_out hf hk ht]
     have cr:=c_l5Result_out b p m (by omega) ht
     refine i_spec_BossTake ?_
     conv=>whnf
     refine g 2 3 [] ?_
     conv=>whnf
     refine ⟨⟨⟨I,I,I,I,I,I,I,I,I,I,I,I,I⟩,⟨I,I⟩,⟨I,I,I,I,I,I,I,I,I⟩,I,I⟩,?_⟩
     refine W.sq ?_
     refine g 12 13 [.call (V.b true) ([[],[]])] ?_
     conv=>whnf
     refine ⟨⟨I,I,⟨⟨I,I,I⟩,I,⟨⟨I,I,I,I,I,I,I,I,I,I,I,I,I⟩,⟨I,I⟩,I⟩,⟨I,I⟩,(by assumption)⟩,I,I⟩,?_⟩
     refine W.cn ?_
     conv=>whnf
     refine ⟨noT (rfl),fun _=>?_⟩
     refine W.skip ?_
     refine g 14 19 [.call (bossO b) ([[]])] ?_
     conv=>whnf
     refine ⟨⟨I,⟨⟨I,I⟩,I,⟨⟨I,I,I,I,I,I,I,I,I,I,I,I,I⟩,I⟩,⟨I,I⟩,(by assumption)⟩,I,⟨I,I,I,I,I,I,I,I,I,I,I,I,I⟩,I⟩,?_⟩
     refine W.sq ?_
     refine g 13 38 [.b (false),.b (false),.call (V.b true) ([[]]),.b (false),.b (false),.b (false),.b (false),.b (false),.b (false),.b (false),.b (false),.b (false),.b (false),.b (false),.b (false)] ?_
     conv=>whnf
     refine ⟨⟨I,I,I,I,⟨nbF (by assumption),I⟩,⟨nbF (by assumption),⟨I,I⟩,I,⟨⟨I,I,I,I,I,I,I,I,I⟩,I⟩,⟨I,I⟩,(by assumption)⟩,⟨nbF (by assumption),I⟩,nbF (by assumption),I,⟨rfl,I⟩,⟨rfl,I⟩,⟨rfl,I⟩,rfl,I,⟨notF (by omega),I⟩,⟨notF (by omega),I⟩,⟨notF (by omega),I⟩,⟨notF (by omega),I⟩,⟨notF (by omega),I⟩,notF (by omega),I⟩,?_⟩
     refine W.cn ?_
     conv=>whnf
     refine ⟨noT (dF (by omega)),fun _=>?_⟩
     refine W.skip ?_
     refine W.sq ?_
     refine g 38 42 [] ?_
     conv=>whnf
     refine ⟨⟨I,I,I⟩,?_⟩
     refine W.blk ?_
     refine g 3 4 [] ?_
     conv=>whnf
     refine ⟨⟨I,I,I⟩,?_⟩
     refine W.cn ?_
     conv=>whnf
     refine ⟨noT (dF (by omega)),fun _=>?_⟩
     refine g 43 45 [] ?_
     conv=>whnf
     refine ⟨⟨I,I,I⟩,?_⟩
     refine W.cn ?_
     conv=>whnf
     refine ⟨noT (dF (by omega)),fun _=>?_⟩
     refine g 42 78 [] ?_
     conv=>whnf
     refine ⟨⟨I,I,I⟩,?_⟩
     refine W.cn ?_
     conv=>whnf
     refine ⟨fun _=>?_,noF (dT (by omega))⟩
     refine rg [.call (bossO b) ([[],[],[]])] ?_
     conv=>whnf
     refine ⟨⟨I,I,I,⟨⟨⟨I,I,I,I,I,I,I,I,I,I,I,I,I⟩,I,I,I⟩,I,⟨I,⟨I,I⟩,⟨I,I,I,I,I,I,I,I,I⟩,I⟩,⟨I,I⟩,(by assumption)⟩,⟨I,I,I,I,I,I,I,I,I,I,I,I,I⟩,I⟩,?_⟩
     refine g 7 110 [] ?_
     conv=>whnf
     refine ⟨⟨I,I,⟨I,I,I,I,I,I,I,I,I,I,I,I,I,I⟩,I⟩,?_⟩
     refine W.ret ?_
     refine EndsW.rt ?_
     conv=>whnf
     refine ⟨⟨I,I,I,I,I,I,I,I,I,I,I,I,I,I,I⟩,?_,rfl⟩
     rfl
   ·rw [take_here hf hk]
    by_cases ho:oldM b m
    ·rw [here_old ho]
     have cfr:=c_l5Free_old b m hx ⟨f1,f2⟩ ho
     refine i_spec_BossTake ?_
     conv=>whnf
     refine g 2 3 [] ?_
     conv=>whnf
     refine ⟨⟨⟨I,I,I,I,I,I,I,I,I,I,I,I,I⟩,⟨I,I⟩,⟨I,I,I,I,I,I,I,I,I⟩,I,I⟩,?_⟩
     refine W.sq ?_
     refine g 12 13 [.call (V.b true) ([[],[]])] ?_
     conv=>whnf
     refine ⟨⟨I,I,⟨⟨I,I,I⟩,I,⟨⟨I,I,I,I,I,I,I,I,I,I,I,I,I⟩,⟨I,I⟩,I⟩,⟨I,I⟩,(by assumption)⟩,I,I⟩,?_⟩
     refine W.cn ?_
     conv=>whnf
     refine ⟨noT (rfl),fun _=>?_⟩
     refine W.skip ?_
     refine g 14 19 [.call (bossO b) ([[]])] ?_
     conv=>whnf
     refine ⟨⟨I,⟨⟨I,I⟩,I,⟨⟨I,I,I,I,I,I,I,I,I,I,I,I,I⟩,I⟩,⟨I,I⟩,(by assumption)⟩,I,⟨I,I,I,I,I,I,I,I,I,I,I,I,I⟩,I⟩,?_⟩
     refine W.sq ?_
     refine g 13 38 [.b (false),.b (false),.call (V.b true) ([[]]),.b (false),.b (false),.b (false),.b (false),.b (false),.b (false),.b (false),.b (false),.b (false),.b (false),.b (false),.b (false)] ?_
     conv=>whnf
     refine ⟨⟨I,I,I,I,⟨nbF (by assumption),I⟩,⟨nbF (by assumption),⟨I,I⟩,I,⟨⟨I,I,I,I,I,I,I,I,I⟩,I⟩,⟨I,I⟩,(by assumption)⟩,⟨nbF (by assumption),I⟩,nbF (by assumption),I,⟨rfl,I⟩,⟨rfl,I⟩,⟨rfl,I⟩,rfl,I,⟨notF (by omega),I⟩,⟨notF (by omega),I⟩,⟨notF (by omega),I⟩,⟨notF (by omega),I⟩,⟨notF (by omega),I⟩,notF (by omega),I⟩,?_⟩
     refine W.cn ?_
     conv=>whnf
     refine ⟨noT (dF (by omega)),fun _=>?_⟩
     refine W.skip ?_
     refine W.sq ?_
     refine g 38 42 [] ?_
     conv=>whnf
     refine ⟨⟨I,I,I⟩,?_⟩
     refine W.blk ?_
     refine g 3 4 [] ?_
     conv=>whnf
     refine ⟨⟨I,I,I⟩,?_⟩
     refine W.cn ?_
     conv=>whnf
     refine ⟨fun _=>?_,noF (dT (by omega))⟩
     refine g 42 46 [.call (V.tup [bossO b,V.b false]) ([[],[]])] ?_
     conv=>whnf
     refine ⟨⟨I,I,⟨⟨⟨I,I,I,I,I,I,I,I,I,I,I,I,I⟩,I,I⟩,I,⟨I,⟨I,I,I,I,I,I,I,I,I⟩,I⟩,⟨I,I⟩,(by assumption)⟩,I,I,I,I,⟨I,I,I,I,I,I,I,I,I,I,I,I,I⟩,I,I⟩,?_⟩
     refine g 47 52 [] ?_
     conv=>whnf
     refine ⟨⟨I,⟨I,I,I,I,I,I,I,I,I,I,I,I,I⟩,I⟩,?_⟩
     refine g 4 5 [] ?_
     conv=>whnf
     refine ⟨⟨I,I⟩,?_⟩
     refine W.blk ?_
     refine W.lp (fun s (n:Nat)=>⟨[(0,s.s 0),(1,s.s 1),(5,s.s 5),(6,s.s 6),(7,s.s 7),(9,s.s 9),(10,.i n),(46,s.s 46)],[(5,[s.c 5 0,s.c 5 1,s.c 5 2,s.c 5 3,s.c 5 4,s.c 5 5,s.c 5 6,s.c 5 7]),(6,[s.c 6 0,s.c 6 1,s.c 6 2,s.c 6 3,s.c 6 4,s.c 6 5,s.c 6 6,s.c 6 7,s.c 6 8,s.c 6 9,s.c 6 10,s.c 6 11,s.c 6 12]),(7,[s.c 7 0,s.c 7 1,s.c 7 2,s.c 7 3,s.c 7 4,s.c 7 5,s.c 7 6,s.c 7 7,s.c 7 8,s.c 7 9,s.c 7 10,s.c 7 11])],[]⟩) (fun (n:Nat)=>n = 0) (fun (n:Nat)=>0) (0) [some 5,some 6,some 7] [] ⟨rfl,⟨⟨_,rfl,_,_,rfl,rfl,_,_,rfl,rfl,_,_,rfl,rfl,_,_,rfl,rfl,_,_,rfl,rfl,_,_,rfl,rfl,_,_,rfl,rfl,_,_,rfl,rfl,_,_,rfl,rfl,_,_,rfl,rfl,_,_,rfl,rfl,_,_,rfl,rfl,rfl⟩,⟨_,rfl,_,_,rfl,rfl,rfl⟩,rfl,rfl,rfl,rfl,rfl,⟨_,rfl,_,_,rfl,rfl,_,_,rfl,rfl,_,_,rfl,rfl,_,_,rfl,rfl,_,_,rfl,rfl,_,_,rfl,rfl,_,_,rfl,I,_,_,rfl,I,_,_,rfl,I,_,_,rfl,I,_,_,rfl,I,_,_,rfl,I,rfl⟩,I⟩,⟨⟨rfl,⟨rfl,⟨rfl,⟨rfl,⟨rfl,⟨rfl,⟨rfl,⟨rfl,⟨rfl,I⟩⟩⟩⟩⟩⟩⟩⟩⟩,⟨⟨rfl,⟨rfl,⟨rfl,⟨rfl,⟨rfl,⟨rfl,⟨rfl,⟨rfl,⟨rfl,⟨rfl,⟨rfl,⟨rfl,⟨rfl,⟨rfl,I⟩⟩⟩⟩⟩⟩⟩⟩⟩⟩⟩⟩⟩⟩,⟨⟨rfl,⟨rfl,⟨rfl,⟨rfl,⟨rfl,⟨rfl,⟨rfl,⟨rfl,⟨rfl,⟨rfl,⟨rfl,⟨rfl,⟨rfl,I⟩⟩⟩⟩⟩⟩⟩⟩⟩⟩⟩⟩⟩,I⟩⟩⟩,I⟩ (by omega) ?_
     intro n hn
     conv=>whnf
     refine W.sq ?_
     refine g 52 59 [.b (false),.b (false),.b (false),.b (false),.b (false),.b (false)] ?_
     conv=>whnf
     refine ⟨⟨I,I,rfl,rfl,rfl,rfl,rfl,rfl,I⟩,?_⟩
     refine W.cn ?_
     conv=>whnf
     refine ⟨noT (rfl),fun _=>?_⟩
     refine W.exit ?_
     refine g 0 6 [] ?_
     conv=>whnf
     refine ⟨⟨I,I,⟨I,I,I,I,I,I,I,I,I,I,I,I,I,I⟩,I⟩,?_⟩
     refine W.ret ?_
     refine EndsW.rt ?_
     conv=>whnf
     refine ⟨⟨I,I,I,I,I,I,I,I,I,I,I,I,I,I,I⟩,?_,rfl⟩
     rfl
    ·rw [here_new ho]
     have cfr:=c_l5Free_new b m hx ⟨f1,f2⟩ ho
     rw [free_new ho] at cfr
     refine i_spec_BossTake ?_
     conv=>whnf
     refine g 2 3 [] ?_
     conv=>whnf
     refine ⟨⟨⟨I,I,I,I,I,I,I,I,I,I,I,I,I⟩,⟨I,I⟩,⟨I,I,I,I,I,I,I,I,I⟩,I,I⟩,?_⟩
     refine W.sq ?_
     refine g 12 13 [.call (V.b true) ([[],[]])] ?_
     conv=>whnf
     refine ⟨⟨I,I,⟨⟨I,I,I⟩,I,⟨⟨I,I,I,I,I,I,I,I,I,I,I,I,I⟩,⟨I,I⟩,I⟩,⟨I,I⟩,(by assumption)⟩,I,I⟩,?_⟩
     refine W.cn ?_
     conv=>whnf
     refine ⟨noT (rfl),fun _=>?_⟩
     refine W.skip ?_
     refine g 14 19 [.call (bossO b) ([[]])] ?_
     conv=>whnf
     refine ⟨⟨I,⟨⟨I,I⟩,I,⟨⟨I,I,I,I,I,I,I,I,I,I,I,I,I⟩,I⟩,⟨I,I⟩,(by assumption)⟩,I,⟨I,I,I,I,I,I,I,I,I,I,I,I,I⟩,I⟩,?_⟩
     refine W.sq ?_
     refine g 13 38 [.b (false),.b (false),.call (V.b true) ([[]]),.b (false),.b (false),.b (false),.b (false),.b (false),.b (false),.b (false),.b (false),.b (false),.b (false),.b (false),.b (false)] ?_
     conv=>whnf
     refine ⟨⟨I,I,I,I,⟨nbF (by assumption),I⟩,⟨nbF (by assumption),⟨I,I⟩,I,⟨⟨I,I,I,I,I,I,I,I,I⟩,I⟩,⟨I,I⟩,(by assumption)⟩,⟨nbF (by assumption),I⟩,nbF (by assumption),I,⟨rfl,I⟩,⟨rfl,I⟩,⟨rfl,I⟩,rfl,I,⟨notF (by omega),I⟩,⟨notF (by omega),I⟩,⟨notF (by omega),I⟩,⟨notF (by omega),I⟩,⟨notF (by omega),I⟩,notF (by omega),I⟩,?_⟩
     refine W.cn ?_
     conv=>whnf
     refine ⟨noT (dF (by omega)),fun _=>?_⟩
     refine W.skip ?_
     refine W.sq ?_
     refine g 38 42 [] ?_
     conv=>whnf
     refine ⟨⟨I,I,I⟩,?_⟩
     refine W.blk ?_
     refine g 3 4 [] ?_
     conv=>whnf
     refine ⟨⟨I,I,I⟩,?_⟩
     refine W.cn ?_
     conv=>whnf
     refine ⟨fun _=>?_,noF (dT (by omega))⟩
     refine g 42 46 [.call (V.tup [bossO { workers:=Boss.workers b,up:=Boss.up b,now:=Boss.now b,since:=Boss.since b,epoch:=Boss.epoch b,given:=Boss.given b,log:=Boss.log b,results:=Boss.results b,jobs:=Boss.jobs b,seats:=List.set (Boss.seats b) (seatI m) { free:=true,epoch:=Message.epoch m:Seat },owed:=Boss.owed b:Boss },V.b true]) ([[],[]])] ?_
     conv=>whnf
     refine ⟨⟨I,I,⟨⟨⟨I,I,I,I,I,I,I,I,I,I,I,I,I⟩,I,I⟩,I,⟨I,⟨I,I,I,I,I,I,I,I,I⟩,I⟩,⟨I,I⟩,(by assumption)⟩,I,I,I,I,⟨I,I,I,I,I,I,I,I,I,I,I,I,I⟩,I,I⟩,?_⟩
     refine g 47 52 [] ?_
     conv=>whnf
     refine ⟨⟨I,⟨I,I,I,I,I,I,I,I,I,I,I,I,I⟩,I⟩,?_⟩
     refine g 4 5 [] ?_
     conv=>whnf
     refine ⟨⟨I,I⟩,?_⟩
     refine W.blk ?_
     refine W.lp (fun s (n:Nat)=>⟨[(0,s.s 0),(1,s.s 1),(5,s.s 5),(6,s.s 6),(7,s.s 7),(9,s.s 9),(10,.i n),(46,s.s 46)],[(5,[s.c 5 0,s.c 5 1,s.c 5 2,s.c 5 3,s.c 5 4,s.c 5 5,s.c 5 6,s.c 5 7]),(6,[s.c 6 0,s.c 6 1,s.c 6 2,s.c 6 3,s.c 6 4,s.c 6 5,s.c 6 6,s.c 6 7,s.c 6 8,s.c 6 9,s.c 6 10,s.c 6 11,s.c 6 12]),(7,[.t (.i b.workers),.t (.b b.up),.t (.i b.now),.t (.i b.since),.t (.i b.epoch),.t (.i b.given),.own [false] (b.log.safe.map strT),.own [false] (b.log.loose.map strT),.own [false] (b.results.map strT),.own jobK ((mapN (freeJ m.frm) b.jobs n).map jobT),.own seatK ((b.seats.set (seatI m) ⟨true,m.epoch⟩).map seatT),.own owedK (b.owed.map owedT)])],[]⟩) (fun (n:Nat)=>n ≤ b.jobs.length) (fun (n:Nat)=>b.jobs.length - n) (0) [some 5,some 6,some 7] [] ⟨rfl,⟨⟨_,rfl,_,_,rfl,rfl,_,_,rfl,rfl,_,_,rfl,rfl,_,_,rfl,rfl,_,_,rfl,rfl,_,_,rfl,rfl,_,_,rfl,rfl,_,_,rfl,rfl,_,_,rfl,rfl,_,_,rfl,rfl,_,_,rfl,rfl,_,_,rfl,rfl,rfl⟩,⟨_,rfl,_,_,rfl,rfl,rfl⟩,rfl,rfl,rfl,rfl,rfl,⟨_,rfl,_,_,rfl,rfl,_,_,rfl,rfl,_,_,rfl,rfl,_,_,rfl,rfl,_,_,rfl,rfl,_,_,rfl,rfl,_,_,rfl,I,_,_,rfl,I,_,_,rfl,I,_,_,rfl,I,_,_,rfl,I,_,_,rfl,I,rfl⟩,I⟩,⟨⟨rfl,⟨rfl,⟨rfl,⟨rfl,⟨rfl,⟨rfl,⟨rfl,⟨rfl,⟨rfl,I⟩⟩⟩⟩⟩⟩⟩⟩⟩,⟨⟨rfl,⟨rfl,⟨rfl,⟨rfl,⟨rfl,⟨rfl,⟨rfl,⟨rfl,⟨rfl,⟨rfl,⟨rfl,⟨rfl,⟨rfl,⟨rfl,I⟩⟩⟩⟩⟩⟩⟩⟩⟩⟩⟩⟩⟩⟩,⟨⟨rfl,⟨rfl,⟨rfl,⟨rfl,⟨rfl,⟨rfl,⟨rfl,⟨rfl,⟨rfl,⟨rfl,⟨rfl,⟨rfl,⟨rfl,I⟩⟩⟩⟩⟩⟩⟩⟩⟩⟩⟩⟩⟩,I⟩⟩⟩,I⟩ (by omega) ?_
     intro n hn
     have hl:=mapN_len (freeJ m.frm) b.jobs n
     by_cases hj:n < b.jobs.length
     ·obtain ⟨j,hj1⟩:=some_at hj
      by_cases hd:j.worker = m.frm
      ·have e:=free_yes hj1 hd
       conv=>whnf
       refine W.sq ?_
       refine g 52 59 [.b (true),.b (true),.b (true),.b (true),.b (true),.b (true)] ?_
       conv=>whnf
       refine ⟨⟨I,I,⟨rfl,I⟩,⟨rfl,I⟩,⟨rfl,I⟩,⟨rfl,I⟩,⟨rfl,I⟩,rfl,I⟩,?_⟩
       refine W.cn ?_
       conv=>whnf
       refine ⟨fun _=>?_,noF (by simp_all)⟩
       refine W.skip ?_
       refine W.sq ?_
       refine W.blk ?_
       refine gd 59 70 [[],[],[],[.n (n)],[],[.x (jobT j)],[],[],[]] ?_
       conv=>whnf
       refine ⟨⟨I,I,I,⟨rfl,(by simp only [lens]; omega)⟩,I,mapN_getm (by assumption),I,I,I,I⟩,by kernel_rfl,?_⟩
       refine W.cn ?_
       conv=>whnf
       refine ⟨fun _=>?_,noF (dT (by omega))⟩
       refine rg [.n (n),.x (jobT j)] ?_
       conv=>whnf
       refine ⟨⟨I,I,I,I,⟨rfl,(by simp only [lens]; omega)⟩,⟨⟨I,I,I,I⟩,mapN_getm (by assumption)⟩,I⟩,?_⟩
       refine rg [.i ((↑n:Int) + (1:Int))] ?_
       conv=>whnf
       refine ⟨⟨I,w64 (by omega) (by omega),I,I⟩,?_⟩
       refine ⟨n + 1,[some 5,some 6,some 7],[],⟨rfl,⟨⟨_,rfl,_,_,rfl,rfl,_,_,rfl,rfl,_,_,rfl,rfl,_,_,rfl,rfl,_,_,rfl,rfl,_,_,rfl,rfl,_,_,rfl,rfl,_,_,rfl,rfl,_,_,rfl,rfl,_,_,rfl,rfl,_,_,rfl,rfl,_,_,rfl,rfl,rfl⟩,⟨_,rfl,_,_,rfl,rfl,rfl⟩,rfl,rfl,rfl,rfl,rfl,⟨_,rfl,_,_,rfl,rfl,_,_,rfl,rfl,_,_,rfl,rfl,_,_,rfl,rfl,_,_,rfl,rfl,_,_,rfl,rfl,_,_,rfl,I,_,_,rfl,I,_,_,rfl,I,_,_,rfl,I,_,_,rfl,I,_,_,rfl,I,rfl⟩,I⟩,⟨⟨rfl,⟨rfl,⟨rfl,⟨rfl,⟨rfl,⟨rfl,⟨rfl,⟨rfl,⟨rfl,I⟩⟩⟩⟩⟩⟩⟩⟩⟩,⟨⟨rfl,⟨rfl,⟨rfl,⟨rfl,⟨rfl,⟨rfl,⟨rfl,⟨rfl,⟨rfl,⟨rfl,⟨rfl,⟨rfl,⟨rfl,⟨rfl,I⟩⟩⟩⟩⟩⟩⟩⟩⟩⟩⟩⟩⟩⟩,⟨⟨rfl,⟨rfl,⟨rfl,⟨rfl,⟨rfl,⟨rfl,⟨rfl,⟨rfl,⟨rfl,⟨rfl,⟨(congrArg (V.own _) (e)),⟨rfl,⟨rfl,I⟩⟩⟩⟩⟩⟩⟩⟩⟩⟩⟩⟩⟩,I⟩⟩⟩,I⟩,?_,?_⟩
       rotate_left 1
       (dsimp only; omega)
       dsimp only
       omega
      ·have e:=free_no hj1 hd
       conv=>whnf
       refine W.sq ?_
       refine g 52 59 [.b (true),.b (true),.b (true),.b (true),.b (true),.b (true)] ?_
       conv=>whnf
       refine ⟨⟨I,I,⟨rfl,I⟩,⟨rfl,I⟩,⟨rfl,I⟩,⟨rfl,I⟩,⟨rfl,I⟩,rfl,I⟩,?_⟩
       refine W.cn ?_
       conv=>whnf
       refine ⟨fun _=>?_,noF (by simp_all)⟩
       refine W.skip ?_
       refine W.sq ?_
       refine W.blk ?_
       refine gd 59 70 [[],[],[],[.n (n)],[],[.x (jobT j)],[],[],[]] ?_
       conv=>whnf
       refine ⟨⟨I,I,I,⟨rfl,(by simp only [lens]; omega)⟩,I,mapN_getm (by assumption),I,I,I,I⟩,by kernel_rfl,?_⟩
       refine W.cn ?_
       conv=>whnf
       refine ⟨noT (dF (by omega)),fun _=>?_⟩
       refine W.skip ?_
       refine rg [.i ((↑n:Int) + (1:Int))] ?_
       conv=>whnf
       refine ⟨⟨I,w64 (by omega) (by omega),I,I⟩,?_⟩
       refine ⟨n + 1,[some 5,some 6,some 7],[],⟨rfl,⟨⟨_,rfl,_,_,rfl,rfl,_,_,rfl,rfl,_,_,rfl,rfl,_,_,rfl,rfl,_,_,rfl,rfl,_,_,rfl,rfl,_,_,rfl,rfl,_,_,rfl,rfl,_,_,rfl,rfl,_,_,rfl,rfl,_,_,rfl,rfl,_,_,rfl,rfl,rfl⟩,⟨_,rfl,_,_,rfl,rfl,rfl⟩,rfl,rfl,rfl,rfl,rfl,⟨_,rfl,_,_,rfl,rfl,_,_,rfl,rfl,_,_,rfl,rfl,_,_,rfl,rfl,_,_,rfl,rfl,_,_,rfl,rfl,_,_,rfl,I,_,_,rfl,I,_,_,rfl,I,_,_,rfl,I,_,_,rfl,I,_,_,rfl,I,rfl⟩,I⟩,⟨⟨rfl,⟨rfl,⟨rfl,⟨rfl,⟨rfl,⟨rfl,⟨rfl,⟨rfl,⟨rfl,I⟩⟩⟩⟩⟩⟩⟩⟩⟩,⟨⟨rfl,⟨rfl,⟨rfl,⟨rfl,⟨rfl,⟨rfl,⟨rfl,⟨rfl,⟨rfl,⟨rfl,⟨rfl,⟨rfl,⟨rfl,⟨rfl,I⟩⟩⟩⟩⟩⟩⟩⟩⟩⟩⟩⟩⟩⟩,⟨⟨rfl,⟨rfl,⟨rfl,⟨rfl,⟨rfl,⟨rfl,⟨rfl,⟨rfl,⟨rfl,⟨rfl,⟨(congrArg (V.own _) (by rw [← e])),⟨rfl,⟨rfl,I⟩⟩⟩⟩⟩⟩⟩⟩⟩⟩⟩⟩⟩,I⟩⟩⟩,I⟩,?_,?_⟩
       rotate_left 1
       (dsimp only; omega)
       dsimp only
       omega
     ·have e:=mapN_all (freeJ m.frm) b.jobs (n:=n) (by omega)
      conv=>whnf
      refine W.sq ?_
      refine g 52 59 [.b (true),.b (true),.b (true),.b (true),.b (true),.b (true)] ?_
      conv=>whnf
      refine ⟨⟨I,I,⟨rfl,I⟩,⟨rfl,I⟩,⟨rfl,I⟩,⟨rfl,I⟩,⟨rfl,I⟩,rfl,I⟩,?_⟩
      refine W.cn ?_
      conv=>whnf
      refine ⟨noT (by simp_all),fun _=>?_⟩
      refine W.exit ?_
      refine g 0 6 [] ?_
      conv=>whnf
      refine ⟨⟨I,I,⟨I,I,I,I,I,I,I,I,I,I,I,I,I,I⟩,I⟩,?_⟩
      refine W.ret ?_
      refine EndsW.rt ?_
      conv=>whnf
      refine ⟨⟨I,I,I,I,I,I,I,I,I,I,I,I,I,I,I⟩,?_,rfl⟩
      (simp [*]; done)
  ·rw [take_no hf]
   by_cases g1:b.up = true
   ·by_cases g2:msgOk m
    ·rw [decide_eq_true g2] at cm
     by_cases g3:m.to = 0
     ·have g4:¬ m.frm ≤ b.workers:=fun q=>hf ⟨g1,g2,g3,q⟩
      refine i_spec_BossTake ?_
      conv=>whnf
      refine g 2 3 [] ?_
      conv=>whnf
      refine ⟨⟨⟨I,I,I,I,I,I,I,I,I,I,I,I,I⟩,⟨I,I⟩,⟨I,I,I,I,I,I,I,I,I⟩,I,I⟩,?_⟩
      refine W.sq ?_
      refine g 12 13 [.call (V.b true) ([[],[]])] ?_
      conv=>whnf
      refine ⟨⟨I,I,⟨⟨I,I,I⟩,I,⟨⟨I,I,I,I,I,I,I,I,I,I,I,I,I⟩,⟨I,I⟩,I⟩,⟨I,I⟩,(by assumption)⟩,I,I⟩,?_⟩
      refine W.cn ?_
      conv=>whnf
      refine ⟨noT (rfl),fun _=>?_⟩
      refine W.skip ?_
      refine g 14 19 [.call (bossO b) ([[]])] ?_
      conv=>whnf
      refine ⟨⟨I,⟨⟨I,I⟩,I,⟨⟨I,I,I,I,I,I,I,I,I,I,I,I,I⟩,I⟩,⟨I,I⟩,(by assumption)⟩,I,⟨I,I,I,I,I,I,I,I,I,I,I,I,I⟩,I⟩,?_⟩
      refine W.sq ?_
      refine g 13 38 [.b (false),.b (false),.call (V.b true) ([[]]),.b (false),.b (false),.b (false),.b (false),.b (false),.b (false),.b (false),.b (false),.b (false),.b (false),.b (false),.b (false)] ?_
      conv=>whnf
      refine ⟨⟨I,I,I,I,⟨nbF (by assumption),I⟩,⟨nbF (by assumption),⟨I,I⟩,I,⟨⟨I,I,I,I,I,I,I,I,I⟩,I⟩,⟨I,I⟩,(by assumption)⟩,⟨nbF (by assumption),I⟩,nbF (by assumption),I,⟨rfl,I⟩,⟨rfl,I⟩,⟨rfl,I⟩,rfl,I,⟨notF (by omega),I⟩,⟨notF (by omega),I⟩,⟨notF (by omega),I⟩,⟨notF (by omega),I⟩,⟨notF (by omega),I⟩,notF (by omega),I⟩,?_⟩
      refine W.cn ?_
      conv=>whnf
      refine ⟨fun _=>?_,noF (dT (by omega))⟩
      refine g 38 41 [] ?_
      conv=>whnf
      refine ⟨⟨I,I,⟨I,I,I,I,I,I,I,I,I,I,I,I,I,I⟩,I⟩,?_⟩
      refine W.ret ?_
      refine EndsW.rt ?_
      conv=>whnf
      refine ⟨⟨I,I,I,I,I,I,I,I,I,I,I,I,I,I,I⟩,?_,rfl⟩
      rfl
     ·refine i_spec_BossTake ?_
      conv=>whnf
      refine g 2 3 [] ?_
      conv=>whnf
      refine ⟨⟨⟨I,I,I,I,I,I,I,I,I,I,I,I,I⟩,⟨I,I⟩,⟨I,I,I,I,I,I,I,I,I⟩,I,I⟩,?_⟩
      refine W.sq ?_
      refine g 12 13 [.call (V.b true) ([[],[]])] ?_
      conv=>whnf
      refine ⟨⟨I,I,⟨⟨I,I,I⟩,I,⟨⟨I,I,I,I,I,I,I,I,I,I,I,I,I⟩,⟨I,I⟩,I⟩,⟨I,I⟩,(by assumption)⟩,I,I⟩,?_⟩
      refine W.cn ?_
      conv=>whnf
      refine ⟨noT (rfl),fun _=>?_⟩
      refine W.skip ?_
      refine g 14 19 [.call (bossO b) ([[]])] ?_
      conv=>whnf
      refine ⟨⟨I,⟨⟨I,I⟩,I,⟨⟨I,I,I,I,I,I,I,I,I,I,I,I,I⟩,I⟩,⟨I,I⟩,(by assumption)⟩,I,⟨I,I,I,I,I,I,I,I,I,I,I,I,I⟩,I⟩,?_⟩
      refine W.sq ?_
      refine g 13 38 [.b (false),.b (false),.call (V.b true) ([[]]),.b (false),.b (false),.b (false),.b (false),.b (false),.b (false),.b (true),.b (true),.b (true),.b (true),.b (true),.b (true)] ?_
      conv=>whnf
      refine ⟨⟨I,I,I,I,⟨nbF (by assumption),I⟩,⟨nbF (by assumption),⟨I,I⟩,I,⟨⟨I,I,I,I,I,I,I,I,I⟩,I⟩,⟨I,I⟩,(by assumption)⟩,⟨nbF (by assumption),I⟩,nbF (by assumption),I,⟨rfl,I⟩,⟨rfl,I⟩,⟨rfl,I⟩,rfl,I,notT (by omega),notT (by omega),notT (by omega),notT (by omega),notT (by omega),notT (by omega),I⟩,?_⟩
      refine W.cn ?_
      conv=>whnf
      refine ⟨fun _=>?_,noF (rfl)⟩
      refine g 38 41 [] ?_
      conv=>whnf
      refine ⟨⟨I,I,⟨I,I,I,I,I,I,I,I,I,I,I,I,I,I⟩,I⟩,?_⟩
      refine W.ret ?_
      refine EndsW.rt ?_
      conv=>whnf
      refine ⟨⟨I,I,I,I,I,I,I,I,I,I,I,I,I,I,I⟩,?_,rfl⟩
      rfl
    ·rw [decide_eq_false g2] at cm
     refine i_spec_BossTake ?_
     conv=>whnf
     refine g 2 3 [] ?_
     conv=>whnf
     refine ⟨⟨⟨I,I,I,I,I,I,I,I,I,I,I,I,I⟩,⟨I,I⟩,⟨I,I,I,I,I,I,I,I,I⟩,I,I⟩,?_⟩
     refine W.sq ?_
     refine g 12 13 [.call (V.b true) ([[],[]])] ?_
     conv=>whnf
     refine ⟨⟨I,I,⟨⟨I,I,I⟩,I,⟨⟨I,I,I,I,I,I,I,I,I,I,I,I,I⟩,⟨I,I⟩,I⟩,⟨I,I⟩,(by assumption)⟩,I,I⟩,?_⟩
     refine W.cn ?_
     conv=>whnf
     refine ⟨noT (rfl),fun _=>?_⟩
     refine W.skip ?_
     refine g 14 19 [.call (bossO b) ([[]])] ?_
     conv=>whnf
     refine ⟨⟨I,⟨⟨I,I⟩,I,⟨⟨I,I,I,I,I,I,I,I,I,I,I,I,I⟩,I⟩,⟨I,I⟩,(by assumption)⟩,I,⟨I,I,I,I,I,I,I,I,I,I,I,I,I⟩,I⟩,?_⟩
     refine W.sq ?_
     refine g 13 38 [.b (false),.b (false),.call (V.b false) ([[]]),.b (false),.b (false),.b (true),.b (true),.b (true),.b (true),.b (true),.b (true),.b (true),.b (true),.b (true),.b (true)] ?_
     conv=>whnf
     refine ⟨⟨I,I,I,I,⟨nbF (by assumption),I⟩,⟨nbF (by assumption),⟨I,I⟩,I,⟨⟨I,I,I,I,I,I,I,I,I⟩,I⟩,⟨I,I⟩,(by assumption)⟩,⟨nbF (by assumption),I⟩,nbF (by assumption),I,rfl,rfl,rfl,rfl,I,rfl,rfl,rfl,rfl,rfl,rfl,I⟩,?_⟩
     refine W.cn ?_
     conv=>whnf
     refine ⟨fun _=>?_,noF (rfl)⟩
     refine g 38 41 [] ?_
     conv=>whnf
     refine ⟨⟨I,I,⟨I,I,I,I,I,I,I,I,I,I,I,I,I,I⟩,I⟩,?_⟩
     refine W.ret ?_
     refine EndsW.rt ?_
     conv=>whnf
     refine ⟨⟨I,I,I,I,I,I,I,I,I,I,I,I,I,I,I⟩,?_,rfl⟩
     rfl
   ·refine i_spec_BossTake ?_
    conv=>whnf
    refine g 2 3 [] ?_
    conv=>whnf
    refine ⟨⟨⟨I,I,I,I,I,I,I,I,I,I,I,I,I⟩,⟨I,I⟩,⟨I,I,I,I,I,I,I,I,I⟩,I,I⟩,?_⟩
    refine W.sq ?_
    refine g 12 13 [.call (V.b true) ([[],[]])] ?_
    conv=>whnf
    refine ⟨⟨I,I,⟨⟨I,I,I⟩,I,⟨⟨I,I,I,I,I,I,I,I,I,I,I,I,I⟩,⟨I,I⟩,I⟩,⟨I,I⟩,(by assumption)⟩,I,I⟩,?_⟩
    refine W.cn ?_
    conv=>whnf
    refine ⟨noT (rfl),fun _=>?_⟩
    refine W.skip ?_
    refine g 14 19 [.call (bossO b) ([[]])] ?_
    conv=>whnf
    refine ⟨⟨I,⟨⟨I,I⟩,I,⟨⟨I,I,I,I,I,I,I,I,I,I,I,I,I⟩,I⟩,⟨I,I⟩,(by assumption)⟩,I,⟨I,I,I,I,I,I,I,I,I,I,I,I,I⟩,I⟩,?_⟩
    refine W.sq ?_
    refine g 13 38 [.b (true),.b (true),.b (true),.b (true),.b (true),.b (true),.b (true),.b (true),.b (true),.b (true),.b (true),.b (true),.b (true),.b (true)] ?_
    conv=>whnf
    refine ⟨⟨I,I,I,I,(by simp [*]),(by simp [*]),(by simp [*]),(by simp [*]),I,rfl,rfl,rfl,rfl,I,rfl,rfl,rfl,rfl,rfl,rfl,I⟩,?_⟩
    refine W.cn ?_
    conv=>whnf
    refine ⟨fun _=>?_,noF (rfl)⟩
    refine g 38 41 [] ?_
    conv=>whnf
    refine ⟨⟨I,I,⟨I,I,I,I,I,I,I,I,I,I,I,I,I,I⟩,I⟩,?_⟩
    refine W.ret ?_
    refine EndsW.rt ?_
    conv=>whnf
    refine ⟨⟨I,I,I,I,I,I,I,I,I,I,I,I,I,I,I⟩,?_,rfl⟩
    rfl
 ·rw [decide_eq_false hv] at cv
  rw [btake_no hv]
  refine i_spec_BossTake ?_
  conv=>whnf
  refine g 2 3 [] ?_
  conv=>whnf
  refine ⟨⟨⟨I,I,I,I,I,I,I,I,I,I,I,I,I⟩,⟨I,I⟩,⟨I,I,I,I,I,I,I,I,I⟩,I,I⟩,?_⟩
  refine W.sq ?_
  refine g 12 13 [.call (V.b false) ([[],[]])] ?_
  conv=>whnf
  refine ⟨⟨I,I,⟨⟨I,I,I⟩,I,⟨⟨I,I,I,I,I,I,I,I,I,I,I,I,I⟩,⟨I,I⟩,I⟩,⟨I,I⟩,(by assumption)⟩,I,I⟩,?_⟩
  refine W.cn ?_
  conv=>whnf
  refine ⟨fun _=>?_,noF (rfl)⟩
  refine g 14 17 [] ?_
  conv=>whnf
  refine ⟨⟨I,⟨I,I,I,I,I,I,I,I,I,I,I,I,I,I⟩,I⟩,?_⟩
  refine W.ret ?_
  refine EndsW.rt ?_
  conv=>whnf
  refine ⟨⟨I,I,I,I,I,I,I,I,I,I,I,I,I,I,I⟩,?_,rfl⟩
  rfl
end Go.K
end
section
set_option linter.unusedVariables false
set_option linter.unusedSimpArgs false
set_option maxHeartbeats 8000000
set_option maxRecDepth 20000
open Go Go.Tm Go.Proofs
namespace Go.K
theorem sum_msgC:∀ {l:List Message},(∀ m ∈ l,m.inputs.length ≤ 8) → sumI messageC l ≤ 15 * (l.length:Int)
 | [],_=>by simp [sumI]
 | x :: l,h=>by
   have h1:=sum_msgC (l:=l) fun m hm=>h m (List.mem_cons_of_mem _ hm)
   have h2:=h x (List.mem_cons_self ..)
   simp only [sumI,messageC,List.length_cons]; omega
structure LedSmall (x:Led):Prop where
 boss:BossSmall x.boss
 out:x.out.length ≤ 2097152
 inp:∀ m ∈ x.out,m.inputs.length ≤ 8
theorem ledsmall_no:LedSmall noLed:=⟨small_no,Nat.zero_le _,fun m hm=>by cases hm⟩
theorem small_led {x:Led} (h:LedSmall x):ledLen x ∧ (x.boss.log.safe.length ≤ 9223372036854775806 ∧ x.boss.log.loose.length ≤ 9223372036854775806 ∧ x.boss.results.length ≤ 9223372036854775806 ∧ x.boss.jobs.length ≤ 9223372036854775806 ∧ x.boss.seats.length ≤ 9223372036854775806 ∧ x.boss.owed.length ≤ 9223372036854775806 ∧ x.out.length ≤ 9223372036854775806) ∧ 0 ≤ ledTopC x ∧ ledTopC x ≤ 200000000:=by
 obtain ⟨h1,h2,h3⟩:=h
 obtain ⟨⟨c1,c2,c3,c4,c5,c6⟩,_,b3,b4⟩:=small_boss h1
 have e:ledTopC x = bossTopC x.boss + sumI messageC x.out:=rfl
 have h4:=sum_nn messageC_nn x.out
 have h5:=sum_msgC h3
 exact ⟨⟨c1,c2,c3,c4,c5,c6,by omega,fun y hy=>by have:=h3 y hy; show y.inputs.length ≤ _; omega⟩,⟨c1,c2,c3,c4,c5,c6,by omega⟩,by omega,by omega⟩
structure BossK (k:Nat) (b:Boss):Prop where
 safe:b.log.safe.length ≤ 1048576 + k
 loose:b.log.loose.length ≤ 1048576 + k
 res:b.results.length ≤ 1048576 + k
 jobs:b.jobs.length ≤ 1048576 + k
 seats:b.seats.length ≤ 1048576 + k
 owed:b.owed.length ≤ 1048576 + k
theorem bossk_mono {k j:Nat} {b:Boss} (h:BossK k b) (hk:k ≤ j):BossK j b:=by
 obtain ⟨h1,h2,h3,h4,h5,h6⟩:=h
 exact ⟨by omega,by omega,by omega,by omega,by omega,by omega⟩
theorem k_free {k:Nat} {b:Boss} (m:Message) (h:BossK k b):BossK k (freeB b m):=by
 unfold freeB; split
 ·exact h
 ·exact ⟨h.1,h.2,h.3,h.4,by show (b.seats.set _ _).length ≤ _; rw [List.length_set]; exact h.5,h.6⟩
theorem k_here {k:Nat} {b:Boss} (m:Message) (h:BossK k b):BossK k (hereB b m):=by
 unfold hereB; split
 ·exact h
 ·exact ⟨h.1,h.2,h.3,by show (b.jobs.map _).length ≤ _; rw [List.length_map]; exact h.4,by show (b.seats.set _ _).length ≤ _; rw [List.length_set]; exact h.5,h.6⟩
theorem k_beat {k:Nat} {b:Boss} (m:Message) (h:BossK k b):BossK k (beatB b m):=⟨h.1,h.2,h.3,by show (b.jobs.map _).length ≤ _; rw [List.length_map]; exact h.4,h.5,h.6⟩
theorem k_res1 {k:Nat} {b:Boss} (ts:List Task) (m:Message) (h:BossK k b):BossK (k + 1) (res1 b ts m):=by
 unfold res1; split
 ·have h2:=bossk_mono h (Nat.le_succ k)
  refine ⟨h2.1,?_,by show (b.results.set _ _).length ≤ _; rw [List.length_set]; exact h2.3,by show (b.jobs.set _ _).length ≤ _; rw [List.length_set]; exact h2.4,h2.5,h2.6⟩
  show (b.log.loose ++ [_]).length ≤ _
  have:=h.2
  rw [List.length_append,List.length_singleton]; omega
 ·exact bossk_mono h (Nat.le_succ k)
theorem k_res2 {k:Nat} {b:Boss} (m:Message) (h:BossK k b):BossK k (res2 b m):=by
 unfold res2; split
 ·exact k_free m h
 ·exact h
theorem k_res3 {k:Nat} {b:Boss} (m:Message) (h:BossK k b):BossK (k + 1) (res3 b m):=by
 unfold res3; split
 ·have h2:=bossk_mono h (Nat.le_succ k)
  refine ⟨h2.1,h2.2,h2.3,h2.4,h2.5,?_⟩
  show (b.owed ++ [_]).length ≤ _
  have:=h.6
  rw [List.length_append,List.length_singleton]; omega
 ·exact bossk_mono h (Nat.le_succ k)
theorem k_take {b:Boss} (ts:List Task) (m:Message) (h:BossK 0 b):BossK 2 (takeB b ts m):=by
 have h2:=bossk_mono h (Nat.zero_le 2)
 unfold takeB; split
 ·split
  ·exact k_here m h2
  ·split
   ·exact k_beat m h2
   ·split
    ·split
     ·exact k_res3 m (k_res2 m (k_res1 ts m h))
     ·exact h2
    ·exact h2
 ·exact h2
theorem btake_small {b:Boss} (p:Plan) (m:Message) (h:BossLim b):LedSmall (bTake b p m):=by
 unfold bTake; split
 ·have h0:BossK 0 b:=⟨h.safe,h.loose,h.res,h.jobs,h.seats,h.owed⟩
  obtain ⟨k1,k2,k3,k4,k5,k6⟩:=k_take p.tasks m h0
  exact ⟨⟨by dsimp only; omega,by dsimp only; omega,by dsimp only; omega,by dsimp only; omega,by dsimp only; omega,by dsimp only; omega⟩,Nat.zero_le _,fun x hx=>by cases hx⟩
 ·exact ledsmall_no
theorem l_FnExactBossTake (b:Boss) (hw:bossWf b) (p:Plan) (hp:planWf p) (m:Message) (hm:messageWf m):F n_laws_FnExactBossTake [.val (bossR b),.val (planR p),.val (messageR m)] (.b true) [[],[],[]]:=by
 have c0:=c_laws_szBoss b 1048576 hw (by omega) (by omega)
 have hbn:=bossSz_nn b
 by_cases hq:(1048576:Int) - bossSz b < 0
 ·rw [if_pos hq] at c0
  refine i_laws_FnExactBossTake ?_
  conv=>whnf
  refine g 0 2 [] ?_
  conv=>whnf
  refine ⟨⟨⟨I,I,I,I,I,I,I,I,I,I,I,I,I⟩,⟨I,I⟩,⟨I,I,I,I,I,I,I,I,I⟩,I,I⟩,?_⟩
  refine g 0 0 [] ?_
  conv=>whnf
  refine ⟨⟨I,I⟩,?_⟩
  refine g 17 20 [.call (V.i (-1:Int)) ([[],[]])] ?_
  conv=>whnf
  refine ⟨⟨I,I,⟨⟨I,I,I⟩,I,⟨⟨I,I,I,I,I,I,I,I,I,I,I,I,I⟩,⟨I,I⟩,I⟩,⟨I,I⟩,(by assumption)⟩,I,I⟩,?_⟩
  refine W.sq ?_
  refine g 20 21 [] ?_
  conv=>whnf
  refine ⟨⟨I,I,I⟩,?_⟩
  refine W.cn ?_
  conv=>whnf
  refine ⟨fun _=>?_,noF (rfl)⟩
  refine g 21 22 [] ?_
  conv=>whnf
  refine ⟨⟨I,I⟩,?_⟩
  refine W.ret ?_
  refine EndsW.rt ?_
  conv=>whnf
  refine ⟨⟨I,I,I⟩,?_,rfl⟩
  rfl
 ·rw [if_neg hq] at c0
  have c9:=c_laws_szPlan p (1048576 - bossSz b) hp (by omega) (by omega)
  have hpn:=planSz_nn p
  by_cases hq2:(1048576:Int) - bossSz b - planSz p < 0
  ·rw [if_pos hq2] at c9
   refine i_laws_FnExactBossTake ?_
   conv=>whnf
   refine g 0 2 [] ?_
   conv=>whnf
   refine ⟨⟨⟨I,I,I,I,I,I,I,I,I,I,I,I,I⟩,⟨I,I⟩,⟨I,I,I,I,I,I,I,I,I⟩,I,I⟩,?_⟩
   refine g 0 0 [] ?_
   conv=>whnf
   refine ⟨⟨I,I⟩,?_⟩
   refine g 17 20 [.call (V.i ((1048576:Int) - bossSz b)) ([[],[]])] ?_
   conv=>whnf
   refine ⟨⟨I,I,⟨⟨I,I,I⟩,I,⟨⟨I,I,I,I,I,I,I,I,I,I,I,I,I⟩,⟨I,I⟩,I⟩,⟨I,I⟩,(by assumption)⟩,I,I⟩,?_⟩
   refine W.sq ?_
   refine g 20 21 [] ?_
   conv=>whnf
   refine ⟨⟨I,I,I⟩,?_⟩
   refine W.cn ?_
   conv=>whnf
   refine ⟨noT (dF (by omega)),fun _=>?_⟩
   refine W.skip ?_
   refine g 21 25 [.call (V.i (-1:Int)) ([[],[]])] ?_
   conv=>whnf
   refine ⟨⟨I,I,⟨⟨I,I,I⟩,I,⟨⟨I,I⟩,⟨I,I⟩,I⟩,⟨I,I⟩,(by assumption)⟩,I,I⟩,?_⟩
   refine W.sq ?_
   refine g 25 26 [] ?_
   conv=>whnf
   refine ⟨⟨I,I,I⟩,?_⟩
   refine W.cn ?_
   conv=>whnf
   refine ⟨fun _=>?_,noF (rfl)⟩
   refine g 26 27 [] ?_
   conv=>whnf
   refine ⟨⟨I,I⟩,?_⟩
   refine W.ret ?_
   refine EndsW.rt ?_
   conv=>whnf
   refine ⟨⟨I,I,I⟩,?_,rfl⟩
   rfl
  ·rw [if_neg hq2] at c9
   have c8:=c_laws_szMessage m (1048576 - bossSz b - planSz p) hm (by omega) (by omega)
   have hmn:=messageSz_nn m
   by_cases hq3:(1048576:Int) - bossSz b - planSz p - messageSz m < 0
   ·rw [if_pos hq3] at c8
    refine i_laws_FnExactBossTake ?_
    conv=>whnf
    refine g 0 2 [] ?_
    conv=>whnf
    refine ⟨⟨⟨I,I,I,I,I,I,I,I,I,I,I,I,I⟩,⟨I,I⟩,⟨I,I,I,I,I,I,I,I,I⟩,I,I⟩,?_⟩
    refine g 0 0 [] ?_
    conv=>whnf
    refine ⟨⟨I,I⟩,?_⟩
    refine g 17 20 [.call (V.i ((1048576:Int) - bossSz b)) ([[],[]])] ?_
    conv=>whnf
    refine ⟨⟨I,I,⟨⟨I,I,I⟩,I,⟨⟨I,I,I,I,I,I,I,I,I,I,I,I,I⟩,⟨I,I⟩,I⟩,⟨I,I⟩,(by assumption)⟩,I,I⟩,?_⟩
    refine W.sq ?_
    refine g 20 21 [] ?_
    conv=>whnf
    refine ⟨⟨I,I,I⟩,?_⟩
    refine W.cn ?_
    conv=>whnf
    refine ⟨noT (dF (by omega)),fun _=>?_⟩
    refine W.skip ?_
    refine g 21 25 [.call (V.i ((1048576:Int) - bossSz b - planSz p)) ([[],[]])] ?_
    conv=>whnf
    refine ⟨⟨I,I,⟨⟨I,I,I⟩,I,⟨⟨I,I⟩,⟨I,I⟩,I⟩,⟨I,I⟩,(by assumption)⟩,I,I⟩,?_⟩
    refine W.sq ?_
    refine g 25 26 [] ?_
    conv=>whnf
    refine ⟨⟨I,I,I⟩,?_⟩
    refine W.cn ?_
    conv=>whnf
    refine ⟨noT (dF (by omega)),fun _=>?_⟩
    refine W.skip ?_
    refine g 26 30 [.call (V.i (-1:Int)) ([[],[]])] ?_
    conv=>whnf
    refine ⟨⟨I,I,⟨⟨I,I,I⟩,I,⟨⟨I,I,I,I,I,I,I,I,I⟩,⟨I,I⟩,I⟩,⟨I,I⟩,(by assumption)⟩,I,I⟩,?_⟩
    refine W.sq ?_
    refine g 7 31 [] ?_
    conv=>whnf
    refine ⟨⟨I,I,I⟩,?_⟩
    refine W.cn ?_
    conv=>whnf
    refine ⟨fun _=>?_,noF (rfl)⟩
    refine g 31 32 [] ?_
    conv=>whnf
    refine ⟨⟨I,I⟩,?_⟩
    refine W.ret ?_
    refine EndsW.rt ?_
    conv=>whnf
    refine ⟨⟨I,I,I⟩,?_,rfl⟩
    rfl
   ·rw [if_neg hq3] at c8
    have hl2:=planLen_of (a:=p) (by omega)
    obtain ⟨hl3,hl4⟩:=planC_le (p:=p) (by omega)
    have hl6:=planTopC_nn p
    have hbl:=boss_lim (b:=b) (by omega)
    obtain ⟨b1,b2,b3,b4⟩:=small_boss (small_lim hbl)
    have hm1:messageLen m:=messageLen_of (a:=m) (by omega)
    have hm2:m.inputs.length ≤ 9223372036854775806:=hm1
    have hm3:messageSz m = m.text.size + (m.inputs.length + totS m.inputs):=rfl
    have hm4:=totS_nn m.inputs
    have hm5:messageTopC m = m.inputs.length:=rfl
    obtain ⟨r1,r2,r3,r4⟩:=small_led (btake_small p m hbl)
    refine i_laws_FnExactBossTake ?_
    conv=>whnf
    refine g 0 2 [] ?_
    conv=>whnf
    refine ⟨⟨⟨I,I,I,I,I,I,I,I,I,I,I,I,I⟩,⟨I,I⟩,⟨I,I,I,I,I,I,I,I,I⟩,I,I⟩,?_⟩
    refine g 0 0 [] ?_
    conv=>whnf
    refine ⟨⟨I,I⟩,?_⟩
    refine g 17 20 [.call (V.i ((1048576:Int) - bossSz b)) ([[],[]])] ?_
    conv=>whnf
    refine ⟨⟨I,I,⟨⟨I,I,I⟩,I,⟨⟨I,I,I,I,I,I,I,I,I,I,I,I,I⟩,⟨I,I⟩,I⟩,⟨I,I⟩,(by assumption)⟩,I,I⟩,?_⟩
    refine W.sq ?_
    refine g 20 21 [] ?_
    conv=>whnf
    refine ⟨⟨I,I,I⟩,?_⟩
    refine W.cn ?_
    conv=>whnf
    refine ⟨noT (dF (by omega)),fun _=>?_⟩
    refine W.skip ?_
    refine g 21 25 [.call (V.i ((1048576:Int) - bossSz b - planSz p)) ([[],[]])] ?_
    conv=>whnf
    refine ⟨⟨I,I,⟨⟨I,I,I⟩,I,⟨⟨I,I⟩,⟨I,I⟩,I⟩,⟨I,I⟩,(by assumption)⟩,I,I⟩,?_⟩
    refine W.sq ?_
    refine g 25 26 [] ?_
    conv=>whnf
    refine ⟨⟨I,I,I⟩,?_⟩
    refine W.cn ?_
    conv=>whnf
    refine ⟨noT (dF (by omega)),fun _=>?_⟩
    refine W.skip ?_
    refine g 26 30 [.call (V.i ((1048576:Int) - bossSz b - planSz p - messageSz m)) ([[],[]])] ?_
    conv=>whnf
    refine ⟨⟨I,I,⟨⟨I,I,I⟩,I,⟨⟨I,I,I,I,I,I,I,I,I⟩,⟨I,I⟩,I⟩,⟨I,I⟩,(by assumption)⟩,I,I⟩,?_⟩
    refine W.sq ?_
    refine g 7 31 [] ?_
    conv=>whnf
    refine ⟨⟨I,I,I⟩,?_⟩
    refine W.cn ?_
    conv=>whnf
    refine ⟨noT (dF (by omega)),fun _=>?_⟩
    refine W.skip ?_
    refine gd 31 39 [[],[.call (bossO b) ([[]])],[],[.call (planO p) ([[]])],[],[.call (messageO m) ([[]])],[.call (ledO (bTake b p m)) ([[],[],[]])],[],[]] ?_
    conv=>whnf
    refine ⟨⟨I,⟨⟨I,I⟩,I,⟨⟨I,I,I,I,I,I,I,I,I,I,I,I,I⟩,I⟩,⟨I,I⟩,Go.K.c_laws_toBoss _ (by omega)⟩,I,⟨⟨I,I⟩,I,⟨⟨I,I⟩,I⟩,⟨I,I⟩,Go.K.c_laws_toPlan _ (by omega)⟩,I,⟨⟨I,I⟩,I,⟨⟨I,I,I,I,I,I,I,I,I⟩,I⟩,⟨I,I⟩,Go.K.c_laws_toMessage _ (by omega)⟩,⟨⟨I,I,I,I⟩,I,⟨⟨I,I,I,I,I,I,I,I,I,I,I,I,I⟩,⟨I,I⟩,⟨I,I,I,I,I,I,I,I,I⟩,I⟩,⟨I,I⟩,Go.K.c_spec_BossTake _ _ _ (by omega) (by omega) (by omega)⟩,I,⟨I,I,I,I,I,I,I,I,I,I,I,I,I,I⟩,I⟩,by kernel_rfl,?_⟩
    refine g 39 41 [.call (bossO b) ([[]])] ?_
    conv=>whnf
    refine ⟨⟨I,⟨⟨I,I⟩,I,⟨⟨I,I,I,I,I,I,I,I,I,I,I,I,I⟩,I⟩,⟨I,I⟩,Go.K.c_laws_toBoss _ (by omega)⟩,I,⟨I,I,I,I,I,I,I,I,I,I,I,I,I⟩,I⟩,?_⟩
    refine g 41 43 [.call (planO p) ([[]])] ?_
    conv=>whnf
    refine ⟨⟨I,⟨⟨I,I⟩,I,⟨⟨I,I⟩,I⟩,⟨I,I⟩,Go.K.c_laws_toPlan _ (by omega)⟩,I,⟨I,I⟩,I⟩,?_⟩
    refine g 43 45 [.call (messageO m) ([[]])] ?_
    conv=>whnf
    refine ⟨⟨I,⟨⟨I,I⟩,I,⟨⟨I,I,I,I,I,I,I,I,I⟩,I⟩,⟨I,I⟩,Go.K.c_laws_toMessage _ (by omega)⟩,I,⟨I,I,I,I,I,I,I,I,I⟩,I⟩,?_⟩
    refine g 45 49 [.call (ledO (bTake b p m)) ([[],[],[]])] ?_
    conv=>whnf
    refine ⟨⟨I,I,I,⟨⟨I,I,I,I⟩,I,⟨⟨I,I,I,I,I,I,I,I,I,I,I,I,I⟩,⟨I,I⟩,⟨I,I,I,I,I,I,I,I,I⟩,I⟩,⟨I,I⟩,Go.K.c_impl_BossTake _ _ _ (by omega) (by omega) (by omega)⟩,I,⟨I,I,I,I,I,I,I,I,I,I,I,I,I,I⟩,I⟩,?_⟩
    refine W.sq ?_
    refine g 49 52 [.call (V.b (decide (bTake b p m = bTake b p m))) ([[],[]])] ?_
    conv=>whnf
    refine ⟨⟨I,I,⟨⟨I,I,I⟩,I,⟨⟨I,I,I,I,I,I,I,I,I,I,I,I,I,I⟩,⟨I,I,I,I,I,I,I,I,I,I,I,I,I,I⟩,I⟩,⟨I,I⟩,Go.K.c_laws_eqLed _ _ (by omega)⟩,I,I⟩,?_⟩
    refine W.cn ?_
    conv=>whnf
    refine ⟨noT (notF rfl),fun _=>?_⟩
    refine W.skip ?_
    refine W.sq ?_
    refine gd 52 57 [[],[],[.call (bossO b) ([[]])],[.call (V.b (decide (b = b))) ([[],[]])],[]] ?_
    conv=>whnf
    refine ⟨⟨I,I,⟨⟨I,I⟩,I,⟨⟨I,I,I,I,I,I,I,I,I,I,I,I,I⟩,I⟩,⟨I,I⟩,Go.K.c_laws_toBoss _ (by omega)⟩,⟨⟨I,I,I⟩,I,⟨⟨I,I,I,I,I,I,I,I,I,I,I,I,I⟩,⟨I,I,I,I,I,I,I,I,I,I,I,I,I⟩,I⟩,⟨I,I⟩,Go.K.c_laws_eqBoss _ _ (by omega)⟩,I,I⟩,by kernel_rfl,?_⟩
    refine W.cn ?_
    conv=>whnf
    refine ⟨noT (notF rfl),fun _=>?_⟩
    refine W.skip ?_
    refine W.sq ?_
    refine gd 57 62 [[],[],[.call (planO p) ([[]])],[.call (V.b (decide (p = p))) ([[],[]])],[]] ?_
    conv=>whnf
    refine ⟨⟨I,I,⟨⟨I,I⟩,I,⟨⟨I,I⟩,I⟩,⟨I,I⟩,Go.K.c_laws_toPlan _ (by omega)⟩,⟨⟨I,I,I⟩,I,⟨⟨I,I⟩,⟨I,I⟩,I⟩,⟨I,I⟩,Go.K.c_laws_eqPlan _ _ (by omega)⟩,I,I⟩,by kernel_rfl,?_⟩
    refine W.cn ?_
    conv=>whnf
    refine ⟨noT (notF rfl),fun _=>?_⟩
    refine W.skip ?_
    refine W.sq ?_
    refine gd 62 67 [[],[],[.call (messageO m) ([[]])],[.call (V.b (decide (m = m))) ([[],[]])],[]] ?_
    conv=>whnf
    refine ⟨⟨I,I,⟨⟨I,I⟩,I,⟨⟨I,I,I,I,I,I,I,I,I⟩,I⟩,⟨I,I⟩,Go.K.c_laws_toMessage _ (by omega)⟩,⟨⟨I,I,I⟩,I,⟨⟨I,I,I,I,I,I,I,I,I⟩,⟨I,I,I,I,I,I,I,I,I⟩,I⟩,⟨I,I⟩,Go.K.c_laws_eqMessage _ _ (by omega)⟩,I,I⟩,by kernel_rfl,?_⟩
    refine W.cn ?_
    conv=>whnf
    refine ⟨noT (notF rfl),fun _=>?_⟩
    refine W.skip ?_
    refine g 67 68 [] ?_
    conv=>whnf
    refine ⟨⟨I,I⟩,?_⟩
    refine g 68 71 [.call (V.i ((1:Int) + bossTopC b)) ([cellsOf (bossO (bossTop (1:Int) b)),[]])] ?_
    conv=>whnf
    refine ⟨⟨I,I,⟨⟨⟨I,I,I,I,I,I,I,I,I,I,I,I,I⟩,I,I⟩,I,⟨I,⟨I,I⟩,I⟩,⟨I,I⟩,Go.K.c_laws_markBoss _ _ (by omega) (by omega) (by omega)⟩,I,I⟩,?_⟩
    refine g 71 74 [.call (V.i ((1:Int) + bossTopC b + planTopC p)) ([cellsOf (planO (planTop ((1:Int) + bossTopC b) p)),[]])] ?_
    conv=>whnf
    refine ⟨⟨I,I,⟨⟨⟨I,I⟩,I,I⟩,I,⟨I,⟨I,I⟩,I⟩,⟨I,I⟩,Go.K.c_laws_markPlan _ _ (by omega) (by omega) (by omega)⟩,I,I⟩,?_⟩
    refine g 9 12 [.call (V.i ((1:Int) + bossTopC b + planTopC p + messageTopC m)) ([cellsOf (messageO (messageTop ((1:Int) + bossTopC b + planTopC p) m)),[]])] ?_
    conv=>whnf
    refine ⟨⟨I,I,⟨⟨⟨I,I,I,I,I,I,I,I,I⟩,I,I⟩,I,⟨I,⟨I,I⟩,I⟩,⟨I,I⟩,Go.K.c_laws_markMessage _ _ (by omega) (by omega) (by omega)⟩,I,I⟩,?_⟩
    refine W.sq ?_
    refine g 13 84 [.b (false),.b (false),.b (false),.call (V.b (decide (bTake b p m = bTake b p m))) ([[],[]]),.b (false),.b (false)] ?_
    conv=>whnf
    refine ⟨⟨I,I,I,⟨dF (by omega),I⟩,⟨dF (by omega),I⟩,⟨dF (by omega),⟨I,I,I⟩,I,⟨⟨I,I,I,I,I,I,I,I,I,I,I,I,I,I⟩,⟨I,I,I,I,I,I,I,I,I,I,I,I,I,I⟩,I⟩,⟨I,I⟩,Go.K.c_laws_eqLed _ _ (by omega)⟩,⟨dF (by omega),I⟩,dF (by omega),I⟩,?_⟩
    refine W.cn ?_
    conv=>whnf
    refine ⟨noT (by assumption),fun _=>?_⟩
    refine W.skip ?_
    refine g 2 3 [] ?_
    conv=>whnf
    refine ⟨⟨I,I⟩,?_⟩
    refine g 84 88 [.call (V.i ((1:Int) + ledTopC (bTake b p m))) ([cellsOf (ledO (ledTop (1:Int) (bTake b p m))),[]])] ?_
    conv=>whnf
    refine ⟨⟨I,I,⟨⟨⟨I,I,I,I,I,I,I,I,I,I,I,I,I,I⟩,I,I⟩,I,⟨I,⟨I,I⟩,I⟩,⟨I,I⟩,Go.K.c_laws_markLed _ _ (by omega) (by omega) (by omega)⟩,I,I⟩,?_⟩
    refine g 0 0 [] ?_
    conv=>whnf
    refine ⟨⟨I,I⟩,?_⟩
    refine g 88 91 [.call (V.i ((1:Int) + ledTopC (bTake b p m))) ([[],[]])] ?_
    conv=>whnf
    refine ⟨⟨I,I,⟨⟨I,I,I⟩,I,⟨⟨I,I,I,I,I,I,I,I,I,I,I,I,I,I⟩,⟨I,I⟩,I⟩,⟨I,I⟩,Go.K.c_laws_heldLed _ _ (by omega) (by omega) (by omega)⟩,I,I⟩,?_⟩
    refine W.sq ?_
    refine g 91 92 [] ?_
    conv=>whnf
    refine ⟨⟨I,I,I⟩,?_⟩
    refine W.cn ?_
    conv=>whnf
    refine ⟨noT (dF (by omega)),fun _=>?_⟩
    refine W.skip ?_
    refine W.sq ?_
    refine g 92 95 [] ?_
    conv=>whnf
    refine ⟨⟨I,I,I,I⟩,?_⟩
    refine W.cn ?_
    conv=>whnf
    refine ⟨noT (notF (by omega)),fun _=>?_⟩
    refine W.skip ?_
    refine gd 95 103 [[],[.call (bossO b) ([[]])],[],[.call (planO p) ([[]])],[],[.call (messageO m) ([[]])],[.call (ledO (bTake b p m)) ([[],[],[]])],[],[]] ?_
    conv=>whnf
    refine ⟨⟨I,⟨⟨I,I⟩,I,⟨⟨I,I,I,I,I,I,I,I,I,I,I,I,I⟩,I⟩,⟨I,I⟩,Go.K.c_laws_toBoss _ (by omega)⟩,I,⟨⟨I,I⟩,I,⟨⟨I,I⟩,I⟩,⟨I,I⟩,Go.K.c_laws_toPlan _ (by omega)⟩,I,⟨⟨I,I⟩,I,⟨⟨I,I,I,I,I,I,I,I,I⟩,I⟩,⟨I,I⟩,Go.K.c_laws_toMessage _ (by omega)⟩,⟨⟨I,I,I,I⟩,I,⟨⟨I,I,I,I,I,I,I,I,I,I,I,I,I⟩,⟨I,I⟩,⟨I,I,I,I,I,I,I,I,I⟩,I⟩,⟨I,I⟩,Go.K.c_impl_BossTake _ _ _ (by omega) (by omega) (by omega)⟩,I,⟨I,I,I,I,I,I,I,I,I,I,I,I,I,I⟩,I⟩,by kernel_rfl,?_⟩
    refine W.sq ?_
    refine g 16 106 [.call (V.b (decide (bTake b p m = bTake b p m))) ([[],[]])] ?_
    conv=>whnf
    refine ⟨⟨I,I,⟨⟨I,I,I⟩,I,⟨⟨I,I,I,I,I,I,I,I,I,I,I,I,I,I⟩,⟨I,I,I,I,I,I,I,I,I,I,I,I,I,I⟩,I⟩,⟨I,I⟩,Go.K.c_laws_eqLed _ _ (by omega)⟩,I,I⟩,?_⟩
    refine W.cn ?_
    conv=>whnf
    refine ⟨noT (by assumption),fun _=>?_⟩
    refine W.skip ?_
    refine g 3 4 [] ?_
    conv=>whnf
    refine ⟨⟨I,I⟩,?_⟩
    refine g 106 110 [.call (V.i ((1:Int) + ledTopC (bTake b p m))) ([[],[]])] ?_
    conv=>whnf
    refine ⟨⟨I,I,⟨⟨I,I,I⟩,I,⟨⟨I,I,I,I,I,I,I,I,I,I,I,I,I,I⟩,⟨I,I⟩,I⟩,⟨I,I⟩,Go.K.c_laws_heldLed _ _ (by omega) (by omega) (by omega)⟩,I,I⟩,?_⟩
    refine W.sq ?_
    refine g 8 13 [] ?_
    conv=>whnf
    refine ⟨⟨I,I,I⟩,?_⟩
    refine W.cn ?_
    conv=>whnf
    refine ⟨noT (by assumption),fun _=>?_⟩
    refine W.skip ?_
    refine W.sq ?_
    refine g 14 114 [] ?_
    conv=>whnf
    refine ⟨⟨I,I,I,I⟩,?_⟩
    refine W.cn ?_
    conv=>whnf
    refine ⟨noT (by assumption),fun _=>?_⟩
    refine W.skip ?_
    refine g 5 6 [] ?_
    conv=>whnf
    refine ⟨⟨I,I⟩,?_⟩
    refine W.ret ?_
    refine EndsW.rt ?_
    conv=>whnf
    refine ⟨⟨I,I,I⟩,?_,rfl⟩
    rfl
end Go.K
end
