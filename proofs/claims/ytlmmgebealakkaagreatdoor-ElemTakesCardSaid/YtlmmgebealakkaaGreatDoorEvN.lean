/- strings.Join in the evaluator's table: a text of our own in its place, which does the same. -/
import Derived.Test.YtlmmgebealakkaaGreatDoorEvC
import Derived.Shelf.Strings.OnBuilder
set_option linter.unusedSimpArgs false
set_option linter.unusedVariables false
namespace Go.Ev
open Go.Shelf Go.Proofs
def jop (d:Tmp) (op:Op):Oper:={ dst:=some d,op:=op,type:=0,pos := "",after:=#[],guard:=none }
def jnum (n:Int):Operand:=.const (.int .i64 n)
def jlen (t:TypeId) (x:Operand):Op:=.call { callee:=.builtin .len,args:=#[x],argTypes:=#[t] }
def jinit (ts tt ti:TypeId):Code:=.region 0 #[jop 6 (jlen tt (.tmp 1)),jop 4 (jlen ts (.tmp 0)),jop 2 (.move (jnum 0)),jop 3 (.move (.const (.string .empty))),jop 5 (.binOp .leq ti (.tmp 4) (jnum 140737488355328) ti)] false
def jtest (ti:TypeId):Code:=.region 1 #[jop 5 (.binOp .lss ti (.tmp 2) (.tmp 4) ti)] false
def jstep (ts tt ti:TypeId):Code:=.region 2 #[jop 6 (.indexAddr ts (.tmp 0) (.tmp 2)),jop 7 (.load tt (.tmp 6)),jop 8 (.binOp .eql ti (.tmp 2) (jnum 0) ti),
 jop 9 (.binOp .add tt (.tmp 1) (.tmp 7) tt),jop 10 (.binOp .add tt (.tmp 3) (.tmp 9) tt),jop 3 (.pick (.tmp 8) (.tmp 7) (.tmp 10)),jop 2 (.binOp .add ti (.tmp 2) (jnum 1) ti)] false
def jbody (ts tt ti:TypeId):Code:=.seq (jtest ti) (.seq (.cond (.tmp 5) .skip (.exit 0)) (jstep ts tt ti))
def jend (ts tt ti:TypeId):Code:=.region 3 #[jop 6 (jlen tt (.tmp 3)),jop 5 (.binOp .leq ti (.tmp 6) (jnum 140737488355328) ti)] false
def jcode (ts tt ti:TypeId):Code:=.seq (jinit ts tt ti) (.seq (.cond (.tmp 5) .skip (.exit 1)) (.seq (.block 0 (.loop (jbody ts tt ti))) (.seq (jend ts tt ti) (.cond (.tmp 5) .skip (.exit 1)))))
def joinFI (ts tt ti:TypeId):FI:=⟨jcode ts tt ti,[.tmp 3],11⟩
def extJ (sep:ByteArray):Nat→ByteArray→List ByteArray→ByteArray
 | _,acc,[]=>acc
 | i,acc,y::ys=>extJ sep (i+1) (if i=0 then y else acc++(sep++y)) ys
theorem extJ_tail (sep:ByteArray):∀ (ys:List ByteArray) (i:Nat) (acc:ByteArray),i≠0→(extJ sep i acc ys).data.toList=acc.data.toList++Lib.joinTail sep.data.toList (ys.map (·.data.toList))
 | [],i,acc,_=>by simp [extJ,Lib.joinTail]
 | y::ys,i,acc,h=>by
  rw [extJ,if_neg h,extJ_tail sep ys (i+1) _ (by omega)]
  simp [Lib.joinTail,ByteArray.data_append,List.append_assoc]
theorem extJ_join (sep:ByteArray) (ys:List ByteArray):(extJ sep 0 .empty ys).data.toList=Lib.join (ys.map (·.data.toList)) sep.data.toList:=by
 cases ys with
 | nil=>rfl
 | cons y ys=>rw [extJ,if_pos rfl,extJ_tail sep ys 1 y (by decide),List.map_cons,Lib.join_cons]
section
variable {T:Tab} {C:CallSem} {n:Nat} {g:FuncId} {ts tt ti:TypeId} (hs:∀ i,T ts=some i→i.d=.slice tt) (ht:∀ i,T tt=some i→i.d=.string∧i.size=1)
theorem jtest_inv {x0 x5 x6 x7 x8 x9 x10:Value} {sep acc:ByteArray} {i N:Nat} {H H':Heap} {e:AExit} {env':Env}
  (h:evalCode T C n g none (jtest ti) #[x0,.string sep,.int .i64 i,.string acc,.int .i64 N,x5,x6,x7,x8,x9,x10] H=some (e,env',H')) :
  e=.normal∧H'=H∧env'=#[x0,.string sep,.int .i64 i,.string acc,.int .i64 N,.bool (decide (i < N)),x6,x7,x8,x9,x10]:=by
 simp [jtest,evalCode,evalRegion,plainOp,jop,jnum,evalSeq,Region.wanted,astep,okind,aval,apure,evOp,abin,intBin,cput] at h
 obtain ⟨rfl,rfl,rfl⟩:=h
 simp
include hs ht in
theorem jstep_inv {p:Option Addr} {c:Nat} {x5 x6 x7 x8 x9 x10:Value} {sep acc:ByteArray} {i N:Nat} {H H':Heap} {e:AExit} {env':Env} (hi:i < N) (hN:N≤140737488355328)
  (h:evalCode T C n g none (jstep ts tt ti) #[.slice p N c,.string sep,.int .i64 i,.string acc,.int .i64 N,x5,x6,x7,x8,x9,x10] H=some (e,env',H')) :
  ∃ b off y,p=some ⟨b,off,none⟩∧H.read b (off+i) 1=some [.string y]∧e=.normal∧H'=H ∧
   ∃ y6 y7 y8 y9 y10,env'=#[.slice p N c,.string sep,.int .i64 ((i+1:Nat):Int),.string (if i=0 then y else acc++(sep++y)),.int .i64 N,x5,y6,y7,y8,y9,y10]:=by
 have e7:List.range 7=[0,1,2,3,4,5,6]:=rfl
 cases hT:T ts with
 | none=>simp [jstep,evalCode,evalRegion,plainOp,jop,jnum,e7,evalSeq,Region.wanted,astep,okind,aval,apure,aread,hT] at h
 | some is =>
  have hd:=hs is hT
  cases p with
  | none=>simp [jstep,evalCode,evalRegion,plainOp,jop,jnum,e7,evalSeq,Region.wanted,astep,okind,aval,apure,aread,hT,hd,evOp,asI] at h
  | some a =>
   obtain ⟨b,off,sp⟩:=a
   cases sp with
   | some _=>simp [jstep,evalCode,evalRegion,plainOp,jop,jnum,e7,evalSeq,Region.wanted,astep,okind,aval,apure,aread,hT,hd,evOp,asI] at h
   | none =>
   cases hU:T tt with
   | none=>simp [jstep,evalCode,evalRegion,plainOp,jop,jnum,e7,evalSeq,Region.wanted,astep,okind,aval,apure,aread,hT,hU,hd,evOp,asI] at h
   | some it =>
    obtain ⟨hd1,hd2⟩:=ht it hU
    have hi0:(0:Int)≤i∧(i:Int) < N:=by omega
    simp [jstep,evalCode,evalRegion,plainOp,jop,jnum,e7,evalSeq,Region.wanted,astep,okind,aval,apure,aread,hT,hU,hd,evOp,asI,hi,cput,hd1,hd2,isAggD] at h
    cases hr:H.read b (off+i) 1 with
    | none=>simp [hr] at h
    | some cs =>
     cases cs with
     | nil=>simp [hr,ofCells,hd1,isAggD] at h
     | cons v cs =>
      cases cs with
      | cons _ _=>simp [hr,ofCells,hd1,isAggD] at h
      | nil =>
       cases v with
       | string y =>
        have hw:IntKind.i64.wrap ((i:Int)+1)=((i+1:Nat):Int):=by
         rw [wrap_small (by omega) (by omega)];omega
        by_cases h1:sep.size+y.size≤9223372036854775807
        ·by_cases h2:acc.size+(sep.size+y.size)≤9223372036854775807
         ·by_cases h0:i=0
          ·subst h0
           have hr':H.read b off 1=some [.string y]:=by simpa using hr
           have hw1:IntKind.i64.wrap 1=1:=wrap_small (by decide) (by decide)
           simp [hr',hw1,ofCells,hd1,isAggD,constOK,constOK1,abin,intBin,strBin,h1,h2] at h
           obtain ⟨_,_,⟨rfl,rfl⟩,rfl,rfl,rfl⟩:=h
           exact ⟨b,off,y,rfl,by simpa using hr,rfl,rfl,_,_,_,_,_,by simp;exact ⟨rfl,rfl,rfl,rfl,rfl⟩⟩
          ·have hne:((i:Int)==0)=false:=by simpa using h0
           simp [hr,ofCells,hd1,isAggD,constOK,constOK1,abin,intBin,strBin,hw,h1,h2,hne,h0] at h
           obtain ⟨_,_,⟨rfl,rfl⟩,rfl,rfl,rfl⟩:=h
           exact ⟨b,off,y,rfl,by simpa using hr,rfl,rfl,_,_,_,_,_,by simp [h0];exact ⟨rfl,rfl,rfl,rfl,rfl⟩⟩
         ·simp [hr,ofCells,hd1,isAggD,constOK,constOK1,abin,intBin,strBin,hw,h1,h2] at h
        ·simp [hr,ofCells,hd1,isAggD,constOK,constOK1,abin,intBin,strBin,hw,h1] at h
       | _=>simp [hr,ofCells,hd1,isAggD,constOK,constOK1,abin,intBin] at h
theorem read_cons {H:Heap} {b off:Nat} {v:Value} (h:H.read b off 1=some [v]):∃ vs wr g,H.get b=some (.cells vs wr g)∧vs[off]?=some v:=by
 unfold Heap.read at h
 split at h
 ·rename_i vs wr gg hg
  refine ⟨vs,wr,gg,hg,?_⟩
  unfold getCells at h
  split at h
  ·simp only [Option.some.injEq] at h
   have:=congrArg (·[0]?) h
   simpa [List.getElem?_take] using this
  ·cases h
 ·cases h
include hs ht in
theorem jloop_inv {c N:Nat} {p:Option Addr} {sep:ByteArray} (hN:N≤140737488355328):∀ (m:Nat) {x5 x6 x7 x8 x9 x10:Value} {acc:ByteArray} {i:Nat} {H H':Heap} {e:AExit} {env':Env},i≤N →
  loopN (evalCode T C n g none (jbody ts tt ti)) m #[.slice p N c,.string sep,.int .i64 i,.string acc,.int .i64 N,x5,x6,x7,x8,x9,x10] H=some (e,env',H') →
  e=.exit 0∧H'=H∧∃ ys:List ByteArray,ys.length+i=N∧(∀ j y,ys[j]?=some y→∃ b off,p=some ⟨b,off,none⟩∧H.read b (off+(i+j)) 1=some [.string y]) ∧
   ∃ z2 z5 z6 z7 z8 z9 z10,env'=#[.slice p N c,.string sep,z2,.string (extJ sep i acc ys),.int .i64 N,z5,z6,z7,z8,z9,z10]
 | 0,_,_,_,_,_,_,_,_,_,_,_,_,_,h=>by cases h
 | m+1,x5,x6,x7,x8,x9,x10,acc,i,H,H',e,env',hi,h=>by
  simp only [loopN] at h
  cases hb:evalCode T C n g none (jbody ts tt ti) #[.slice p N c,.string sep,.int .i64 i,.string acc,.int .i64 N,x5,x6,x7,x8,x9,x10] H with
  | none=>rw [hb] at h;cases h
  | some r =>
   obtain ⟨e1,env1,H1⟩:=r
   rw [hb] at h
   simp only [jbody,evalCode] at hb
   cases ht1:evalCode T C n g none (jtest ti) #[.slice p N c,.string sep,.int .i64 i,.string acc,.int .i64 N,x5,x6,x7,x8,x9,x10] H with
   | none=>rw [ht1] at hb;cases hb
   | some r =>
    obtain ⟨e2,env2,H2⟩:=r
    obtain ⟨rfl,rfl,rfl⟩:=jtest_inv ht1
    rw [ht1] at hb
    by_cases hlt:i < N
    ·simp [evOp,hlt] at hb
     obtain ⟨b,off,y,rfl,q1,rfl,rfl,y6,y7,y8,y9,y10,rfl⟩:=jstep_inv hs ht hlt hN hb
     simp only at h
     obtain ⟨a1,a2,ys,a3,a4,a5⟩:=jloop_inv hN m (by omega) h
     refine ⟨a1,a2,y::ys,by simp;omega,fun j z hz=>?_,?_⟩
     ·cases j with
      | zero=>simp at hz;subst hz;exact ⟨b,off,rfl,by simpa using q1⟩
      | succ j =>
       obtain ⟨b',off',k1,k2⟩:=a4 j z (by simpa using hz)
       exact ⟨b',off',k1,by rw [show off'+(i+(j+1))=off'+(i+1+j) by omega];exact k2⟩
     ·exact a5
    ·simp [evOp,hlt] at hb
     obtain ⟨rfl,rfl,rfl⟩:=hb
     simp only [Option.some.injEq,Prod.mk.injEq] at h
     obtain ⟨rfl,rfl,rfl⟩:=h
     exact ⟨rfl,rfl,[],by simp;omega,fun j y hy=>by simp at hy,_,_,_,_,_,_,_,rfl⟩
end
theorem joinFI_inv {T:Tab} {F:FTab} {C:CallSem} {n:Nat} {g:FuncId} {ts tt ti:TypeId} (hs:∀ i,T ts=some i→i.d=.slice tt) (ht:∀ i,T tt=some i→i.d=.string∧i.size=1)
  {args:List Value} {H H':Heap} {v:Value} (hF:F g args.length=some (joinFI ts tt ti)) (hlen:args.length=2) (h:callFn T F C n g args H=some (v,H')) :
  H'=H∧∃ p N c sep ys,args=[.slice p N c,.string sep]∧ys.length=N∧N≤140737488355328∧(∀ j y,ys[j]?=some y→∃ b off,p=some ⟨b,off,none⟩∧H.read b (off+j) 1=some [.string y]) ∧
   v=.string (extJ sep 0 .empty ys)∧(extJ sep 0 .empty ys).size≤140737488355328:=by
 obtain ⟨a0,a1,rfl⟩:∃ a b,args=[a,b]:=by
  match args,hlen with
  | [a,b],_=>exact ⟨a,b,rfl⟩
 unfold callFn at h
 rw [hF] at h
 simp only [joinFI] at h
 rw [show ([a0,a1]:List Value).toArray++Array.replicate (11 - [a0,a1].length) undef=#[a0,a1,undef,undef,undef,undef,undef,undef,undef,undef,undef] from rfl] at h
 have e5:List.range 5=[0,1,2,3,4]:=rfl
 have e2:List.range 2=[0,1]:=rfl
 -- the beginning
 have hinit:∀ {e:AExit} {env':Env} {H1:Heap},evalCode T C n g none (jinit ts tt ti) #[a0,a1,undef,undef,undef,undef,undef,undef,undef,undef,undef] H=some (e,env',H1) →
   e=.normal∧H1=H∧∃ p N c sep,a0=.slice p N c∧a1=.string sep∧env'=#[.slice p N c,.string sep,.int .i64 (0:Nat),.string .empty,.int .i64 N,.bool (decide (N≤140737488355328)),goInt sep.size,undef,undef,undef,undef]:=by
  intro e env' H1 hh
  cases hU:T tt with
  | none=>simp [jinit,jlen,evalCode,evalRegion,plainOp,jop,jnum,e5,evalSeq,Region.wanted,astep,okind,aval,apure,aread,pureBuiltin,readBuiltin,hU] at hh
  | some it =>
   obtain ⟨hd1,hd2⟩:=ht it hU
   cases a1 with
   | string sep =>
    cases hT:T ts with
    | none=>simp [jinit,jlen,evalCode,evalRegion,plainOp,jop,jnum,e5,evalSeq,Region.wanted,astep,okind,aval,apure,aread,pureBuiltin,readBuiltin,hT,hU,hd1,evOp,cput] at hh
    | some is =>
     have hd:=hs is hT
     cases a0 with
     | slice p N c =>
      simp [jinit,jlen,evalCode,evalRegion,plainOp,jop,jnum,e5,evalSeq,Region.wanted,astep,okind,aval,apure,aread,pureBuiltin,readBuiltin,hT,hU,hd,hd1,evOp,cput,constOK,constOK1,abin,intBin,goInt] at hh
      obtain ⟨rfl,rfl,rfl⟩:=hh
      refine ⟨rfl,rfl,p,N,c,sep,rfl,rfl,?_⟩
      simp [goInt]
      omega
     | _=>simp [jinit,jlen,evalCode,evalRegion,plainOp,jop,jnum,e5,evalSeq,Region.wanted,astep,okind,aval,apure,aread,pureBuiltin,readBuiltin,hT,hU,hd,hd1,evOp,cput] at hh
   | _=>simp [jinit,jlen,evalCode,evalRegion,plainOp,jop,jnum,e5,evalSeq,Region.wanted,astep,okind,aval,apure,aread,pureBuiltin,readBuiltin,hU,hd1,evOp,cput] at hh
 have hend:∀ {x0 x1 x2 x4 x5 x6 x7 x8 x9 x10:Value} {s:ByteArray} {e:AExit} {env':Env} {H1 H2:Heap},evalCode T C n g none (jend ts tt ti) #[x0,x1,x2,.string s,x4,x5,x6,x7,x8,x9,x10] H1=some (e,env',H2) →
   e=.normal∧H2=H1∧env'=#[x0,x1,x2,.string s,x4,.bool (decide (s.size≤140737488355328)),goInt s.size,x7,x8,x9,x10]:=by
  intro x0 x1 x2 x4 x5 x6 x7 x8 x9 x10 s e env' H1 H2 hh
  cases hU:T tt with
  | none=>simp [jend,jlen,evalCode,evalRegion,plainOp,jop,jnum,e2,evalSeq,Region.wanted,astep,okind,aval,apure,aread,pureBuiltin,readBuiltin,hU] at hh
  | some it =>
   obtain ⟨hd1,hd2⟩:=ht it hU
   simp [jend,jlen,evalCode,evalRegion,plainOp,jop,jnum,e2,evalSeq,Region.wanted,astep,okind,aval,apure,aread,pureBuiltin,readBuiltin,hU,hd1,evOp,cput,constOK,constOK1,abin,intBin,goInt] at hh
   obtain ⟨rfl,rfl,rfl⟩:=hh
   simp [goInt]
   omega
 simp only [jcode,evalCode] at h
 cases h1:evalCode T C n g none (jinit ts tt ti) #[a0,a1,undef,undef,undef,undef,undef,undef,undef,undef,undef] H with
 | none=>rw [h1] at h;cases h
 | some r =>
  obtain ⟨e1,env1,H1⟩:=r
  obtain ⟨rfl,rfl,p,N,c,sep,rfl,rfl,rfl⟩:=hinit h1
  rw [h1] at h
  by_cases hN:N≤140737488355328
  ·have ev5:evOp #[Value.slice p N c,.string sep,.int .i64 (0:Nat),.string .empty,.int .i64 N,.bool (decide (N≤140737488355328)),goInt sep.size,undef,undef,undef,undef] (.tmp 5)=some (.bool true):=by simp [evOp,hN]
   simp only [ev5] at h
   cases h2:loopN (evalCode T C n g none (jbody ts tt ti)) n #[Value.slice p N c,.string sep,.int .i64 (0:Nat),.string .empty,.int .i64 N,.bool (decide (N≤140737488355328)),goInt sep.size,undef,undef,undef,undef] H1 with
   | none=>rw [h2] at h;cases h
   | some r =>
    obtain ⟨e2,env2,H2⟩:=r
    obtain ⟨rfl,rfl,ys,q1,q2,z2,z5,z6,z7,z8,z9,z10,rfl⟩:=jloop_inv hs ht hN n (Nat.zero_le _) h2
    rw [h2] at h
    simp only [if_true] at h
    cases h3:evalCode T C n g none (jend ts tt ti) #[.slice p N c,.string sep,z2,.string (extJ sep 0 .empty ys),.int .i64 N,z5,z6,z7,z8,z9,z10] H2 with
    | none=>rw [h3] at h;cases h
    | some r =>
     obtain ⟨e3,env3,H3⟩:=r
     obtain ⟨rfl,rfl,rfl⟩:=hend h3
     rw [h3] at h
     by_cases hz:(extJ sep 0 .empty ys).size≤140737488355328
     ·simp [evOp,hz,aresults,aresult,outOf] at h
      obtain ⟨rfl,rfl⟩:=h
      exact ⟨rfl,p,N,c,sep,ys,rfl,by omega,hN,fun j y hy=>by simpa using q2 j y hy,rfl,hz⟩
     ·simp [evOp,hz] at h
  ·simp [evOp,hN] at h
theorem ba_of_list {s:ByteArray} {l:List UInt8} (h:s.data.toList=l):s=⟨l.toArray⟩:=by
 cases s with
 | mk d=>simp at h;subst h;simp
theorem join_nat {P:Program} {ρ:Shelf.Ren} (L:Lays.n156 P ρ) (X:Builder.Extra P ρ):NatOK P (ρ.f 156) 2 (joinFI (ρ.t 31) (ρ.t 9) (ρ.t 3)):=by
 intro T tok F C n args H v H' hF hlen h r w cargs ra R cs
 have hs:∀ i,T (ρ.t 31)=some i→i.d=.slice (ρ.t 9):=fun i hi=>by
  have:=tok.und _ _ hi;rw [L.t31] at this;exact (Option.some.inj this).symm
 have ht:∀ i,T (ρ.t 9)=some i→i.d=.string∧i.size=1:=fun i hi=>by
  refine ⟨by have:=tok.und _ _ hi;rw [L.t9] at this;exact (Option.some.inj this).symm,?_⟩
  have h1:=tok.r_size hi w
  rw [L.z9 w] at h1
  simpa using h1.symm
 rw [←hlen] at hF
 obtain ⟨rfl,p,N,c,sep,ys,rfl,hy,hN,hc,rfl,hz⟩:=joinFI_inv hs ht hF hlen h
 have hj:=extJ_join sep ys
 have hv:=ba_of_list hj
 have fin:∀ cargs:List Value,(Calls P (ρ.f 156) cargs.toArray w fun e w'=>e=.returned (.string (extJ sep 0 .empty ys))∧RowKit.Below w.heap.size w w') →
   ∃ r' w' cv,(∃ fr,Steps P (lone (Frame.enter P (ρ.f 156) cargs.toArray .normal) cs w) (lone fr cs w')∧fr.fn=ρ.f 156∧fr.leaving P w' (.returned cv))∧VRel r' (.string (extJ sep 0 .empty ys)) cv∧Stp r H' w r' H' w'∧Rel r' H' w':=by
  intro cargs hcall
  obtain ⟨e,w',fr,⟨rfl,hb⟩,p1,p2,p3⟩:=hcall cs
  refine ⟨r,w',_,⟨fr,p1,p2,p3⟩,.string _,?_,?_⟩
  ·exact ⟨Ren.le_refl _,fun _ _ h=>.inl h,Nat.le_refl _,fun _ _ _=>rfl,hb.size,fun _ h=>.inl h,fun i hi _=>hb.block i hi,hb.os,hb.tape,hb.output⟩
  ·refine ⟨R.wf,R.dom,fun b l h=>Nat.lt_of_lt_of_le (R.cdom b l h) hb.size,fun b l o h1 h2=>?_,R.sep⟩
   rw [hb.block _ (R.cdom b l h1)]
   exact R.live b l o h1 h2
 cases ra with
 | cons r1 r2 =>
  cases r2 with
  | cons r2 r3 =>
   cases r3
   cases r2
   have empt:∀ (a:Option Addr) (c:Nat),N=0→∃ r' w' cv,(∃ fr,Steps P (lone (Frame.enter P (ρ.f 156) ([.slice a 0 c,.string sep]:List Value).toArray .normal) cs w) (lone fr cs w')∧fr.fn=ρ.f 156∧fr.leaving P w' (.returned cv))∧VRel r' (.string (extJ sep 0 .empty ys)) cv∧Stp r H' w r' H' w'∧Rel r' H' w':=by
    intro a c h0
    have hys:ys=[]:=List.eq_nil_of_length_eq_zero (by omega)
    refine fin _ ((Any.strings_Join_none L X a c sep w).mono fun e w' ⟨he,hw⟩=>⟨?_,hw▸RowKit.Below.refl _ _⟩)
    rw [he,hys];rfl
   cases r1 with
   | nilslice=>exact empt _ _ rfl
   | empty b off a l hl=>exact empt _ _ rfl
   | slice b off _ _ c' l hl hn hcap =>
    have hc':N≤c':=by rcases hcap with rfl|⟨_,_,h,_⟩<;>omega
    by_cases h0:N=0
    ·subst h0;exact empt _ _ rfl
    ·have hread:∀ j y,ys[j]?=some y→H'.read b (off+j) 1=some [.string y]:=by
      intro j y hy'
      obtain ⟨b',off',e,k⟩:=hc j y hy'
      cases e;exact k
     refine fin _ ?_
     have hcells:∀ (j:Nat) x,ys[j]?=some x→w.cell? ⟨l.cb,l.base+off+j,none⟩=some (.string x):=by
      intro j x hx
      obtain ⟨vs,wr,gg,hg,hvs⟩:=read_cons (hread j x hx)
      obtain ⟨o1,o2,o3,Cc,et,fz,o4,o5,o6,o7⟩:=R.live b l _ hl hg
      obtain ⟨cv,c1,c2⟩:=o6 (off+j) _ hvs
      cases c2
      simp only [World.cell?,o4]
      simpa [Nat.add_assoc] using c1
     have:=Any.strings_Join L X l.cb (l.base+off) c' ys sep w hcells (R.cdom b l hl) (by omega) (by omega) (by rw [←hj];simpa using hz)
     rw [hy] at this
     refine this.mono fun e w' ⟨he,hb⟩=>⟨?_,hb⟩
     rw [he,hv]
end Go.Ev
