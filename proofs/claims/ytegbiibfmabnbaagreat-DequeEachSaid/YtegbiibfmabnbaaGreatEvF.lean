/- Structs that are built; elements of what is owned; copy; rows of rows that are owned. -/
import Derived.Test.YtegbiibfmabnbaaGreatEvE
import Derived.KernelRfl
import Derived.ChangeArms
import GoSem.ClaimJoined
import Derived.Carry
import Derived.WideShapes
import Derived.ChangeShapes
set_option linter.unusedSimpArgs false
set_option linter.unusedVariables false
set_option linter.unusedSectionVars false
namespace Go.Ev
def nthP:List (Nat×Nat)→Nat→Option (Nat×Nat)
 | [],_=>none
 | x::_,0=>some x
 | _::r,i+1=>nthP r i
theorem nthP_eq:∀ (l:List (Nat×Nat)) (i:Nat),nthP l i=l[i]?
 | [],i=>by simp [nthP]
 | x::l,0=>rfl
 | x::l,i+1=>by simp [nthP,nthP_eq l]
def fieldsL (T:Tab):List Field→Option (List (Nat×Nat))
 | []=>some []
 | f::r=>match T f.type,fieldsL T r with
  | some i,some l=>some ((f.offset,i.size)::l)
  | _,_=>none
theorem fieldsL_eq {T:Tab}:∀ {l:List Field} {r:List (Nat×Nat)},fieldsL T l=some r→fieldsOf T l=some r
 | [],r,h=>by simpa [fieldsL,fieldsOf] using h
 | f::l,r,h=>by
  simp only [fieldsL] at h
  split at h
  ·rename_i i l' hi hl
   cases h
   simp [fieldsOf,hi,fieldsL_eq hl]
  ·cases h
def olp (b sz:Nat) (v:Value) (m:Nat) (vs:List Value):SA where
 p:=fun _ s=>∃ (g c:Nat) (xs:List Value),v=.slice (some ⟨b,0,none⟩) m c∧m≤c∧xs.length=c*sz∧xs.take (m*sz)=vs∧(g=0∨g=sz)∧okCells xs=true∧s=[(b,.cells xs true g)]
 mono:=fun _ h=>h
theorem olp.ol {b sz:Nat} {v:Value} {m:Nat} {vs:List Value} {Z:Zone} {s:List Cel} (h:(olp b sz v m vs).p Z s):(Go.Ev.ol sz v m vs).p Z s:=by
 obtain ⟨g,c,xs,h1,h2,h3,h4,h5,h6,h7⟩:=h;exact .inr (.inr ⟨b,g,c,xs,h1,h2,h3,h4,h5,h6,h7⟩)
theorem take_set (xs cs:List Value) (off n:Nat) (h:off+cs.length≤n):(xs.take off++(cs++xs.drop (off+cs.length))).take n=(xs.take n).take off++(cs++(xs.take n).drop (off+cs.length)):=by
 rw [List.take_append,List.take_append,List.take_take,List.take_take]
 have h1:min n off=off:=by omega
 have h2:min off n=off:=by omega
 rw [h1,h2]
 congr 1
 by_cases hl:xs.length≤off
 ·rw [List.length_take,Nat.min_eq_right hl]
  have e1:xs.drop (off+cs.length)=[]:=List.drop_eq_nil_of_le (by omega)
  have e2:(xs.take n).drop (off+cs.length)=[]:=List.drop_eq_nil_of_le (by simp;omega)
  rw [e1,e2,List.take_of_length_le (by omega)];simp
 ·rw [List.length_take,Nat.min_eq_left (by omega),List.take_of_length_le (by omega)]
  congr 1
  rw [List.drop_take]
  congr 1
  omega
section
variable {M:Mach} {fn:FuncId} {rd:Option Nat} {n:Nat} {Q:PQ} {k:List KI} {L:Lo} {Z:Zone} {A:List SA}
variable {ops:Array Oper} {dr:Bool} {pl:List Ro} {ps:List Pn} {i m d:Nat} {ty:TypeId} {pos:String} {af:Array Edge} {g:Option (Nat×Bool)}
theorem Wk.build {t:TypeId} {parts:Array (Nat×Operand)} {fs:Array Field} {sz by_:Nat} {z:List Value} {cm:Bool} {fl:List (Nat×Nat)} {pv:List (Nat×Value)} {cs:List Value} (hi:M.T t=some ⟨.struct fs,sz,by_,z,cm⟩) (hp:evpsL L parts.toList=some pv) (hf:fieldsL M.T fs.toList=some fl) (hfill:fillL (nthP fl) z pv=some cs)
  (hw:wantL ops L g=some true) (hd:Nat.blt d n=true) (c:Wk M fn rd n Q (.r ops dr pl ps::k) ((d,.agg ⟨cs⟩)::L) Z A) :
  Wk M fn rd n Q (.r ops dr (⟨i,m,⟨some d,.build t parts,ty,pos,af,g⟩⟩::pl) ps::k) L Z A :=
 Wk.p rfl rfl (.pure fun env h=>by
  have hpl:(fun x=>fl.toArray[x]?)=nthP fl:=by funext x;rw [nthP_eq];simp
  simp only [apure,hi,h.evps hp,Option.bind_eq_bind,Option.bind_some,fieldsL_eq hf,hpl,fillL_eq,hfill,Option.map_some]) hw hd c
theorem veq_slice (a:Option Addr) (n c:Nat):veq (.slice a n c) (.slice a n c)=true:=by simp [veq,veq1]
theorem veq_int (q:IntKind) (n:Int):veq (.int q n) (.int q n)=true:=by simp [veq,veq1]
theorem Sl.veq {sz:Nat} {v:Value} {m:Nat} {vs:List Value} (h:Sl Z sz v m vs):Go.Ev.veq v v=true:=by obtain ⟨a,c,rfl⟩:=h.form;exact veq_slice a _ c
theorem Wk.callD {f:Operand} {args:Array Operand} {tys:Array TypeId} {fv:Value} {as:List Value} {A1 A2:List SA} {Q1:Value→Zone→List SA→Prop} (hf:evL L f=some fv) (ha:evsL L args.toList=some as) (p:Spl A A1 A2) (spec:Cz M fv as Z A1 Q1)
  (hw:wantL ops L g=some true) (hd:Nat.blt d n=true) (c:∀ v Z' A',Ext Z Z'→Q1 v Z' A'→PnAll M (keepP m ps) Z' (A'++A2)∧Wk M fn rd n Q (.r ops dr pl (keepP m ps)::k) ((d,v)::L) Z' (A'++A2)) :
  Wk M fn rd n Q (.r ops dr (⟨i,m,⟨some d,.call ⟨.value f,args,tys⟩,ty,pos,af,g⟩⟩::pl) ps::k) L Z A :=
 Wk.e hw rfl hd (Ef.call hf ha p spec c)
theorem Wk.appendD {t u e:TypeId} {s x:Operand} {as:Array Operand} {ats:Array TypeId} {v w:Value} {tz tb sz by_ mm kk:Nat} {tzz z:List Value} {tc cm:Bool} {de:TypeDesc} {iu:TI} {vs new:List Value} {B:List SA}
  (ha:as.toList=[s,x]) (hat:ats.toList=[t,u]) (ht:M.T t=some ⟨.slice e,tz,tb,tzz,tc⟩) (hu:M.T u=some iu) (hnI:notInt iu.d=true) (he:M.T e=some ⟨de,sz,by_,z,cm⟩)
  (hs:evL L s=some v) (hx:evL L x=some w) (p:Rem A (ol sz v mm vs) B) (src:Src Z B sz w kk new) (hsz:Nat.blt 0 sz=true) (hok:okCells new=true) (hlen:new.length=kk*sz) (hb:by_*(mm+kk)≤140737488355328) (hb':mm+kk≤140737488355328)
  (hw:wantL ops L g=some true) (hd:Nat.blt d n=true) (c:∀ v',PnAll M (keepP m ps) Z (ol sz v' (mm+kk) (vs++new)::B)∧Wk M fn rd n Q (.r ops dr pl (keepP m ps)::k) ((d,v')::L) Z (ol sz v' (mm+kk) (vs++new)::B)) :
  Wk M fn rd n Q (.r ops dr (⟨i,m,⟨some d,.call ⟨.builtin .append,as,ats⟩,ty,pos,af,g⟩⟩::pl) ps::k) L Z A :=
 Wk.e hw rfl hd (Ef.append ha hat ht hu hnI he hs hx p src hsz hok hlen hb hb' c)
theorem Wk.olOpenr {sz:Nat} {v:Value} {mm:Nat} {vs:List Value} {B:List SA} (p:Rem A (ol sz v mm vs) B) (hm:0 < mm) (c:∀ b,Wk M fn rd n Q (.r ops dr pl ps::k) L Z (olp b sz v mm vs::B)):Wk M fn rd n Q (.r ops dr pl ps::k) L Z A:=by
 intro ms hms qs hq env H φ h1 h2 h3
 obtain ⟨s,t,k1,k2,k3⟩:=h3.rem p
 rcases k1 with ⟨_,rfl,_⟩|⟨_,_,_,_,_,_,_,_,_,_,rfl,_⟩|⟨b,gg,cp,xs,hx⟩
 ·omega
 ·omega
 ·exact c b ms hms qs hq env H φ h1 h2 ⟨s++t,.cons (P:=olp b sz v mm vs) ⟨gg,cp,xs,hx⟩ k2,by rw [List.append_assoc];exact k3⟩
theorem Wk.olOpen {cd:Code} {sz:Nat} {v:Value} {mm:Nat} {vs:List Value} {B:List SA} (p:Rem A (ol sz v mm vs) B) (hm:0 < mm) (c:∀ b,Wk M fn rd n Q (.c cd::k) L Z (olp b sz v mm vs::B)):Wk M fn rd n Q (.c cd::k) L Z A:=by
 intro env H φ h1 h2 h3
 obtain ⟨s,t,k1,k2,k3⟩:=h3.rem p
 rcases k1 with ⟨_,rfl,_⟩|⟨_,_,_,_,_,_,_,_,_,_,rfl,_⟩|⟨b,gg,cp,xs,hx⟩
 ·omega
 ·omega
 ·exact c b env H φ h1 h2 ⟨s++t,.cons (P:=olp b sz v mm vs) ⟨gg,cp,xs,hx⟩ k2,by rw [List.append_assoc];exact k3⟩
theorem Wk.iaOlp {t e:TypeId} {x ix:Operand} {sz by_:Nat} {z:List Value} {cm:Bool} {de:TypeDesc} {es eb:Nat} {ez:List Value} {ec:Bool} {q:IntKind} {j':Int} {v:Value} {len b:Nat} {vs:List Value} {B:List SA} (j:Nat) (p:Rem A (olp b es v len vs) B) (hw:wantL ops L g=some true) (hd:Nat.blt d n=true) (hi:M.T t=some ⟨.slice e,sz,by_,z,cm⟩) (hj:M.T e=some ⟨de,es,eb,ez,ec⟩)
  (hix:evL L ix=some (.int q j')) (hx:evL L x=some v) (e1:j'=(j:Int)) (e2:j < len)
  (c:Wk M fn rd n Q (.r ops dr pl ps::k) ((d,.pointer (some ⟨b,j*es,none⟩))::L) Z A):Wk M fn rd n Q (.r ops dr (⟨i,m,⟨some d,.indexAddr t x ix,ty,pos,af,g⟩⟩::pl) ps::k) L Z A:=by
 refine Wk.knowr (R:=∃ c,v=.slice (some ⟨b,0,none⟩) len c) p (fun s ⟨_,cp,_,h,_⟩=>⟨cp,h⟩) ?_
 rintro ⟨cp,rfl⟩
 have hr:=Rd.ia (M:=M) (Z:=Z) (A:=A) j hi hj hix hx e1 e2
 rw [Nat.zero_add] at hr
 exact Wk.p rfl rfl hr hw hd c
theorem Rd.loadOlp {t:TypeId} {x:Operand} {i':TI} {b off sz mm:Nat} {w:Value} {vs cs:List Value} {v:Value} {B:List SA} (hi:M.T t=some i') (hx:evL L x=some (.pointer (some ⟨b,off,none⟩))) (p:Rem A (olp b sz w mm vs) B) (hg:getCells vs off (if isAggD i'.d then i'.size else 1)=some cs) (ho:ofCells i' cs=some v):Rd M (.load t x) L Z A v:=by
 intro env H φ h1 h2
 obtain ⟨s,u,q1,q2,q3⟩:=h2.rem p
 obtain ⟨gg,cp,xs,_,hc,hl,rfl,_,_,rfl⟩:=q1
 have hget:H.get b=some (.cells xs true gg):=q3.own (b,.cells xs true gg) (by simp)
 have hle:mm*sz≤xs.length:=by rw [hl];exact Nat.mul_le_mul_right _ hc
 have hr:H.read b off (if isAggD i'.d then i'.size else 1)=some cs:=by
  simp only [Heap.read,hget]
  have h0:=getCells_head hle
  have:=getCells_in h0 (p:=off) (m:=if isAggD i'.d then i'.size else 1) (by have:=(getC_some hg).1;rw [List.length_take] at this;omega)
  rw [Nat.zero_add] at this
  rw [this];exact hg
 simp only [aval,apure,aread,hi,h1.ev hx,Option.bind_eq_bind,Option.bind_some]
 cases ha:isAggD i'.d<;>simp only [ha,if_true,if_false,Bool.false_eq_true] at hr ⊢<;>simp only [hr,Option.bind_some,ho]
theorem Ef.storeOlp {t:TypeId} {a x:Operand} {b off sz mm:Nat} {w v:Value} {de:TypeDesc} {ts by_:Nat} {z:List Value} {cm:Bool} {vs vs':List Value} {B:List SA} {K:Value→Zone→List SA→Prop} (hi:M.T t=some ⟨de,ts,by_,z,cm⟩) (ha:evL L a=some (.pointer (some ⟨b,off,none⟩))) (hx:evL L x=some v)
  (hs:Nat.beq (cellsL v).length ts=true) (hok:okCells (cellsL v)=true) (p:Rem A (olp b sz w mm vs) B) (hc:setCells vs off (cellsL v)=some vs') (c:K undef Z (olp b sz w mm vs'::B)):Ef M (.store t a x) L Z A K:=by
 intro env H φ h1 h2
 obtain ⟨s,u,q1,q2,q3⟩:=h2.rem p
 obtain ⟨gg,cp,xs,hv,hcp,hl,rfl,hg,hov,rfl⟩:=q1
 have hget:H.get b=some (.cells xs true gg):=q3.own (b,.cells xs true gg) (by simp)
 have hle:mm*sz≤xs.length:=by rw [hl];exact Nat.mul_le_mul_right _ hcp
 have hfit:off+(cellsL v).length≤mm*sz:=by
  unfold setCells at hc
  split at hc
  ·rename_i h;rw [List.length_take] at h;omega
  ·cases hc
 have hset:setCells xs off (cellsL v)=some (xs.take off++(cellsL v++xs.drop (off+(cellsL v).length))):=by unfold setCells;rw [if_pos (by omega)]
 have hvs':(xs.take off++(cellsL v++xs.drop (off+(cellsL v).length))).take (mm*sz)=vs':=by
  unfold setCells at hc
  rw [if_pos (by rw [List.length_take];omega)] at hc
  cases hc
  exact take_set xs (cellsL v) off (mm*sz) hfit
 refine ⟨0,undef,H.put b (some (.cells (xs.take off++(cellsL v++xs.drop (off+(cellsL v).length))) true gg)),Z,_,?_,Ext.refl _,⟨[(b,.cells (xs.take off++(cellsL v++xs.drop (off+(cellsL v).length))) true gg)]++u,.cons (P:=olp b sz w mm vs') ⟨gg,cp,_,hv,hcp,?_,hvs',hg,?_,rfl⟩ q2,by rw [List.append_assoc];exact St0.put q3⟩,c⟩
 ·simp only [aE,aeff,hi,h1.ev ha,h1.ev hx,Option.bind_eq_bind,Option.bind_some,cellsL_size,cellsL_eq]
  rw [if_pos ⟨by simpa using hs,hok⟩]
  simp only [Heap.write,hget,hset,Option.map_some,Option.bind_eq_bind,Option.bind_some]
 ·simp only [List.length_append,List.length_take,List.length_drop];omega
 ·simp only [okCells,List.all_eq_true] at hov hok ⊢
  intro y hy
  simp only [List.mem_append] at hy
  rcases hy with hy|hy|hy
  ·exact hov y (List.mem_of_mem_take hy)
  ·exact hok y hy
  ·exact hov y (List.mem_of_mem_drop hy)
theorem Ef.copyOl {t u e:TypeId} {s x:Operand} {as:Array Operand} {ats:Array TypeId} {v w:Value} {tz tb sz by_ mm kk:Nat} {tzz z:List Value} {tc cm:Bool} {de:TypeDesc} {vs new:List Value} {B:List SA} {K:Value→Zone→List SA→Prop}
  (ha:as.toList=[s,x]) (hat:ats.toList=[t,u]) (ht:M.T t=some ⟨.slice e,tz,tb,tzz,tc⟩) (he:M.T e=some ⟨de,sz,by_,z,cm⟩)
  (hs:evL L s=some v) (hx:evL L x=some w) (p:Rem A (ol sz v mm vs) B) (src:Src Z B sz w kk new) (hok:okCells new=true) (hlen:new.length=kk*sz)
  (c:K (goInt (Nat.min kk mm:Nat)) Z (ol sz v mm (new.take (Nat.min kk mm*sz)++vs.drop (Nat.min kk mm*sz))::B)):Ef M (.call ⟨.builtin .copy,as,ats⟩) L Z A K:=by
 intro env H φ h1 h2
 obtain ⟨q,r,k1,k2,k3⟩:=h2.rem p
 have stB:St H Z B (q++φ):=⟨r,k2,k3.perm (by
  rw [←List.append_assoc,←List.append_assoc]
  exact (List.perm_append_comm).append_right φ)⟩
 have hsrc:=src H _ stB
 have hlv:=ol.length k1
 by_cases hm:Nat.min kk mm=0
 ·rw [hm] at c
  simp only [Nat.zero_mul,List.take_zero,List.nil_append,List.drop_zero] at c
  refine ⟨0,goInt 0,H,Z,_,?_,Ext.refl _,⟨q++r,.cons k1 k2,by rw [List.append_assoc];exact k3⟩,c⟩
  simp only [aE,aeff,ha,hat,effBuiltin,ht,he,Option.bind_eq_bind,Option.bind_some,h1.ev hs,h1.ev hx,hsrc]
  rcases k1 with ⟨rfl,rfl,rfl,rfl⟩|⟨b,off,xs,wr,g,rfl,_,_,_,_,rfl,rfl,rfl⟩|⟨b,g,cp,xs,rfl,hc,hl,rfl,hg,hov,rfl⟩
  ·simp
  ·simp [okCells]
  ·simp only [hm,Nat.zero_mul,List.take_zero]
   simp [okCells]
 ·rcases k1 with ⟨rfl,rfl,rfl,rfl⟩|⟨b,off,xs,wr,g,rfl,_,_,_,_,rfl,rfl,rfl⟩|⟨b,g,cp,xs,rfl,hc,hl,rfl,hg,hov,rfl⟩
  ·exact absurd (Nat.min_zero kk) hm
  ·exact absurd (Nat.min_zero kk) hm
  ·have hget:H.get b=some (.cells xs true g):=k3.own (b,.cells xs true g) (by simp)
   have hle:mm*sz≤xs.length:=by rw [hl];exact Nat.mul_le_mul_right _ hc
   have hmk:Nat.min kk mm*sz≤kk*sz:=Nat.mul_le_mul_right _ (Nat.min_le_left _ _)
   have hmm:Nat.min kk mm*sz≤mm*sz:=Nat.mul_le_mul_right _ (Nat.min_le_right _ _)
   generalize hnn:new.take (Nat.min kk mm*sz)=nn at c
   have hnl:nn.length=Nat.min kk mm*sz:=by rw [←hnn,List.length_take,hlen];exact Nat.min_eq_left hmk
   have hnok:okCells nn=true:=by
    rw [←hnn]
    simp only [okCells,List.all_eq_true] at hok ⊢
    exact fun y hy=>hok y (List.mem_of_mem_take hy)
   have hset:setCells xs 0 nn=some (nn++xs.drop nn.length):=by unfold setCells;rw [if_pos (by omega)];simp
   have hvs:(nn++xs.drop nn.length).take (mm*sz)=nn++(xs.take (mm*sz)).drop (Nat.min kk mm*sz):=by
    have:=take_set xs nn 0 (mm*sz) (by omega)
    simp only [Nat.zero_add,List.take_zero,List.nil_append] at this
    rw [this,hnl]
   refine ⟨0,_,H.put b (some (.cells (nn++xs.drop nn.length) true g)),Z,_,?_,Ext.refl _,⟨[(b,.cells (nn++xs.drop nn.length) true g)]++r,.cons (P:=ol sz _ mm _) (.inr (.inr ⟨b,g,cp,_,rfl,hc,?_,hvs,hg,?_,rfl⟩)) k2,by rw [List.append_assoc];exact St0.put k3⟩,c⟩
   ·simp only [aE,aeff,ha,hat,effBuiltin,ht,he,Option.bind_eq_bind,Option.bind_some,h1.ev hs,h1.ev hx,hsrc,hnn]
    rw [if_pos hnok,if_neg hm]
    simp only [Heap.write,hget,hset,Option.map_some,Option.bind_eq_bind,Option.bind_some]
   ·simp only [List.length_append,List.length_drop];omega
   ·refine okCells_append hnok ?_
    simp only [okCells,List.all_eq_true] at hov ⊢
    exact fun y hy=>hov y (List.mem_of_mem_drop hy)
theorem St.alterP {H:Heap} {φ:List Cel} {x:SA} {B C:List SA} (p:Rem A x B) (g:∀ s,x.p Z s→∃ s',s.Perm s'∧Sat Z C s') (h:St H Z A φ):St H Z (C++B) φ:=by
 obtain ⟨s,t,h1,h2,h3⟩:=h.rem p
 obtain ⟨s',e1,e2⟩:=g s h1
 exact ⟨s'++t,e2.append h2,h3.perm (by rw [List.append_assoc];exact e1.append_right _)⟩
end
end Go.Ev
namespace Go.Ev
section
variable {M:Mach} {fn:FuncId} {rd:Option Nat} {n:Nat} {Q:PQ} {k:List KI} {L:Lo} {Z:Zone} {A:List SA}
variable {ops:Array Oper} {dr:Bool} {pl:List Ro} {ps:List Pn} {i m d:Nat} {ty:TypeId} {pos:String} {af:Array Edge} {g:Option (Nat×Bool)}
theorem PnAll.done:PnAll M (keepP m []) Z A:=PnAll.nil
theorem PnAll.skip {v:Value} (h:m.testBit i=true) (c:PnAll M (keepP m ps) Z A) {op:Op}:PnAll M (keepP m (pnd dr i op L v ps)) Z A:=by
 unfold pnd
 cases hb:(dr&&isRead op)
 ·exact c
 ·simp only [cond_true,keepP,List.filter_cons,h,Bool.not_true,Bool.false_eq_true,if_false];exact c
theorem PnAll.keep {v:Value} {op:Op} (h:Rd M op L Z A v) (hv:veq v v=true) (c:PnAll M (keepP m ps) Z A):PnAll M (keepP m (pnd dr i op L v ps)) Z A:=by
 unfold pnd
 cases hb:(dr&&isRead op)
 ·exact c
 ·simp only [cond_true,keepP,List.filter_cons]
  split
  ·exact PnAll.cons h hv c
  ·exact c
theorem PnAll.two {m':Nat} (c:PnAll M (keepP (m' ||| m) ps) Z A):PnAll M (keepP m' (keepP m ps)) Z A:=by
 have:keepP m' (keepP m ps)=keepP (m' ||| m) ps:=by
  simp only [keepP,List.filter_filter]
  congr 1
  funext p
  rw [Nat.testBit_or,Bool.not_or]
 rw [this];exact c
end
end Go.Ev
namespace Go.Ev
def innP (Z:Zone):List Value→List (List Value)→List Cel→Prop
 | [],[],s=>s=[]
 | u::us,vs::vss,s=>∃ s1 s2,s=s1++s2∧(ol 1 u vs.length vs).p Z s1∧innP Z us vss s2
 | _,_,_=>False
theorem innP.mono {Z Z':Zone} (e:Ext Z Z'):∀ {us:List Value} {vss:List (List Value)} {s:List Cel},innP Z us vss s→innP Z' us vss s
 | [],[],s,h=>h
 | u::us,vs::vss,s,⟨s1,s2,h1,h2,h3⟩=>⟨s1,s2,h1,(ol 1 u vs.length vs).mono e h2,innP.mono e h3⟩
 | [],_::_,s,h=>h.elim
 | _::_,[],s,h=>h.elim
theorem innP.length {Z:Zone}:∀ {us:List Value} {vss:List (List Value)} {s:List Cel},innP Z us vss s→us.length=vss.length
 | [],[],s,h=>rfl
 | u::us,vs::vss,s,⟨s1,s2,h1,h2,h3⟩=>by simp [innP.length h3]
 | [],_::_,s,h=>h.elim
 | _::_,[],s,h=>h.elim
def inn (us:List Value) (vss:List (List Value)):SA where
 p:=fun Z s=>innP Z us vss s
 mono:=fun e h=>innP.mono e h
theorem innP.snoc {Z:Zone} {u:Value} {vs:List Value} {t:List Cel} (k:(ol 1 u vs.length vs).p Z t):∀ {us:List Value} {vss:List (List Value)} {s:List Cel},innP Z us vss s→innP Z (us++[u]) (vss++[vs]) (s++t)
 | [],[],s,h=>by cases h;exact ⟨t,[],by simp,k,rfl⟩
 | w::us,ws::vss,s,⟨s1,s2,h1,h2,h3⟩=>⟨s1,s2++t,by rw [h1,List.append_assoc],h2,innP.snoc k h3⟩
 | [],_::_,s,h=>h.elim
 | _::_,[],s,h=>h.elim
section
variable {M:Mach} {fn:FuncId} {rd:Option Nat} {n:Nat} {Q:PQ} {k:List KI} {L:Lo} {Z:Zone} {A:List SA}
variable {ops:Array Oper} {dr:Bool} {pl:List Ro} {ps:List Pn} {i m d:Nat} {ty:TypeId} {pos:String} {af:Array Edge} {g:Option (Nat×Bool)}
theorem St.joinQ {H:Heap} {φ:List Cel} {y:SA} {B C:List SA} (p:Spl A B C) (g:∀ s,Sat Z B s→∃ s',s.Perm s'∧y.p Z s') (h:St H Z A φ):St H Z (y::C) φ:=by
 obtain ⟨σ,h1,h2⟩:=h
 obtain ⟨s,t,k1,k2,k3⟩:=h1.spl p
 obtain ⟨s',e1,e2⟩:=g s k1
 exact ⟨s'++t,.cons e2 k2,h2.perm ((k3.trans (e1.append_right t)).append_right φ)⟩
theorem Wk.innNil {c:Code} (h:Wk M fn rd n Q (.c c::k) L Z (inn [] []::A)):Wk M fn rd n Q (.c c::k) L Z A :=
 Wk.turn fun env H φ h1 h2=>⟨L,Z,_,h1,Ext.refl _,let ⟨σ,s1,s2⟩:=h2;⟨[]++σ,.cons (P:=inn [] []) (s:=[]) rfl s1,by simpa using s2⟩,h⟩
theorem two_sat {x y:SA} {s:List Cel} (h:Sat Z [x,y] s):∃ a b,s=a++b∧x.p Z a∧y.p Z b:=by
 cases h with
 | cons h1 h2 =>
  cases h2 with
  | cons h3 h4=>cases h4;exact ⟨_,_,rfl,h1,by rw [List.append_nil];exact h3⟩
theorem Wk.innSnocr {us:List Value} {vss:List (List Value)} {u:Value} {vs:List Value} {C:List SA} (p:Spl A [ol 1 u vs.length vs,inn us vss] C) (h:Wk M fn rd n Q (.r ops dr pl ps::k) L Z (inn (us++[u]) (vss++[vs])::C)):Wk M fn rd n Q (.r ops dr pl ps::k) L Z A :=
 Wk.turnr fun env H φ h1 h2=>⟨L,Z,_,h1,Ext.refl _,h2.joinQ p fun s hs=>let ⟨a,b,e,h3,h4⟩:=two_sat hs;⟨b++a,e▸List.perm_append_comm,innP.snoc h3 h4⟩,h⟩
theorem St.innFreeze {H:Heap} {φ:List Cel}:∀ {us:List Value} {vss:List (List Value)} {Z:Zone} {A B:List SA},Rem A (inn us vss) B→St H Z A φ→∃ Z',Ext Z Z'∧All2 (fun u vs=>Sl Z' 1 u vs.length vs) us vss∧St H Z' B φ
 | [],[],Z,A,B,p,h=>by
  obtain ⟨s,t,h1,h2,h3⟩:=h.rem p
  cases h1
  exact ⟨Z,Ext.refl _,.nil,t,h2,by simpa using h3⟩
 | u::us,vs::vss,Z,A,B,p,h=>by
  have h':=h.alterP (C:=[ol 1 u vs.length vs,inn us vss]) p fun s ⟨s1,s2,e,h1,h2⟩=>⟨s,List.Perm.refl _,by have:=Sat.cons h1 (Sat.cons (P:=inn us vss) h2 Sat.nil);simpa [e] using this⟩
  obtain ⟨Z1,e1,k1,k2⟩:=h'.olFreeze Rem.head
  obtain ⟨Z2,e2,k3,k4⟩:=St.innFreeze Rem.head k2
  exact ⟨Z2,e1.trans e2,.cons (k1.mono e2) k3,k4⟩
 | [],_::_,Z,A,B,p,h=>by
  obtain ⟨s,t,h1,h2,h3⟩:=h.rem p
  exact h1.elim
 | _::_,[],Z,A,B,p,h=>by
  obtain ⟨s,t,h1,h2,h3⟩:=h.rem p
  exact h1.elim
theorem Wk.innFreeze {c:Code} {us:List Value} {vss:List (List Value)} {B:List SA} (p:Rem A (inn us vss) B) (h:∀ Z',Ext Z Z'→All2 (fun u vs=>Sl Z' 1 u vs.length vs) us vss→Wk M fn rd n Q (.c c::k) L Z' B):Wk M fn rd n Q (.c c::k) L Z A :=
 Wk.turn fun env H φ h1 h2=>let ⟨Z',k1,k2,k3⟩:=h2.innFreeze p;⟨L,Z',B,h1,k1,k3,h Z' k1 k2⟩
theorem Wk.innFreezer {us:List Value} {vss:List (List Value)} {B:List SA} (p:Rem A (inn us vss) B) (h:∀ Z',Ext Z Z'→All2 (fun u vs=>Sl Z' 1 u vs.length vs) us vss→Wk M fn rd n Q (.r ops dr pl ps::k) L Z' B):Wk M fn rd n Q (.r ops dr pl ps::k) L Z A :=
 Wk.turnr fun env H φ h1 h2=>let ⟨Z',k1,k2,k3⟩:=h2.innFreeze p;⟨L,Z',B,h1,k1,k3,h Z' k1 k2⟩
theorem Wk.copy {t u e:TypeId} {s x:Operand} {as:Array Operand} {ats:Array TypeId} {v w:Value} {tz tb sz by_ mm kk:Nat} {tzz z:List Value} {tc cm:Bool} {de:TypeDesc} {vs new:List Value} {B:List SA}
  (ha:as.toList=[s,x]) (hat:ats.toList=[t,u]) (ht:M.T t=some ⟨.slice e,tz,tb,tzz,tc⟩) (he:M.T e=some ⟨de,sz,by_,z,cm⟩)
  (hs:evL L s=some v) (hx:evL L x=some w) (p:Rem A (ol sz v mm vs) B) (src:Src Z B sz w kk new) (hok:okCells new=true) (hlen:new.length=kk*sz) (hn:keepP m ps=[])
  (hw:wantL ops L g=some true) (hd:Nat.blt d n=true) (c:Wk M fn rd n Q (.r ops dr pl []::k) ((d,goInt (Nat.min kk mm:Nat))::L) Z (ol sz v mm (new.take (Nat.min kk mm*sz)++vs.drop (Nat.min kk mm*sz))::B)) :
  Wk M fn rd n Q (.r ops dr (⟨i,m,⟨some d,.call ⟨.builtin .copy,as,ats⟩,ty,pos,af,g⟩⟩::pl) ps::k) L Z A :=
 Wk.e hw rfl hd (Ef.copyOl ha hat ht he hs hx p src hok hlen ⟨by rw [hn];exact PnAll.nil,by rw [hn];exact c⟩)
theorem Wk.storeOlp {t:TypeId} {a x:Operand} {b off sz mm:Nat} {w v:Value} {de:TypeDesc} {ts by_:Nat} {z:List Value} {cm:Bool} {vs vs':List Value} {B:List SA} (hi:M.T t=some ⟨de,ts,by_,z,cm⟩) (ha:evL L a=some (.pointer (some ⟨b,off,none⟩))) (hx:evL L x=some v)
  (hs:Nat.beq (cellsL v).length ts=true) (hok:okCells (cellsL v)=true) (p:Rem A (olp b sz w mm vs) B) (hc:setCells vs off (cellsL v)=some vs') (hn:keepP m ps=[])
  (hw:wantL ops L g=some true) (c:Wk M fn rd n Q (.r ops dr pl []::k) L Z (olp b sz w mm vs'::B)) :
  Wk M fn rd n Q (.r ops dr (⟨i,m,⟨none,.store t a x,ty,pos,af,g⟩⟩::pl) ps::k) L Z A :=
 Wk.e0 hw rfl (Ef.storeOlp hi ha hx hs hok p hc ⟨by rw [hn];exact PnAll.nil,by rw [hn];exact c⟩)
theorem Wk.olShutr {b sz mm:Nat} {v:Value} {vs:List Value} {B:List SA} (p:Rem A (olp b sz v mm vs) B) (h:Wk M fn rd n Q (.r ops dr pl ps::k) L Z (ol sz v mm vs::B)):Wk M fn rd n Q (.r ops dr pl ps::k) L Z A :=
 Wk.turnr fun env H φ h1 h2=>⟨L,Z,_,h1,Ext.refl _,h2.alterP (C:=[ol sz v mm vs]) p fun s hs=>⟨s,List.Perm.refl _,Sat.one (olp.ol hs)⟩,h⟩
theorem Wk.loadOlp {t:TypeId} {x:Operand} {i':TI} {b off sz mm:Nat} {w:Value} {vs cs:List Value} {v:Value} {B:List SA} (hi:M.T t=some i') (hx:evL L x=some (.pointer (some ⟨b,off,none⟩))) (p:Rem A (olp b sz w mm vs) B) (hg:getCells vs off (if isAggD i'.d then i'.size else 1)=some cs) (ho:ofCells i' cs=some v)
  (hw:wantL ops L g=some true) (hd:Nat.blt d n=true) (c:Wk M fn rd n Q (.r ops dr pl (pnd dr i (.load t x) L v ps)::k) ((d,v)::L) Z A) :
  Wk M fn rd n Q (.r ops dr (⟨i,m,⟨some d,.load t x,ty,pos,af,g⟩⟩::pl) ps::k) L Z A:=Wk.v hw rfl hd (Rd.loadOlp hi hx p hg ho) c
theorem Wk.sliceSlR {t e:TypeId} {x:Operand} {lo hi mx:Option Operand} {sz by_:Nat} {z:List Value} {cm:Bool} {de:TypeDesc} {es eb:Nat} {ez:List Value} {ec:Bool} {v:Value} {len:Nat} {vs:List Value} {vl vh vm:Option Value} {nl nh nm:Option Nat} {l h:Nat} (s:Sl Z es v len vs) (hw:wantL ops L g=some true) (hd:Nat.blt d n=true) (ht:M.T t=some ⟨.slice e,sz,by_,z,cm⟩) (hj:M.T e=some ⟨de,es,eb,ez,ec⟩)
  (hx:evL L x=some v) (h1:evoL L lo=some vl) (h2:evoL L hi=some vh) (h3:evoL L mx=some vm) (n1:asNat vl=some nl) (n2:asNat vh=some nh) (n3:asNat vm=some nm) (ok:partOK len nl nh nm l h)
  (c:∀ v',Sl Z es v' (h - l) ((vs.drop (l*es)).take ((h - l)*es))→(∀ A',Rd M (.slice t x lo hi mx) L Z A' v')→Wk M fn rd n Q (.r ops dr pl (pnd dr i (.slice t x lo hi mx) L v' ps)::k) ((d,v')::L) Z A):Wk M fn rd n Q (.r ops dr (⟨i,m,⟨some d,.slice t x lo hi mx,ty,pos,af,g⟩⟩::pl) ps::k) L Z A:=by
 obtain ⟨e1,e2,e3,e4,e5⟩:=ok
 have key:∀ cp,len≤cp→∃ mm,h≤mm∧mm≤cp∧abounds len cp nl nh nm=some (l,h,mm):=by
  intro cp hc
  cases nm with
  | none =>
   refine ⟨cp,by omega,Nat.le_refl _,?_⟩
   simp only [abounds,Option.getD_none,Option.isSome_none,Bool.false_and,Bool.false_eq_true,if_false,←e1,←e2]
   rw [if_pos ⟨Nat.le_refl _,by omega,e3⟩]
  | some q =>
   obtain ⟨q1,q2,q3⟩:=e5
   refine ⟨q,q1,by omega,?_⟩
   have:nh.isNone=false:=by cases nh<;>simp_all
   simp only [abounds,Option.getD_some,Option.isSome_some,this,Bool.and_false,Bool.false_eq_true,if_false,←e1,←e2]
   rw [if_pos ⟨by omega,by omega,e3⟩]
 rcases s with ⟨rfl,rfl,rfl⟩|⟨b,off,cc,xs,wr,gg,rfl,k2,k3,k4,k5⟩
 ·obtain ⟨mm,m1,m2,m3⟩:=key 0 (Nat.le_refl _)
  refine Wk.v hw rfl hd (Rd.sliceNil ht hj hx h1 h2 h3 n1 n2 n3 m3) (c _ ?_ fun A'=>Rd.sliceNil ht hj hx h1 h2 h3 n1 n2 n3 m3)
  have:h=0:=by omega
  subst this
  have:mm=0:=by omega
  subst this
  simp only [Nat.zero_sub,Nat.zero_mul,List.take_zero]
  exact Sl.nil
 ·obtain ⟨mm,m1,m2,m3⟩:=key cc k2
  refine Wk.v hw rfl hd (Rd.slice ht hj hx h1 h2 h3 n1 n2 n3 m3 (.inl k3) k5) (c _ ?_ fun A'=>Rd.slice ht hj hx h1 h2 h3 n1 n2 n3 m3 (.inl k3) k5)
  have hle:l*es+(h - l)*es≤len*es:=by rw [←Nat.add_mul];exact Nat.mul_le_mul_right _ (by omega)
  refine Sl.of k3 ?_ (by omega) k5
  rw [getCells_in k4 hle]
  unfold getCells
  rw [if_pos (by rw [(getC_some k4).2.2];exact hle)]
end
end Go.Ev
namespace Go.Ev
theorem getCells_map {α:Type} {f:α→Value} {l:List α} {j:Nat} (h:j < l.length):getCells (l.map f) (j*1) 1=some [f l[j]]:=getCells_one (by simp [h])
theorem eqBp {a:Bool} {p:Prop} [Decidable p] (h:a=true↔p):some (Value.bool a)=some (Value.bool (decide p)):=by
 congr 2
 cases a
 ·simp at h;simp [h]
 ·simp at h;simp [h]
def Bis (v:Value) (p:Prop):Prop:=∃ b:Bool,v=.bool b∧(b=true↔p)
theorem Bis.of {b:Bool} {p:Prop} (h:b=true↔p):Bis (.bool b) p:=⟨b,rfl,h⟩
section
variable {M:Mach} {fn:FuncId} {rd:Option Nat} {n:Nat} {Q:PQ} {k:List KI} {L:Lo} {Z:Zone} {A:List SA}
variable {ops:Array Oper} {dr:Bool} {pl:List Ro} {ps:List Pn} {i m d:Nat} {ty:TypeId} {pos:String} {af:Array Edge} {g:Option (Nat×Bool)}
theorem Wk.ixStr {t:TypeId} {x ix:Operand} {sz by_:Nat} {z:List Value} {cm:Bool} {q:IntKind} {i':Int} {s:ByteArray} {j:Nat} {w:UInt8} (hi:M.T t=some ⟨.string,sz,by_,z,cm⟩) (hix:evL L ix=some (.int q i')) (hx:evL L x=some (.string s))
  (e1:i'=(j:Int)) (hv:s[j]?=some w) (hw:wantL ops L g=some true) (hd:Nat.blt d n=true) (c:Wk M fn rd n Q (.r ops dr pl ps::k) ((d,.int .u8 w.toNat)::L) Z A) :
  Wk M fn rd n Q (.r ops dr (⟨i,m,⟨some d,.index t x ix,ty,pos,af,g⟩⟩::pl) ps::k) L Z A:=Wk.p rfl rfl (Rd.ixStr j hi hix hx e1 hv) hw hd c
theorem Wk.lookup {t kt et:TypeId} {x ix:Operand} {sz by_:Nat} {z:List Value} {cm:Bool} {kv r:Value} {b:Nat} {j:TI} {es:List (Value×Value)} {f:Option (Nat×Value)} {p:Value×Bool} {ok:Bool} (hi:M.T t=some ⟨.map kt et,sz,by_,z,cm⟩) (hj:M.T et=some j) (hx:evL L x=some (.map (some b))) (hk:evL L ix=some kv) (hm:Has Z A b (.map es))
  (hf:keyFits M.T kt kv=true) (he:keyFind M.T kt kv es 0=some f) (hp:foundOr j f=some p) (hr:(if ok then Value.tuple #[p.1,.bool p.2] else p.1)=r) (hw:wantL ops L g=some true) (hd:Nat.blt d n=true) (c:Wk M fn rd n Q (.r ops dr pl (pnd dr i (.lookup t x ix ok) L r ps)::k) ((d,r)::L) Z A) :
  Wk M fn rd n Q (.r ops dr (⟨i,m,⟨some d,.lookup t x ix ok,ty,pos,af,g⟩⟩::pl) ps::k) L Z A:=Wk.v hw rfl hd (Rd.lookup (m:=some b) hi hj hx hk hm hf he hp hr) c
end
def findI (q:IntKind) (s:Int):List (Int×Value)→Nat→Option (Nat×Value)
 | [],_=>none
 | (a,v)::r,i=>if s=a then some (i,v) else findI q s r (i+1)
theorem keyFind_int {T:Tab} {kt:TypeId} {q:IntKind} {sz by_:Nat} {z:List Value} {cm:Bool} (ht:T kt=some ⟨.int q,sz,by_,z,cm⟩) (s:Int):∀ (es:List (Int×Value)) (i:Nat),keyFind T kt (.int q s) (es.map fun p=>(.int q p.1,p.2)) i=some (findI q s es i)
 | [],i=>rfl
 | (a,v)::es,i=>by
  have e:aequal T 2 kt (.int q s) (.int q a)=some (s==a):=by simp [aequal,ht]
  simp only [List.map_cons,keyFind,e,Option.bind_eq_bind,Option.bind_some,findI,keyFind_int ht s es (i+1)]
  by_cases h:s=a
  ·subst h;simp
  ·have:(s==a)=false:=by simpa using h
   simp [this,h]
end Go.Ev
namespace Go.Ev
def oq (sz:Nat) (v:Value) (m:Nat) (vs:List Value):SA where
 p:=fun Z s=>(v=.slice none 0 0∧m=0∧vs=[]∧s=[]) ∨
  (∃ b off xs wr g,v=.slice (some ⟨b,off,none⟩) 0 0∧Z b=some (.cells xs wr g)∧off≤xs.length∧(g=0∨g=sz)∧(g=0∨off≠xs.length)∧m=0∧vs=[]∧s=[]) ∨
  (∃ b g off c xs,v=.slice (some ⟨b,off,none⟩) m c∧m≤c∧off+c*sz≤xs.length∧(xs.drop off).take (m*sz)=vs∧(g=0∨g=sz)∧okCells xs=true∧s=[(b,.cells xs true g)])
 mono:=fun e h=>by
  rcases h with h|⟨b,off,xs,wr,g,h1,h2,h3⟩|h
  ·exact .inl h
  ·exact .inr (.inl ⟨b,off,xs,wr,g,h1,e _ _ h2,h3⟩)
  ·exact .inr (.inr h)
theorem oq.of_ol {sz:Nat} {v:Value} {m:Nat} {vs:List Value} {Z:Zone} {s:List Cel} (h:(ol sz v m vs).p Z s):(oq sz v m vs).p Z s:=by
 rcases h with h|h|⟨b,g,c,xs,h1,h2,h3,h4,h5⟩
 ·exact .inl h
 ·exact .inr (.inl h)
 ·exact .inr (.inr ⟨b,g,0,c,xs,h1,h2,by omega,by simpa using h4,h5⟩)
theorem oq.length {sz:Nat} {v:Value} {m:Nat} {vs:List Value} {Z:Zone} {s:List Cel} (h:(oq sz v m vs).p Z s):vs.length=m*sz:=by
 rcases h with ⟨_,rfl,rfl,_⟩|⟨_,_,_,_,_,_,_,_,_,_,rfl,rfl,_⟩|⟨b,g,off,c,xs,_,h1,h2,rfl,_⟩
 ·simp
 ·simp
 ·have:m*sz≤c*sz:=Nat.mul_le_mul_right _ h1
  simp only [List.length_take,List.length_drop];omega
theorem oq.form {sz:Nat} {v:Value} {m:Nat} {vs:List Value} {Z:Zone} {s:List Cel} (h:(oq sz v m vs).p Z s):∃ a c,v=.slice a m c:=by
 rcases h with ⟨rfl,rfl,rfl,_⟩|⟨_,_,_,_,_,rfl,_,_,_,_,rfl,rfl,_⟩|⟨b,g,off,c,xs,rfl,h,_⟩
 ·exact ⟨_,_,rfl⟩
 ·exact ⟨_,_,rfl⟩
 ·exact ⟨_,_,rfl⟩
def oqp (b off sz:Nat) (v:Value) (m:Nat) (vs:List Value):SA where
 p:=fun _ s=>∃ (g c:Nat) (xs:List Value),v=.slice (some ⟨b,off,none⟩) m c∧m≤c∧off+c*sz≤xs.length∧(xs.drop off).take (m*sz)=vs∧(g=0∨g=sz)∧okCells xs=true∧s=[(b,.cells xs true g)]
 mono:=fun _ h=>h
theorem oqp.oq {b off sz:Nat} {v:Value} {m:Nat} {vs:List Value} {Z:Zone} {s:List Cel} (h:(oqp b off sz v m vs).p Z s):(Go.Ev.oq sz v m vs).p Z s:=by
 obtain ⟨g,c,xs,h1,h2⟩:=h;exact .inr (.inr ⟨b,g,off,c,xs,h1,h2⟩)
section
variable {M:Mach} {fn:FuncId} {rd:Option Nat} {n:Nat} {Q:PQ} {k:List KI} {L:Lo} {Z:Zone} {A:List SA}
variable {ops:Array Oper} {dr:Bool} {pl:List Ro} {ps:List Pn} {i m d:Nat} {ty:TypeId} {pos:String} {af:Array Edge} {g:Option (Nat×Bool)}
theorem Wk.olq {c:Code} {sz mm:Nat} {v:Value} {vs:List Value} {B:List SA} (p:Rem A (ol sz v mm vs) B) (h:Wk M fn rd n Q (.c c::k) L Z (oq sz v mm vs::B)):Wk M fn rd n Q (.c c::k) L Z A :=
 Wk.turn fun env H φ h1 h2=>⟨L,Z,_,h1,Ext.refl _,h2.alterP (C:=[oq sz v mm vs]) p fun s hs=>⟨s,List.Perm.refl _,Sat.one (oq.of_ol hs)⟩,h⟩
theorem Wk.oqOpenr {sz mm:Nat} {v:Value} {vs:List Value} {B:List SA} (p:Rem A (oq sz v mm vs) B) (hm:0 < mm) (c:∀ b off,Wk M fn rd n Q (.r ops dr pl ps::k) L Z (oqp b off sz v mm vs::B)):Wk M fn rd n Q (.r ops dr pl ps::k) L Z A:=by
 intro ms hms qs hq env H φ h1 h2 h3
 obtain ⟨s,t,k1,k2,k3⟩:=h3.rem p
 rcases k1 with ⟨_,rfl,_⟩|⟨_,_,_,_,_,_,_,_,_,_,rfl,_⟩|⟨b,gg,off,cp,xs,hx⟩
 ·omega
 ·omega
 ·exact c b off ms hms qs hq env H φ h1 h2 ⟨s++t,.cons (P:=oqp b off sz v mm vs) ⟨gg,cp,xs,hx⟩ k2,by rw [List.append_assoc];exact k3⟩
theorem Wk.oqShutr {b off sz mm:Nat} {v:Value} {vs:List Value} {B:List SA} (p:Rem A (oqp b off sz v mm vs) B) (h:Wk M fn rd n Q (.r ops dr pl ps::k) L Z (oq sz v mm vs::B)):Wk M fn rd n Q (.r ops dr pl ps::k) L Z A :=
 Wk.turnr fun env H φ h1 h2=>⟨L,Z,_,h1,Ext.refl _,h2.alterP (C:=[oq sz v mm vs]) p fun s hs=>⟨s,List.Perm.refl _,Sat.one (oqp.oq hs)⟩,h⟩
theorem Wk.iaOqp {t e:TypeId} {x ix:Operand} {sz by_:Nat} {z:List Value} {cm:Bool} {de:TypeDesc} {es eb:Nat} {ez:List Value} {ec:Bool} {q:IntKind} {j':Int} {v:Value} {len b off:Nat} {vs:List Value} {B:List SA} (j:Nat) (p:Rem A (oqp b off es v len vs) B) (hw:wantL ops L g=some true) (hd:Nat.blt d n=true) (hi:M.T t=some ⟨.slice e,sz,by_,z,cm⟩) (hj:M.T e=some ⟨de,es,eb,ez,ec⟩)
  (hix:evL L ix=some (.int q j')) (hx:evL L x=some v) (e1:j'=(j:Int)) (e2:j < len)
  (c:Wk M fn rd n Q (.r ops dr pl ps::k) ((d,.pointer (some ⟨b,off+j*es,none⟩))::L) Z A):Wk M fn rd n Q (.r ops dr (⟨i,m,⟨some d,.indexAddr t x ix,ty,pos,af,g⟩⟩::pl) ps::k) L Z A:=by
 refine Wk.knowr (R:=∃ c,v=.slice (some ⟨b,off,none⟩) len c) p (fun s ⟨_,cp,_,h,_⟩=>⟨cp,h⟩) ?_
 rintro ⟨cp,rfl⟩
 exact Wk.p rfl rfl (Rd.ia (M:=M) (Z:=Z) (A:=A) j hi hj hix hx e1 e2) hw hd c
theorem Rd.loadOqp {t:TypeId} {x:Operand} {i':TI} {b off o sz mm:Nat} {w:Value} {vs cs:List Value} {v:Value} {B:List SA} (hi:M.T t=some i') (hx:evL L x=some (.pointer (some ⟨b,off+o,none⟩))) (p:Rem A (oqp b off sz w mm vs) B) (hg:getCells vs o (if isAggD i'.d then i'.size else 1)=some cs) (ho:ofCells i' cs=some v):Rd M (.load t x) L Z A v:=by
 intro env H φ h1 h2
 obtain ⟨s,u,q1,q2,q3⟩:=h2.rem p
 obtain ⟨gg,cp,xs,_,hc,hl,rfl,_,_,rfl⟩:=q1
 have hget:H.get b=some (.cells xs true gg):=q3.own (b,.cells xs true gg) (by simp)
 have hle:mm*sz≤cp*sz:=Nat.mul_le_mul_right _ hc
 have hr:H.read b (off+o) (if isAggD i'.d then i'.size else 1)=some cs:=by
  simp only [Heap.read,hget]
  have h0:getCells xs off (mm*sz)=some ((xs.drop off).take (mm*sz)):=by unfold getCells;rw [if_pos (by omega)]
  rw [getCells_in h0 (p:=o) (m:=if isAggD i'.d then i'.size else 1) (by have:=(getC_some hg).1;rw [List.length_take,List.length_drop] at this;omega)]
  exact hg
 simp only [aval,apure,aread,hi,h1.ev hx,Option.bind_eq_bind,Option.bind_some]
 cases ha:isAggD i'.d<;>simp only [ha,if_true,if_false,Bool.false_eq_true] at hr ⊢<;>simp only [hr,Option.bind_some,ho]
theorem Wk.loadOqp1 {t:TypeId} {x:Operand} {de:TypeDesc} {ts tb:Nat} {tz:List Value} {tc:Bool} {b off o sz mm:Nat} {w v:Value} {vs:List Value} {B:List SA} (hi:M.T t=some ⟨de,ts,tb,tz,tc⟩) (hx:evL L x=some (.pointer (some ⟨b,off+o,none⟩))) (p:Rem A (oqp b off sz w mm vs) B) (hag:isAggD de=false) (hg:vs[o]?=some v)
  (hw:wantL ops L g=some true) (hd:Nat.blt d n=true) (c:Wk M fn rd n Q (.r ops dr pl (pnd dr i (.load t x) L v ps)::k) ((d,v)::L) Z A) :
  Wk M fn rd n Q (.r ops dr (⟨i,m,⟨some d,.load t x,ty,pos,af,g⟩⟩::pl) ps::k) L Z A :=
 Wk.v hw rfl hd (Rd.loadOqp hi hx p (cs:=[v]) (by simp only [hag,Bool.false_eq_true,if_false];exact getCells_one hg) (by simp [ofCells,hag])) c
theorem Wk.sliceOq {t e:TypeId} {x:Operand} {lo:Option Operand} {sz by_:Nat} {z:List Value} {cm:Bool} {de:TypeDesc} {es eb:Nat} {ez:List Value} {ec:Bool} {v:Value} {len:Nat} {vs:List Value} {vl:Option Value} {l:Nat} {B:List SA} (p:Rem A (oq es v len vs) B) (ht:M.T t=some ⟨.slice e,sz,by_,z,cm⟩) (hj:M.T e=some ⟨de,es,eb,ez,ec⟩)
  (hx:evL L x=some v) (h1:evoL L lo=some vl) (n1:asNat vl=some (some l)) (hl:l≤len) (hrd:dr=false) (hw:wantL ops L g=some true) (hd:Nat.blt d n=true)
  (c:∀ v',Wk M fn rd n Q (.r ops dr pl ps::k) ((d,v')::L) Z (oq es v' (len - l) (vs.drop (l*es))::B)):Wk M fn rd n Q (.r ops dr (⟨i,m,⟨some d,.slice t x lo none none,ty,pos,af,g⟩⟩::pl) ps::k) L Z A:=by
 subst hrd
 have hpn:∀ v',pnd false i (.slice t x lo none none) L v' ps=ps:=fun v'=>rfl
 intro ms hms qs hq env H φ q1 q2 q3
 obtain ⟨s,r,k1,k2,k3⟩:=q3.rem p
 have hb:∀ cp,len≤cp→abounds len cp (some l) none none=some (l,len,cp):=fun cp hc=>by simp [abounds,hc,hl]
 rcases k1 with ⟨rfl,rfl,rfl,rfl⟩|⟨b,off,xs,wr,gg,rfl,hz,ho,hg,hgx,rfl,rfl,rfl⟩|⟨b,gg,off,cp,xs,rfl,hc,hlen,rfl,hg,hok,rfl⟩
 ·have hl0:l=0:=by omega
  subst hl0
  have hrd:=Rd.sliceNil (M:=M) (Z:=Z) (A:=A) ht hj hx h1 (rfl:evoL L none=some none) (rfl:evoL L none=some none) n1 (rfl:asNat none=some none) (rfl:asNat none=some none) (hb 0 (Nat.le_refl _))
  have q3':St H Z (oq es (.slice none 0 0) 0 []::B) φ:=⟨[]++r,.cons (P:=oq es (.slice none 0 0) 0 []) (s:=[]) (Or.inl ⟨rfl,rfl,rfl,rfl⟩) k2,by simpa using k3⟩
  have hrd':Rd M (.slice t x lo none none) L Z (oq es (.slice none 0 0) 0 []::B) (.slice none 0 0):=by
   refine Rd.sliceNil (M:=M) ht hj hx h1 (rfl:evoL L none=some none) (rfl:evoL L none=some none) n1 (rfl:asNat none=some none) (rfl:asNat none=some none) (hb 0 (Nat.le_refl _))
  have:=Wk.v (dr:=false) (i:=i) (m:=m) (ty:=ty) (pos:=pos) (af:=af) (fn:=fn) (rd:=rd) (Q:=Q) (k:=k) (pl:=pl) (ps:=ps) (d:=d) hw rfl hd hrd' (by have h0:=c (.slice none 0 0);simp only [Nat.sub_self,List.drop_nil] at h0;exact h0)
  exact this ms hms qs hq env H φ q1 q2 q3'
 ·have hl0:l=0:=by omega
  subst hl0
  have q3':St H Z (oq es (.slice (some ⟨b,off,none⟩) 0 0) 0 []::B) φ:=⟨[]++r,.cons (P:=oq es (.slice (some ⟨b,off,none⟩) 0 0) 0 []) (s:=[]) (Or.inr (Or.inl ⟨b,off,xs,wr,gg,rfl,hz,ho,hg,hgx,rfl,rfl,rfl⟩)) k2,by simpa using k3⟩
  have hrd':Rd M (.slice t x lo none none) L Z (oq es (.slice (some ⟨b,off,none⟩) 0 0) 0 []::B) (.slice (some ⟨b,off,none⟩) 0 0):=by
   have:=Rd.slice (M:=M) (A:=oq es (.slice (some ⟨b,off,none⟩) 0 0) 0 []::B) ht hj hx h1 (rfl:evoL L none=some none) (rfl:evoL L none=some none) n1 (rfl:asNat none=some none) (rfl:asNat none=some none) (hb 0 (Nat.le_refl _)) (.inl hz) hg
   simpa using this
  have:=Wk.v (dr:=false) (i:=i) (m:=m) (ty:=ty) (pos:=pos) (af:=af) (fn:=fn) (rd:=rd) (Q:=Q) (k:=k) (pl:=pl) (ps:=ps) (d:=d) hw rfl hd hrd' (by have h0:=c (.slice (some ⟨b,off,none⟩) 0 0);simp only [Nat.sub_self,List.drop_nil] at h0;exact h0)
  exact this ms hms qs hq env H φ q1 q2 q3'
 ·have hle:l*es≤cp*es:=Nat.mul_le_mul_right _ (by omega)
  have hsub:(cp - l)*es=cp*es - l*es:=Nat.sub_mul _ _ _
  have hpt:Rd M (.slice t x lo none none) L Z (pt b (.cells xs true gg)::B) (.slice (some ⟨b,off+l*es,none⟩) (len - l) (cp - l)) :=
   Rd.slice (M:=M) (A:=pt b (.cells xs true gg)::B) ht hj hx h1 (rfl:evoL L none=some none) (rfl:evoL L none=some none) n1 (rfl:asNat none=some none) (rfl:asNat none=some none) (hb cp hc) (.inr (List.Mem.head _)) hg
  have q3':St H Z (pt b (.cells xs true gg)::B) φ:=⟨[(b,.cells xs true gg)]++r,.cons (P:=pt b (.cells xs true gg)) (s:=[(b,.cells xs true gg)]) rfl k2,by simpa using k3⟩
  have hev:=hpt env H φ q2 q3'
  have q4:St H Z (oq es (.slice (some ⟨b,off+l*es,none⟩) (len - l) (cp - l)) (len - l) (((xs.drop off).take (len*es)).drop (l*es))::B) φ:=by
   refine ⟨[(b,.cells xs true gg)]++r,.cons (P:=oq es _ _ _) (.inr (.inr ⟨b,gg,off+l*es,cp - l,xs,rfl,by omega,by rw [hsub];omega,?_,hg,hok,rfl⟩)) k2,by simpa using k3⟩
   rw [List.drop_take,List.drop_drop,Nat.sub_mul]
  have hrd':Rd M (.slice t x lo none none) L Z (pt b (.cells xs true gg)::B) (.slice (some ⟨b,off+l*es,none⟩) (len - l) (cp - l)):=hpt
  have hc':=c (.slice (some ⟨b,off+l*es,none⟩) (len - l) (cp - l))
  have hdn:d < env.size:=by rw [q1];exact of_blt hd
  obtain ⟨f,env',H',L',Z',A',j1,j2⟩:=hc' ms (fun r hr=>hms r (by simp [hr])) qs hq (env.setIfInBounds d (.slice (some ⟨b,off+l*es,none⟩) (len - l) (cp - l))) H φ (by simpa using q1) (q2.put hdn _) q4
  refine ⟨f,env',H',L',Z',A',?_,j2⟩
  have ho:=(hms _ (List.mem_cons_self ..)).1
  simp only at ho
  have hr:=wantL_eq hw (o:=⟨some d,.slice t x lo none none,ty,pos,af,g⟩) rfl q2
  have hk:okind M.T (.slice t x lo none none)=.V:=rfl
  simp only [Bool.false_eq_true,if_false] at j1 ⊢
  simp only [List.map_cons,evalSeq,ho,hr,if_true,astep,hk,hev,Option.map_some]
  exact j1
theorem Ef.appendQ {t u e:TypeId} {s x:Operand} {as:Array Operand} {ats:Array TypeId} {v w:Value} {tz tb sz by_ mm kk:Nat} {tzz z:List Value} {tc cm:Bool} {de:TypeDesc} {iu:TI} {vs new:List Value} {B:List SA} {K:Value→Zone→List SA→Prop}
  (ha:as.toList=[s,x]) (hat:ats.toList=[t,u]) (ht:M.T t=some ⟨.slice e,tz,tb,tzz,tc⟩) (hu:M.T u=some iu) (hn:notInt iu.d=true) (he:M.T e=some ⟨de,sz,by_,z,cm⟩)
  (hs:evL L s=some v) (hx:evL L x=some w) (p:Rem A (oq sz v mm vs) B) (src:Src Z B sz w kk new) (hsz:Nat.blt 0 sz=true) (hok:okCells new=true) (hlen:new.length=kk*sz) (hb:by_*(mm+kk)≤140737488355328) (hb':mm+kk≤140737488355328)
  (c:∀ v',K v' Z (oq sz v' (mm+kk) (vs++new)::B)):Ef M (.call ⟨.builtin .append,as,ats⟩) L Z A K:=by
 intro env H φ h1 h2
 have hsz':=of_blt hsz
 obtain ⟨q,r,k1,k2,k3⟩:=h2.rem p
 have stB:St H Z B (q++φ):=⟨r,k2,k3.perm (by
  rw [←List.append_assoc,←List.append_assoc]
  exact (List.perm_append_comm).append_right φ)⟩
 have hsrc:=src H _ stB
 have main:∀ (v':Value) (H':Heap) (q':List Cel),aappendK ⟨de,sz,by_,z,cm⟩ H v kk new=some (v',H')→(oq sz v' (mm+kk) (vs++new)).p Z q'→St0 H' Z (q'++(r++φ)) →
   ∃ m v H' Z' A',aE M.T (M.C m) (evOp env) H (.call ⟨.builtin .append,as,ats⟩)=some (v,H')∧Ext Z Z'∧St H' Z' A' φ∧K v Z' A':=by
  intro v' H' q' e1 e2 e3
  refine ⟨0,v',H',Z,_,?_,Ext.refl _,⟨q'++r,.cons e2 k2,by rw [List.append_assoc];exact e3⟩,c v'⟩
  have hni:∀ q,iu.d≠.int q:=fun q e=>by rw [e] at hn;cases hn
  simp only [aE,aeff,ha,hat,effBuiltin,ht,hu,Option.bind_eq_bind,Option.bind_some,h1.ev hs,h1.ev hx,he]
  generalize iu.d=dd at hni
  cases dd with
  | int q=>exact absurd rfl (hni q)
  | _=>simp only [aappend,hsrc,Option.bind_eq_bind,Option.bind_some,e1]
 by_cases hk:kk=0
 ·subst hk
  have hnew:new=[]:=by simpa using hlen
  subst hnew
  simp only [Nat.add_zero,List.append_nil] at main ⊢
  refine main v H q ?_ k1 k3
  rcases k1 with ⟨rfl,rfl,rfl,rfl⟩|⟨b,off,xs,wr,g,rfl,_,_,_,_,rfl,rfl,rfl⟩|⟨b,g,off,cp,xs,rfl,hc,hl,rfl,hg,_,rfl⟩
  ·simp [aappendK]
  ·simp [aappendK]
  ·simp [aappendK,hc]
 ·have cnd:0 < sz∧by_*kk≤140737488355328∧kk≤140737488355328:=⟨hsz',by have:by_*kk≤by_*(mm+kk):=Nat.mul_le_mul_left _ (by omega);omega,by omega⟩
  have fresh:∀ (vs0:List Value) (m0:Nat),okCells vs0=true→vs0.length=m0*sz→(oq sz (.slice (some ⟨H.next,0,none⟩) (m0+kk) (m0+kk)) (m0+kk) (vs0++new)).p Z [(H.next,.cells (vs0++new) true sz)]:=fun vs0 m0 h1 h2=>by
   have:(vs0++new).length=(m0+kk)*sz:=by rw [List.length_append,h2,hlen,Nat.add_mul]
   exact .inr (.inr ⟨H.next,sz,0,m0+kk,_,rfl,Nat.le_refl _,by omega,by rw [←this,List.drop_zero,List.take_length],.inr rfl,okCells_append h1 hok,rfl⟩)
  rcases k1 with ⟨rfl,rfl,rfl,rfl⟩|⟨b,off,xs,wr,g,rfl,hz,ho,_,hg,rfl,rfl,rfl⟩|⟨b,g,off,cp,xs,rfl,hc,hl,rfl,hg,hov,rfl⟩
  ·refine main _ _ [(H.next,.cells new true sz)] ?_ (by have:=fresh [] 0 rfl (by simp);simpa using this) (by simpa using k3.push _)
   simp only [aappendK,if_neg hk]
   rw [if_pos ⟨cnd.1,cnd.2.1,cnd.2.2,hok⟩]
  ·refine main (.slice (some ⟨H.next,0,none⟩) (0+kk) (0+kk)) (H.push (.cells new true sz)) [(H.next,.cells new true sz)] ?_ (by have:=fresh [] 0 rfl (by simp);simpa using this) (by simpa using k3.push _)
   have hget:H.get b=some (.cells xs wr g):=h2.has (.inl hz)
   have hz0:getCells xs off (0*sz)=some []:=by rw [Nat.zero_mul];exact getCells_zero ho
   simp only [aappendK]
   rw [if_neg (by omega),if_pos ⟨cnd.1,by simpa using cnd.2.1,by simpa using cnd.2.2,hok⟩,hget]
   simp only [hz0,Option.bind_eq_bind,Option.bind_some]
   rw [if_pos (by rfl),if_pos (by simpa using hg)]
   simp
  ·have hget:H.get b=some (.cells xs true g):=k3.own (b,.cells xs true g) (by simp)
   have hmc:mm*sz≤cp*sz:=Nat.mul_le_mul_right _ hc
   have hall:getCells xs off (mm*sz)=some ((xs.drop off).take (mm*sz)):=by unfold getCells;rw [if_pos (by omega)]
   have hovt:okCells ((xs.drop off).take (mm*sz))=true:=by
    simp only [okCells,List.all_eq_true] at hov ⊢
    exact fun x hx=>hov x (List.mem_of_mem_drop (List.mem_of_mem_take hx))
   have hlt:((xs.drop off).take (mm*sz)).length=mm*sz:=by rw [List.length_take,List.length_drop];omega
   have k3':St0 H Z ((b,.cells xs true g)::(r++φ)):=by simpa using k3
   by_cases hroom:mm+kk≤cp
   ·have hkm:(mm+kk)*sz≤cp*sz:=Nat.mul_le_mul_right _ hroom
    rw [Nat.add_mul] at hkm
    have hfit:off+mm*sz+new.length≤xs.length:=by rw [hlen];omega
    refine main (.slice (some ⟨b,off,none⟩) (mm+kk) cp) (H.put b (some (.cells (xs.take (off+mm*sz)++(new++xs.drop (off+mm*sz+new.length))) true g))) [(b,.cells (xs.take (off+mm*sz)++(new++xs.drop (off+mm*sz+new.length))) true g)] ?_ (.inr (.inr ⟨b,g,off,cp,_,rfl,hroom,?_,?_,hg,?_,rfl⟩)) (St0.put k3')
    ·simp only [aappendK]
     rw [if_pos hroom,if_neg hk,if_pos hok]
     simp only [Heap.write,hget,setCells,if_pos hfit,Option.map_some,Option.bind_eq_bind,Option.bind_some]
    ·simp only [List.length_append,List.length_take,List.length_drop];omega
    ·rw [Nat.add_mul,←hlen]
     have e1:(xs.take (off+mm*sz)++(new++xs.drop (off+mm*sz+new.length))).drop off=(xs.drop off).take (mm*sz)++(new++xs.drop (off+mm*sz+new.length)):=by
      rw [List.drop_append,List.drop_take,List.length_take]
      have a1:off+mm*sz - off=mm*sz:=by omega
      have a2:off - min (off+mm*sz) xs.length=0:=by omega
      rw [a1,a2,List.drop_zero]
     rw [e1,List.take_append,List.take_of_length_le (by rw [hlt];omega),hlt,Nat.add_sub_cancel_left,List.take_append,List.take_of_length_le (Nat.le_refl _)]
     simp
    ·refine okCells_append ?_ (okCells_append hok ?_)
     ·simp only [okCells,List.all_eq_true] at hov ⊢
      exact fun x hx=>hov x (List.mem_of_mem_take hx)
     ·simp only [okCells,List.all_eq_true] at hov ⊢
      exact fun x hx=>hov x (List.mem_of_mem_drop hx)
   ·have cnd2:0 < sz∧by_*(mm+kk)≤140737488355328∧mm+kk≤140737488355328∧okCells new=true:=⟨hsz',hb,hb',hok⟩
    have push1:St0 (H.push (.cells ((xs.drop off).take (mm*sz)++new) true sz)) Z ([(H.next,.cells ((xs.drop off).take (mm*sz)++new) true sz)]++(r++φ)):=by
     have:=(k3'.push (.cells ((xs.drop off).take (mm*sz)++new) true sz))
     refine (St0.drop (σ:=[(b,.cells xs true g)]) (this.perm ?_))
     exact List.Perm.swap _ _ _
    by_cases hend:g=0∨off+cp*g≠xs.length
    ·refine main (.slice (some ⟨H.next,0,none⟩) (mm+kk) (mm+kk)) (H.push (.cells ((xs.drop off).take (mm*sz)++new) true sz)) [(H.next,.cells ((xs.drop off).take (mm*sz)++new) true sz)] ?_ (fresh _ _ hovt hlt) push1
     simp only [aappendK]
     rw [if_neg hroom,if_pos cnd2,hget]
     simp only [hall,Option.bind_eq_bind,Option.bind_some]
     rw [if_pos hovt,if_pos hend]
    ·rcases hg with rfl|rfl
     ·exact absurd (.inl rfl) hend
     ·refine main (.slice (some ⟨H.next,0,none⟩) (mm+kk) (mm+kk)) ((H.put b none).push (.cells ((xs.drop off).take (mm*g)++new) true g)) [(H.next,.cells ((xs.drop off).take (mm*g)++new) true g)] ?_ (fresh _ _ hovt hlt) ?_
      ·simp only [aappendK]
       rw [if_neg hroom,if_pos cnd2,hget]
       simp only [hall,Option.bind_eq_bind,Option.bind_some]
       rw [if_pos hovt,if_neg hend,if_pos (by simp)]
      ·exact (St0.kill k3').push _
theorem Wk.appendQ {t u e:TypeId} {s x:Operand} {as:Array Operand} {ats:Array TypeId} {v w:Value} {tz tb sz by_ mm kk:Nat} {tzz z:List Value} {tc cm:Bool} {de:TypeDesc} {iu:TI} {vs new:List Value} {B:List SA}
  (ha:as.toList=[s,x]) (hat:ats.toList=[t,u]) (ht:M.T t=some ⟨.slice e,tz,tb,tzz,tc⟩) (hu:M.T u=some iu) (hnI:notInt iu.d=true) (he:M.T e=some ⟨de,sz,by_,z,cm⟩)
  (hs:evL L s=some v) (hx:evL L x=some w) (p:Rem A (oq sz v mm vs) B) (src:Src Z B sz w kk new) (hsz:Nat.blt 0 sz=true) (hok:okCells new=true) (hlen:new.length=kk*sz) (hb:by_*(mm+kk)≤140737488355328) (hb':mm+kk≤140737488355328) (hn:keepP m ps=[])
  (hw:wantL ops L g=some true) (hd:Nat.blt d n=true) (c:∀ v',Wk M fn rd n Q (.r ops dr pl []::k) ((d,v')::L) Z (oq sz v' (mm+kk) (vs++new)::B)) :
  Wk M fn rd n Q (.r ops dr (⟨i,m,⟨some d,.call ⟨.builtin .append,as,ats⟩,ty,pos,af,g⟩⟩::pl) ps::k) L Z A :=
 Wk.e hw rfl hd (Ef.appendQ ha hat ht hu hnI he hs hx p src hsz hok hlen hb hb' fun v'=>⟨by rw [hn];exact PnAll.nil,by rw [hn];exact c v'⟩)
theorem Wk.lenOq {x:Operand} {t e:TypeId} {sz' by_:Nat} {z:List Value} {cm:Bool} {sz:Nat} {v:Value} {mm:Nat} {vs:List Value} {B:List SA} {ats:Array TypeId} {as:Array Operand} (hx:evL L x=some v) (p:Rem A (oq sz v mm vs) B) (ha:as.toList=[x]) (ht:ats.toList=[t]) (hi:M.T t=some ⟨.slice e,sz',by_,z,cm⟩)
  (hw:wantL ops L g=some true) (hd:Nat.blt d n=true) (c:Wk M fn rd n Q (.r ops dr pl ps::k) ((d,.int .i64 mm)::L) Z A) :
  Wk M fn rd n Q (.r ops dr (⟨i,m,⟨some d,.call ⟨.builtin .len,as,ats⟩,ty,pos,af,g⟩⟩::pl) ps::k) L Z A:=by
 refine Wk.knowr p (fun s h=>oq.form h) ?_
 rintro ⟨a,cp,rfl⟩
 exact Wk.len hx ha ht hi hw hd c
end
def nowant (ops:Array Oper) (L:Lo):Option (Nat×Bool)→Bool
 | none=>false
 | some (g,_)=>match nthL ops.toList g with
  | some o=>match o.dst with
   | some d=>match lk L d with
    | some (.tuple _)=>true
    | _=>false
   | none=>false
  | none=>false
theorem nowant_eq {ops:Array Oper} {L:Lo} {g:Option (Nat×Bool)} (h:nowant ops L g=true) {o:Oper} (ho:o.guard=g) {env:Env} (hA:Agr env L):Region.wanted o (yielded ops env)=false:=by
 unfold nowant at h
 unfold Region.wanted
 rw [ho]
 cases g with
 | none=>cases h
 | some p =>
  obtain ⟨g,w⟩:=p
  simp only at h ⊢
  split at h
  ·rename_i o' ho'
   split at h
   ·rename_i d hd
    split at h
    ·rename_i ts hc
     rw [nthL_eq] at ho'
     have e:env.getD d undef=.tuple ts:=hA d _ hc
     have ho2:ops[g]?=some o':=by simpa using ho'
     simp only [yielded,ho2,Option.bind_some,hd]
     rcases Nat.lt_or_ge d env.size with q|q
     ·rw [Array.getD_eq_getD_getElem?,Array.getElem?_eq_getElem q] at e
      rw [Array.getElem?_eq_getElem q]
      simp only [Option.getD_some] at e
      rw [e];rfl
     ·rw [Array.getElem?_eq_none q];rfl
    ·cases h
   ·cases h
  ·cases h
section
variable {M:Mach} {fn:FuncId} {rd:Option Nat} {n:Nat} {Q:PQ} {k:List KI} {L:Lo} {Z:Zone} {A:List SA}
variable {ops:Array Oper} {dr:Bool} {pl:List Ro} {ps:List Pn} {i m d:Nat} {op:Op} {ty:TypeId} {pos:String} {af:Array Edge} {g:Option (Nat×Bool)}
theorem Wk.skipu (hw:nowant ops L g=true) (hd:Nat.blt d n=true) (c:Wk M fn rd n Q (.r ops dr pl ps::k) ((d,undef)::L) Z A):Wk M fn rd n Q (.r ops dr (⟨i,m,⟨some d,op,ty,pos,af,g⟩⟩::pl) ps::k) L Z A:=by
 intro ms hm qs hq env H φ h1 h2 h3
 have hdn:d < env.size:=by rw [h1];exact of_blt hd
 have ho:=(hm _ (List.mem_cons_self ..)).1
 simp only at ho
 have hr:=nowant_eq hw (o:=⟨some d,op,ty,pos,af,g⟩) rfl h2
 obtain ⟨f,env',H',L',Z',A',k1,k2⟩:=c ms (fun r hr=>hm r (by simp [hr])) qs hq (env.setIfInBounds d undef) H φ (by simpa using h1) (h2.put hdn undef) h3
 refine ⟨f,env',H',L',Z',A',?_,k2⟩
 cases dr with
 | false =>
  simp only [Bool.false_eq_true,if_false] at k1 ⊢
  simp only [List.map_cons,evalSeq,ho,hr,Bool.false_eq_true,if_false]
  exact k1
 | true =>
  simp only [if_true] at k1 ⊢
  simp only [List.map_cons,evalDraw,ho,hr,Bool.false_eq_true,if_false]
  exact k1
end
end Go.Ev
namespace Go.Ev
section
variable {M:Mach} {fn:FuncId} {rd:Option Nat} {n:Nat} {Q:PQ} {k:List KI} {L:Lo} {Z:Zone} {A:List SA}
end
end Go.Ev
namespace Go.Ev
def pureL (T:Tab) (L:Lo):Op→Option Value
 | .move x=>evL L x
 | .assign x=>evL L x
 | .pick c a b=>match evL L c with
  | some (.bool true)=>evL L a
  | some (.bool false)=>evL L b
  | _=>none
 | .binOp .add _ _ _ _=>none
 | .binOp .sub _ _ _ _=>none
 | .binOp .mul _ _ _ _=>none
 | .binOp .quo _ _ _ _=>none
 | .binOp .rem _ _ _ _=>none
 | .binOp op t x y _=>match evL L x,evL L y with
  | some a,some b=>abin T op t x y a b
  | _,_=>none
 | .unOp op _ x=>match evL L x with
  | some a=>aun op a
  | none=>none
 | .extract x n=>match evL L x with
  | some (.tuple vs)=>vs[n]?
  | _=>none
 | .nilCheck x=>match evL L x with
  | some a=>anilchk a
  | none=>none
 | .makeFunc (.func f) x y=>match evsL L x.toList,evsL L y.toList with
  | some xs,some ys=>some (.func (.func f) ⟨xs⟩ ⟨ys⟩)
  | _,_=>none
 | .fieldAddr s x n=>match T s with
  | some ⟨.struct fs,_,_,_,_⟩=>match fs[n]? with
   | some ⟨_,ft,fo,_,_,_,_⟩=>match T ft with
    | some ⟨_,sz,_,_,_⟩=>bif Nat.beq sz 0 then none else (match evL L x with
     | some (.pointer (some ⟨b,off,none⟩))=>some (.pointer (some ⟨b,off+fo,none⟩))
     | _=>none)
    | none=>none
   | none=>none
  | _=>none
 | _=>none
theorem pureL_ok {T:Tab} {L:Lo} {op:Op} {v:Value} (h:pureL T L op=some v):(∀ env,Agr env L→apure T (evOp env) op=some v)∧isRead op=false∧okind T op=.V:=by
 unfold pureL at h
 split at h
 ·exact ⟨fun env hA=>by simp only [apure,hA.ev h],rfl,rfl⟩
 ·exact ⟨fun env hA=>by simp only [apure,hA.ev h],rfl,rfl⟩
 ·split at h
  ·rename_i hc;exact ⟨fun env hA=>by simp only [apure,hA.ev hc,Option.bind_eq_bind,Option.bind_some,hA.ev h],rfl,rfl⟩
  ·rename_i hc;exact ⟨fun env hA=>by simp only [apure,hA.ev hc,Option.bind_eq_bind,Option.bind_some,hA.ev h],rfl,rfl⟩
  ·cases h
 ·cases h
 ·cases h
 ·cases h
 ·cases h
 ·cases h
 ·split at h
  ·rename_i h1 h2;exact ⟨fun env hA=>by simp only [apure,hA.ev h1,hA.ev h2,Option.bind_eq_bind,Option.bind_some,h],rfl,rfl⟩
  ·cases h
 ·split at h
  ·rename_i h1;exact ⟨fun env hA=>by simp only [apure,hA.ev h1,Option.bind_eq_bind,Option.bind_some,h],rfl,rfl⟩
  ·cases h
 ·split at h
  ·rename_i h1;exact ⟨fun env hA=>by simp only [apure,hA.ev h1,Option.bind_eq_bind,Option.bind_some,h],rfl,rfl⟩
  ·cases h
 ·split at h
  ·rename_i h1;exact ⟨fun env hA=>by simp only [apure,hA.ev h1,Option.bind_eq_bind,Option.bind_some,h],rfl,rfl⟩
  ·cases h
 ·split at h
  ·rename_i h1 h2;cases h;exact ⟨fun env hA=>by simp only [apure,hA.evs h1,hA.evs h2,Option.bind_eq_bind,Option.bind_some],rfl,rfl⟩
  ·cases h
 ·split at h
  ·rename_i h1
   split at h
   ·rename_i h2
    split at h
    ·rename_i h3
     simp only [cond_eq_ite,Nat.beq_eq] at h
     split at h
     ·cases h
     ·rename_i hz
      split at h
      ·rename_i h4
       cases h
       exact ⟨fun env hA=>by simp only [apure,h1,h2,h3,hA.ev h4,Option.bind_eq_bind,Option.bind_some,if_neg hz],rfl,rfl⟩
      ·cases h
    ·cases h
   ·cases h
  ·cases h
 ·cases h
def robsO:List Oper→Nat→Option (List Ro)
 | [],_=>some []
 | o::r,i=>match robsO r (i+1) with
  | some l=>some (⟨i,0,o⟩::l)
  | none=>none
theorem robsO_eq:∀ {l:List Oper} {i:Nat} {r:List Ro},robsO l i=some r→robs l i=r
 | [],i,r,h=>by simp only [robsO,Option.some.injEq] at h;exact h
 | o::l,i,r,h=>by
  simp only [robsO] at h
  split at h
  ·rename_i l' e
   cases h
   simp only [robs,robsO_eq e]
  ·cases h
section
variable {M:Mach} {fn:FuncId} {rd:Option Nat} {n:Nat} {Q:PQ} {k:List KI} {L:Lo} {Z:Zone} {A:List SA}
variable {ops:Array Oper} {dr:Bool} {pl:List Ro} {ps:List Pn} {i m d:Nat} {op:Op} {ty:TypeId} {pos:String} {af:Array Edge} {g:Option (Nat×Bool)}
theorem Wk.seqE {id:Nat} (hp:ops.toList.all (fun o=>plainOp o.op)=true) (hl:robsO ops.toList 0=some pl) (h:Wk M fn rd n Q (.r ops false pl []::k) L Z A):Wk M fn rd n Q (.c (.region id ops false)::k) L Z A:=by
 have:=robsO_eq hl
 subst this
 exact Wk.seqr hp h
theorem Wk.pu {v:Value} (h:pureL M.T L op=some v) (hw:wantL ops L g=some true) (hd:Nat.blt d n=true) (c:Wk M fn rd n Q (.r ops dr pl ps::k) ((d,v)::L) Z A) :
  Wk M fn rd n Q (.r ops dr (⟨i,m,⟨some d,op,ty,pos,af,g⟩⟩::pl) ps::k) L Z A :=
 Wk.p (pureL_ok h).2.1 (pureL_ok h).2.2 (.pure (pureL_ok h).1) hw hd c
theorem Wk.len2 {x:Operand} {t e:TypeId} {sz by_:Nat} {z:List Value} {cm:Bool} {a:Option Addr} {mm cp:Nat} {ats:Array TypeId} {as:Array Operand} (ha:as.toList=[x]) (ht:ats.toList=[t]) (hi:M.T t=some ⟨.slice e,sz,by_,z,cm⟩) (hx:evL L x=some (.slice a mm cp))
  (hw:wantL ops L g=some true) (hd:Nat.blt d n=true) (c:Wk M fn rd n Q (.r ops dr pl ps::k) ((d,.int .i64 mm)::L) Z A) :
  Wk M fn rd n Q (.r ops dr (⟨i,m,⟨some d,.call ⟨.builtin .len,as,ats⟩,ty,pos,af,g⟩⟩::pl) ps::k) L Z A:=Wk.len hx ha ht hi hw hd c
theorem Wk.lenSl2 {x:Operand} {t e:TypeId} {sz' by_:Nat} {z:List Value} {cm:Bool} {sz:Nat} {v:Value} {mm:Nat} {vs:List Value} {ats:Array TypeId} {as:Array Operand} (ha:as.toList=[x]) (ht:ats.toList=[t]) (hi:M.T t=some ⟨.slice e,sz',by_,z,cm⟩) (hx:evL L x=some v) (h:Sl Z sz v mm vs)
  (hw:wantL ops L g=some true) (hd:Nat.blt d n=true) (c:Wk M fn rd n Q (.r ops dr pl ps::k) ((d,.int .i64 mm)::L) Z A) :
  Wk M fn rd n Q (.r ops dr (⟨i,m,⟨some d,.call ⟨.builtin .len,as,ats⟩,ty,pos,af,g⟩⟩::pl) ps::k) L Z A:=Wk.lenSl hx h ha ht hi hw hd c
theorem Wk.lenOl2 {x:Operand} {t e:TypeId} {sz' by_:Nat} {z:List Value} {cm:Bool} {sz:Nat} {v:Value} {mm:Nat} {vs:List Value} {B:List SA} {ats:Array TypeId} {as:Array Operand} (ha:as.toList=[x]) (ht:ats.toList=[t]) (hi:M.T t=some ⟨.slice e,sz',by_,z,cm⟩) (hx:evL L x=some v) (p:Rem A (ol sz v mm vs) B)
  (hw:wantL ops L g=some true) (hd:Nat.blt d n=true) (c:Wk M fn rd n Q (.r ops dr pl ps::k) ((d,.int .i64 mm)::L) Z A) :
  Wk M fn rd n Q (.r ops dr (⟨i,m,⟨some d,.call ⟨.builtin .len,as,ats⟩,ty,pos,af,g⟩⟩::pl) ps::k) L Z A:=Wk.lenOl hx p ha ht hi hw hd c
theorem Wk.lenOq2 {x:Operand} {t e:TypeId} {sz' by_:Nat} {z:List Value} {cm:Bool} {sz:Nat} {v:Value} {mm:Nat} {vs:List Value} {B:List SA} {ats:Array TypeId} {as:Array Operand} (ha:as.toList=[x]) (ht:ats.toList=[t]) (hi:M.T t=some ⟨.slice e,sz',by_,z,cm⟩) (hx:evL L x=some v) (p:Rem A (oq sz v mm vs) B)
  (hw:wantL ops L g=some true) (hd:Nat.blt d n=true) (c:Wk M fn rd n Q (.r ops dr pl ps::k) ((d,.int .i64 mm)::L) Z A) :
  Wk M fn rd n Q (.r ops dr (⟨i,m,⟨some d,.call ⟨.builtin .len,as,ats⟩,ty,pos,af,g⟩⟩::pl) ps::k) L Z A:=Wk.lenOq hx p ha ht hi hw hd c
theorem Wk.lenStr2 {x:Operand} {t:TypeId} {sz by_:Nat} {z:List Value} {cm:Bool} {s:ByteArray} {ats:Array TypeId} {as:Array Operand} (ha:as.toList=[x]) (ht:ats.toList=[t]) (hi:M.T t=some ⟨.string,sz,by_,z,cm⟩) (hx:evL L x=some (.string s))
  (hw:wantL ops L g=some true) (hd:Nat.blt d n=true) (c:Wk M fn rd n Q (.r ops dr pl ps::k) ((d,.int .i64 s.size)::L) Z A) :
  Wk M fn rd n Q (.r ops dr (⟨i,m,⟨some d,.call ⟨.builtin .len,as,ats⟩,ty,pos,af,g⟩⟩::pl) ps::k) L Z A:=Wk.lenStr hx ha ht hi hw hd c
theorem Wk.max2 {x y:Operand} {q q':IntKind} {a b:Int} {ats:Array TypeId} {as:Array Operand} (ha:as.toList=[x,y]) (hx:evL L x=some (.int q a)) (hy:evL L y=some (.int q' b))
  (hw:wantL ops L g=some true) (hd:Nat.blt d n=true) (c:Wk M fn rd n Q (.r ops dr pl ps::k) ((d,.int q (if b > a then b else a))::L) Z A) :
  Wk M fn rd n Q (.r ops dr (⟨i,m,⟨some d,.call ⟨.builtin .max,as,ats⟩,ty,pos,af,g⟩⟩::pl) ps::k) L Z A:=Wk.max hx hy ha hw hd c
theorem Wk.min2 {x y:Operand} {q q':IntKind} {a b:Int} {ats:Array TypeId} {as:Array Operand} (ha:as.toList=[x,y]) (hx:evL L x=some (.int q a)) (hy:evL L y=some (.int q' b))
  (hw:wantL ops L g=some true) (hd:Nat.blt d n=true) (c:Wk M fn rd n Q (.r ops dr pl ps::k) ((d,.int q (if b < a then b else a))::L) Z A) :
  Wk M fn rd n Q (.r ops dr (⟨i,m,⟨some d,.call ⟨.builtin .min,as,ats⟩,ty,pos,af,g⟩⟩::pl) ps::k) L Z A:=Wk.min hx hy ha hw hd c
theorem Wk.iaSl2 {t e:TypeId} {x ix:Operand} {sz by_:Nat} {z:List Value} {cm:Bool} {de:TypeDesc} {es eb:Nat} {ez:List Value} {ec:Bool} {q:IntKind} {j':Int} {v:Value} {len:Nat} {vs cs:List Value} {j:Nat} (hi:M.T t=some ⟨.slice e,sz,by_,z,cm⟩) (hj:M.T e=some ⟨de,es,eb,ez,ec⟩)
  (hix:evL L ix=some (.int q j')) (hx:evL L x=some v) (e1:j'=(j:Int)) (hw:wantL ops L g=some true) (hd:Nat.blt d n=true) (h:Sl Z es v len vs) (e2:j < len) (hc:getCells vs (j*es) es=some cs)
  (c:∀ b off,Pz Z b off cs→Wk M fn rd n Q (.r ops dr pl ps::k) ((d,.pointer (some ⟨b,off,none⟩))::L) Z A):Wk M fn rd n Q (.r ops dr (⟨i,m,⟨some d,.indexAddr t x ix,ty,pos,af,g⟩⟩::pl) ps::k) L Z A :=
 Wk.iaSl j h hw hd hi hj hix hx e1 e2 hc c
end
structure Hid (R:Prop):Prop where
 out:R
theorem go {P R:Prop} (h:R) (w:Hid R→P:=by
 intro h
 first
  | ((with_reducible_and_instances apply Wk.pu);exact rfl;exact rfl;exact rfl)
  | ((with_reducible_and_instances apply Wk.rnil))
  | ((with_reducible_and_instances apply Wk.loadP0);exact rfl;exact rfl;(assumption);exact rfl;exact rfl;exact rfl;exact rfl)
  | ((with_reducible_and_instances apply Wk.loadL);exact rfl;exact rfl;(first|exact Or.inl (by assumption)|(refine Or.inr ?_;repeat (first|exact List.Mem.head _|refine List.Mem.tail _ ?_)));exact rfl;exact rfl;exact rfl;exact rfl)
  | ((with_reducible_and_instances apply Wk.iaSl2);exact rfl;exact rfl;exact rfl;exact rfl;exact rfl;exact rfl;exact rfl;(assumption);(first|assumption|omega);(first|assumption|exact getCells_map (by first|assumption|omega)))
  | ((with_reducible_and_instances apply Wk.add);exact rfl;exact rfl;(omega);exact rfl;exact rfl)
  | ((with_reducible_and_instances apply Wk.len2);exact rfl;exact rfl;exact rfl;exact rfl;exact rfl;exact rfl)
  | ((with_reducible_and_instances apply Wk.lenSl2);exact rfl;exact rfl;exact rfl;exact rfl;(assumption);exact rfl;exact rfl)
  | ((with_reducible_and_instances apply Wk.seq))
  | ((with_reducible_and_instances apply Wk.seqE);(kernel_rfl);exact rfl)
  | ((with_reducible_and_instances apply Wk.skipd);exact rfl;exact rfl)
  | ((with_reducible_and_instances apply Wk.condT);exact rfl)
  | ((with_reducible_and_instances apply Wk.condF);exact rfl)
  | ((with_reducible_and_instances apply Wk.exit);exact rfl)
  | ((with_reducible_and_instances apply Wk.block))
  | ((with_reducible_and_instances apply Wk.blk))
  | ((with_reducible_and_instances apply Wk.skip))
  | ((with_reducible_and_instances apply Wk.skipu);exact rfl;exact rfl)
  | ((with_reducible_and_instances apply Wk.skip0);exact rfl)
  | ((with_reducible_and_instances apply Wk.store);exact rfl;exact rfl;exact rfl;exact rfl;exact rfl;(repeat (first|exact Upd.head|apply Upd.tail));exact rfl;exact rfl;exact rfl)
  | ((with_reducible_and_instances apply Wk.build);exact rfl;exact rfl;exact rfl;exact rfl;exact rfl;exact rfl)
  | ((with_reducible_and_instances apply Wk.boxA);exact rfl;exact rfl;exact rfl)
  | ((with_reducible_and_instances apply Wk.boxS);exact rfl;exact rfl;exact rfl;exact rfl)
  | ((with_reducible_and_instances apply Wk.boxS);exact rfl;exact rfl;exact rfl;(exact Sl.cellsL (by assumption)))
  | ((with_reducible_and_instances apply Wk.alloc);exact rfl;exact rfl;exact rfl)
  | ((with_reducible_and_instances apply Wk.lenStr2);exact rfl;exact rfl;exact rfl;exact rfl;exact rfl;exact rfl)
  | ((with_reducible_and_instances apply Wk.lenOq2);exact rfl;exact rfl;exact rfl;exact rfl;(repeat (first|exact Rem.head|apply Rem.tail));exact rfl;exact rfl)
  | ((with_reducible_and_instances apply Wk.lenOl2);exact rfl;exact rfl;exact rfl;exact rfl;(repeat (first|exact Rem.head|apply Rem.tail));exact rfl;exact rfl)
  | ((with_reducible_and_instances apply Wk.sub);exact rfl;exact rfl;(omega);exact rfl;exact rfl)
  | ((with_reducible_and_instances apply Wk.mul);exact rfl;exact rfl;(omega);exact rfl;exact rfl)
  | ((with_reducible_and_instances apply Wk.quo);exact rfl;exact rfl;(omega);exact rfl;exact rfl)
  | ((with_reducible_and_instances apply Wk.rem);exact rfl;exact rfl;(omega);exact rfl;exact rfl)
  | ((with_reducible_and_instances apply Wk.conv);exact rfl;exact rfl;exact rfl;(exact IntKind.wrap_u8 _);exact rfl;exact rfl;exact rfl)
  | ((with_reducible_and_instances apply Wk.ixStr);exact rfl;exact rfl;exact rfl;exact rfl;(assumption);exact rfl;exact rfl)
  | ((with_reducible_and_instances apply Wk.max2);exact rfl;exact rfl;exact rfl;exact rfl;exact rfl)
  | ((with_reducible_and_instances apply Wk.min2);exact rfl;exact rfl;exact rfl;exact rfl;exact rfl)
  | ((with_reducible_and_instances apply Wk.field);exact rfl;exact rfl;exact rfl;exact rfl;exact rfl;exact rfl;exact rfl)
 repeat (first
  | ((with_reducible_and_instances apply Wk.pu);exact rfl;exact rfl;exact rfl)
  | ((with_reducible_and_instances apply Wk.rnil))
  | ((with_reducible_and_instances apply Wk.loadP0);exact rfl;exact rfl;(assumption);exact rfl;exact rfl;exact rfl;exact rfl)
  | ((with_reducible_and_instances apply Wk.loadL);exact rfl;exact rfl;(first|exact Or.inl (by assumption)|(refine Or.inr ?_;repeat (first|exact List.Mem.head _|refine List.Mem.tail _ ?_)));exact rfl;exact rfl;exact rfl;exact rfl)
  | ((with_reducible_and_instances apply Wk.iaSl2);exact rfl;exact rfl;exact rfl;exact rfl;exact rfl;exact rfl;exact rfl;(assumption);(first|assumption|omega);(first|assumption|exact getCells_map (by first|assumption|omega)))
  | ((with_reducible_and_instances apply Wk.add);exact rfl;exact rfl;(omega);exact rfl;exact rfl)
  | ((with_reducible_and_instances apply Wk.len2);exact rfl;exact rfl;exact rfl;exact rfl;exact rfl;exact rfl)
  | ((with_reducible_and_instances apply Wk.lenSl2);exact rfl;exact rfl;exact rfl;exact rfl;(assumption);exact rfl;exact rfl)
  | ((with_reducible_and_instances apply Wk.seq))
  | ((with_reducible_and_instances apply Wk.seqE);(kernel_rfl);exact rfl)
  | ((with_reducible_and_instances apply Wk.skipd);exact rfl;exact rfl)
  | ((with_reducible_and_instances apply Wk.condT);exact rfl)
  | ((with_reducible_and_instances apply Wk.condF);exact rfl)
  | ((with_reducible_and_instances apply Wk.exit);exact rfl)
  | ((with_reducible_and_instances apply Wk.block))
  | ((with_reducible_and_instances apply Wk.blk))
  | ((with_reducible_and_instances apply Wk.skip))
  | ((with_reducible_and_instances apply Wk.skipu);exact rfl;exact rfl)
  | ((with_reducible_and_instances apply Wk.skip0);exact rfl)
  | ((with_reducible_and_instances apply Wk.store);exact rfl;exact rfl;exact rfl;exact rfl;exact rfl;(repeat (first|exact Upd.head|apply Upd.tail));exact rfl;exact rfl;exact rfl)
  | ((with_reducible_and_instances apply Wk.build);exact rfl;exact rfl;exact rfl;exact rfl;exact rfl;exact rfl)
  | ((with_reducible_and_instances apply Wk.boxA);exact rfl;exact rfl;exact rfl)
  | ((with_reducible_and_instances apply Wk.boxS);exact rfl;exact rfl;exact rfl;exact rfl)
  | ((with_reducible_and_instances apply Wk.boxS);exact rfl;exact rfl;exact rfl;(exact Sl.cellsL (by assumption)))
  | ((with_reducible_and_instances apply Wk.alloc);exact rfl;exact rfl;exact rfl)
  | ((with_reducible_and_instances apply Wk.lenStr2);exact rfl;exact rfl;exact rfl;exact rfl;exact rfl;exact rfl)
  | ((with_reducible_and_instances apply Wk.lenOq2);exact rfl;exact rfl;exact rfl;exact rfl;(repeat (first|exact Rem.head|apply Rem.tail));exact rfl;exact rfl)
  | ((with_reducible_and_instances apply Wk.lenOl2);exact rfl;exact rfl;exact rfl;exact rfl;(repeat (first|exact Rem.head|apply Rem.tail));exact rfl;exact rfl)
  | ((with_reducible_and_instances apply Wk.sub);exact rfl;exact rfl;(omega);exact rfl;exact rfl)
  | ((with_reducible_and_instances apply Wk.mul);exact rfl;exact rfl;(omega);exact rfl;exact rfl)
  | ((with_reducible_and_instances apply Wk.quo);exact rfl;exact rfl;(omega);exact rfl;exact rfl)
  | ((with_reducible_and_instances apply Wk.rem);exact rfl;exact rfl;(omega);exact rfl;exact rfl)
  | ((with_reducible_and_instances apply Wk.conv);exact rfl;exact rfl;exact rfl;(exact IntKind.wrap_u8 _);exact rfl;exact rfl;exact rfl)
  | ((with_reducible_and_instances apply Wk.ixStr);exact rfl;exact rfl;exact rfl;exact rfl;(assumption);exact rfl;exact rfl)
  | ((with_reducible_and_instances apply Wk.max2);exact rfl;exact rfl;exact rfl;exact rfl;exact rfl)
  | ((with_reducible_and_instances apply Wk.min2);exact rfl;exact rfl;exact rfl;exact rfl;exact rfl)
  | ((with_reducible_and_instances apply Wk.field);exact rfl;exact rfl;exact rfl;exact rfl;exact rfl;exact rfl;exact rfl))
 exact h.out):P:=w ⟨h⟩
end Go.Ev
namespace Go.Ev
end Go.Ev
namespace Go.Ev
section
variable {M:Mach} {fn:FuncId} {rd:Option Nat} {n:Nat} {Q:PQ} {k:List KI} {L:Lo} {Z:Zone} {A:List SA}
variable {ops:Array Oper} {dr:Bool} {pl:List Ro} {ps:List Pn}
theorem Wk.cutr (G:Lo→Zone→List SA→Prop) (h:Wk M fn rd n Q (.r ops dr pl ps::.inv G::k) L Z A) (g:∀ L' Z' A',Ext Z Z'→G L' Z' A'→Wk M fn rd n Q k L' Z' A'):Wk M fn rd n Q (.r ops dr pl ps::k) L Z A :=
 Wr.mono h fun L' Z' A' hz hq=>g L' Z' A' hz hq
end
end Go.Ev
namespace Go.Ev
section
variable {M:Mach} {fn:FuncId} {rd:Option Nat} {n:Nat} {Q:PQ} {k:List KI} {L:Lo} {Z:Zone} {A:List SA}
variable {ops:Array Oper} {dr:Bool} {pl:List Ro} {ps:List Pn} {i m d:Nat} {ty:TypeId} {pos:String} {af:Array Edge} {g:Option (Nat×Bool)}
end
end Go.Ev
namespace Go.Ev
section
variable {M:Mach} {fn:FuncId} {rd:Option Nat} {n:Nat} {Q:PQ} {k:List KI} {L:Lo} {Z:Zone} {A:List SA}
variable {ops:Array Oper} {dr:Bool} {pl:List Ro} {ps:List Pn} {i m d:Nat} {ty:TypeId} {pos:String} {af:Array Edge} {g:Option (Nat×Bool)}
theorem Wk.iaP {t e:TypeId} {x ix:Operand} {sz by_:Nat} {z:List Value} {cm:Bool} {de:TypeDesc} {es eb:Nat} {ez:List Value} {ec:Bool} {q:IntKind} {j':Int} {v:Value} {len b:Nat} {vs:List Value} {B:List SA} (j:Nat) (hi:M.T t=some ⟨.slice e,sz,by_,z,cm⟩) (hj:M.T e=some ⟨de,es,eb,ez,ec⟩)
  (hix:evL L ix=some (.int q j')) (hx:evL L x=some v) (p:Rem A (olp b es v len vs) B) (hw:wantL ops L g=some true) (hd:Nat.blt d n=true) (e1:j'=(j:Int)) (e2:j < len)
  (c:Wk M fn rd n Q (.r ops dr pl ps::k) ((d,.pointer (some ⟨b,j*es,none⟩))::L) Z A):Wk M fn rd n Q (.r ops dr (⟨i,m,⟨some d,.indexAddr t x ix,ty,pos,af,g⟩⟩::pl) ps::k) L Z A :=
 Wk.iaOlp j p hw hd hi hj hix hx e1 e2 c
end
theorem kpI {L:Lo} {t:Nat} {a b:Int} (h:lk L t=some (.int .i64 a)) (e:a=b):lk L t=some (.int .i64 b):=by rw [h,e]
end Go.Ev
namespace Go.Ev
section
variable {M:Mach} {fn:FuncId} {rd:Option Nat} {n:Nat} {Q:PQ} {k:List KI} {L:Lo} {Z:Zone} {A:List SA}
variable {ops:Array Oper} {dr:Bool} {pl:List Ro} {ps:List Pn} {i m d:Nat} {ty:TypeId} {pos:String} {af:Array Edge} {g:Option (Nat×Bool)}
theorem Wk.storeD {t:TypeId} {a x:Operand} {b off gg:Nat} {v:Value} {de:TypeDesc} {sz by_:Nat} {z:List Value} {cm:Bool} {vs vs':List Value} {B:List SA} (hi:M.T t=some ⟨de,sz,by_,z,cm⟩) (ha:evL L a=some (.pointer (some ⟨b,off,none⟩))) (hx:evL L x=some v)
  (hs:Nat.beq (cellsL v).length sz=true) (hok:okCells (cellsL v)=true) (hu:Upd A (pt b (.cells vs true gg)) (pt b (.cells vs' true gg)) B) (hc:putAt vs off (cellsL v)=some vs')
  (hw:wantL ops L g=some true) (c:PnAll M (keepP m ps) Z B∧Wk M fn rd n Q (.r ops dr pl (keepP m ps)::k) L Z B) :
  Wk M fn rd n Q (.r ops dr (⟨i,m,⟨none,.store t a x,ty,pos,af,g⟩⟩::pl) ps::k) L Z A :=
 Wk.e0 hw rfl (Ef.store hi ha hx (by rw [cellsL_size];exact hs) (by rw [cellsL_eq];exact hok) hu (by rw [cellsL_eq,←putAt_eq];exact hc) c)
end
end Go.Ev
namespace Go.Ev
theorem ba_self (n:ByteArray):(n==n)=true:=by
 cases n
 simp [BEq.beq]
 unfold ByteArray.beq
 simp
section
variable {M:Mach} {fn:FuncId} {rd:Option Nat} {n:Nat} {Q:PQ} {k:List KI} {L:Lo} {Z:Zone} {A:List SA}
variable {ops:Array Oper} {dr:Bool} {pl:List Ro} {ps:List Pn} {i m d:Nat} {ty:TypeId} {pos:String} {af:Array Edge} {g:Option (Nat×Bool)}
theorem Wk.iaV {t e:TypeId} {x ix:Operand} {sz by_:Nat} {z:List Value} {cm:Bool} {de:TypeDesc} {es eb:Nat} {ez:List Value} {ec:Bool} {q:IntKind} {j':Int} {b off len c:Nat} (j:Nat) (hi:M.T t=some ⟨.slice e,sz,by_,z,cm⟩) (hj:M.T e=some ⟨de,es,eb,ez,ec⟩)
  (hix:evL L ix=some (.int q j')) (hx:evL L x=some (.slice (some ⟨b,off,none⟩) len c)) (hw:wantL ops L g=some true) (hd:Nat.blt d n=true) (e1:j'=(j:Int)) (e2:j < len)
  (c:Wk M fn rd n Q (.r ops dr pl ps::k) ((d,.pointer (some ⟨b,off+j*es,none⟩))::L) Z A):Wk M fn rd n Q (.r ops dr (⟨i,m,⟨some d,.indexAddr t x ix,ty,pos,af,g⟩⟩::pl) ps::k) L Z A :=
 Wk.p rfl rfl (Rd.ia j hi hj hix hx e1 e2) hw hd c
theorem Rd.sliceOlp {t e:TypeId} {x:Operand} {lo hi mx:Option Operand} {sz by_:Nat} {z:List Value} {cm:Bool} {de:TypeDesc} {es eb:Nat} {ez:List Value} {ec:Bool} {b off len c mm:Nat} {w:Value} {vs:List Value} {B:List SA} {vl vh vm:Option Value} {nl nh nm:Option Nat} {l h m:Nat} (p:Rem A (olp b es w mm vs) B) (ht:M.T t=some ⟨.slice e,sz,by_,z,cm⟩) (hj:M.T e=some ⟨de,es,eb,ez,ec⟩)
  (hx:evL L x=some (.slice (some ⟨b,off,none⟩) len c)) (h1:evoL L lo=some vl) (h2:evoL L hi=some vh) (h3:evoL L mx=some vm) (n1:asNat vl=some nl) (n2:asNat vh=some nh) (n3:asNat vm=some nm) (ha:abounds len c nl nh nm=some (l,h,m)) :
  Rd M (.slice t x lo hi mx) L Z A (.slice (some ⟨b,off+l*es,none⟩) (h - l) (m - l)):=by
 intro env H φ q1 q2
 obtain ⟨s,u,k1,k2,k3⟩:=q2.rem p
 obtain ⟨gg,cp,xs,hv,hcp,hl,hvs,hg,hov,rfl⟩:=k1
 have hget:H.get b=some (.cells xs true gg):=k3.own (b,.cells xs true gg) (by simp)
 simp only [aval,apure,aread,q1.ev hx,q1.evo h1,q1.evo h2,q1.evo h3,aslice,ht,hj,n1,n2,n3,ha,hget,Option.bind_eq_bind,Option.bind_some]
 rw [if_pos hg]
theorem Ef.clearOlp {t e:TypeId} {x:Operand} {as:Array Operand} {ats:Array TypeId} {sz by_:Nat} {z:List Value} {cm:Bool} {j:TI} {es:Nat} {b off len c mm:Nat} {w:Value} {vs vs':List Value} {B:List SA} {K:Value→Zone→List SA→Prop} (ha:as.toList=[x]) (hat:ats.toList=[t]) (ht:M.T t=some ⟨.slice e,sz,by_,z,cm⟩) (hj:M.T e=some j)
  (hx:evL L x=some (.slice (some ⟨b,off,none⟩) len c)) (p:Rem A (olp b es w mm vs) B) (hz:okCells j.zero=true) (hs:setCells vs off (repCells j.zero len)=some vs') (c:K (.tuple #[]) Z (olp b es w mm vs'::B)):Ef M (.call ⟨.builtin .clear,as,ats⟩) L Z A K:=by
 intro env H φ h1 h2
 obtain ⟨s,u,q1,q2,q3⟩:=h2.rem p
 have q10:=q1
 obtain ⟨gg,cp,xs,hv,hcp,hl,hvs,hg,hov,rfl⟩:=q1
 have hget:H.get b=some (.cells xs true gg):=q3.own (b,.cells xs true gg) (by simp)
 by_cases hm:len=0
 ·have hvv:vs'=vs:=by
   subst hm
   unfold setCells at hs
   split at hs
   ·cases hs;simp [repCells]
   ·cases hs
  subst hvv
  refine ⟨0,.tuple #[],H,Z,_,?_,Ext.refl _,⟨[(b,.cells xs true gg)]++u,.cons q10 q2,by rw [List.append_assoc];exact q3⟩,c⟩
  simp only [aE,aeff,ha,hat,effBuiltin,ht,h1.ev hx,Option.bind_eq_bind,Option.bind_some]
  rw [if_pos hm]
 ·have hle:mm*es≤xs.length:=by rw [hl];exact Nat.mul_le_mul_right _ hcp
  subst hvs
  have hfit:off+(repCells j.zero len).length≤mm*es:=by
   unfold setCells at hs
   split at hs
   ·rename_i h;rw [List.length_take] at h;omega
   ·cases hs
  have hset:setCells xs off (repCells j.zero len)=some (xs.take off++(repCells j.zero len++xs.drop (off+(repCells j.zero len).length))):=by unfold setCells;rw [if_pos (by omega)]
  have hvs':(xs.take off++(repCells j.zero len++xs.drop (off+(repCells j.zero len).length))).take (mm*es)=vs':=by
   unfold setCells at hs
   rw [if_pos (by rw [List.length_take];omega)] at hs
   cases hs
   exact take_set xs _ off (mm*es) hfit
  have hok:=okCells_rep hz len
  refine ⟨0,.tuple #[],H.put b (some (.cells (xs.take off++(repCells j.zero len++xs.drop (off+(repCells j.zero len).length))) true gg)),Z,_,?_,Ext.refl _,⟨[(b,.cells (xs.take off++(repCells j.zero len++xs.drop (off+(repCells j.zero len).length))) true gg)]++u,.cons (P:=olp b es w mm vs') ⟨gg,cp,_,hv,hcp,?_,hvs',hg,?_,rfl⟩ q2,by rw [List.append_assoc];exact St0.put q3⟩,c⟩
  ·simp only [aE,aeff,ha,hat,effBuiltin,ht,hj,h1.ev hx,Option.bind_eq_bind,Option.bind_some]
   rw [if_neg hm,if_pos hz]
   simp only [Heap.write,hget,hset,Option.map_some,Option.bind_eq_bind,Option.bind_some]
  ·simp only [List.length_append,List.length_take,List.length_drop];omega
  ·simp only [okCells,List.all_eq_true] at hov hok ⊢
   intro y hy
   simp only [List.mem_append] at hy
   rcases hy with hy|hy|hy
   ·exact hov y (List.mem_of_mem_take hy)
   ·exact hok y hy
   ·exact hov y (List.mem_of_mem_drop hy)
theorem olp.short {b sz mm c l:Nat} {vs:List Value} {Z:Zone} {s:List Cel} (hl:l≤mm) (h:(olp b sz (.slice (some ⟨b,0,none⟩) mm c) mm vs).p Z s):(Go.Ev.ol sz (.slice (some ⟨b,0,none⟩) l c) l (vs.take (l*sz))).p Z s:=by
 obtain ⟨g,c',xs,h1,h2,h3,h4,h5,h6,h7⟩:=h
 cases h1
 have:l*sz≤mm*sz:=Nat.mul_le_mul_right _ hl
 exact .inr (.inr ⟨b,g,c,xs,rfl,by omega,h3,by rw [←h4,List.take_take];congr 1;omega,h5,h6,h7⟩)
theorem olp.form {b sz mm:Nat} {v:Value} {vs:List Value} {Z:Zone} {s:List Cel} (h:(olp b sz v mm vs).p Z s):∃ c,v=.slice (some ⟨b,0,none⟩) mm c∧mm≤c:=by
 obtain ⟨g,c,xs,h1,h2,_⟩:=h
 exact ⟨c,h1,h2⟩
end
end Go.Ev
namespace Go.Ev
def holeU (us:List Value) (vss:List (List Value)) (i:Nat):SA where
 p:=fun Z r=>∀ Z',Ext Z Z'→∀ u' vs' s0,(ol 1 u' vs'.length vs').p Z' s0→∃ s',(s0++r).Perm s'∧innP Z' (us.set i u') (vss.set i vs') s'
 mono:=fun e h Z' e'=>h Z' (e.trans e')
theorem innP.openU {Z:Zone} {u:Value}:∀ {us:List Value} {vss:List (List Value)} {i:Nat} {s:List Cel},innP Z us vss s→us[i]?=some u→∀ vs,vss[i]?=some vs→∃ s0 r,s.Perm (s0++r)∧(ol 1 u vs.length vs).p Z s0∧(holeU us vss i).p Z r
 | [],[],i,s,h,hu,vs,hv=>by simp at hu
 | [],_::_,i,s,h,hu,vs,hv=>h.elim
 | _::_,[],i,s,h,hu,vs,hv=>h.elim
 | w::us,ws::vss,0,s,⟨s1,s2,h1,h2,h3⟩,hu,vs,hv=>by
  simp at hu hv
  subst hu hv
  refine ⟨s1,s2,h1▸List.Perm.refl _,h2,fun Z' e u' vs' s0 h=>⟨s0++s2,List.Perm.refl _,?_⟩⟩
  exact ⟨s0,s2,rfl,h,innP.mono e h3⟩
 | w::us,ws::vss,i+1,s,⟨s1,s2,h1,h2,h3⟩,hu,vs,hv=>by
  simp at hu hv
  obtain ⟨s0,r,k1,k2,k3⟩:=innP.openU h3 hu vs hv
  refine ⟨s0,s1++r,?_,k2,fun Z' e u' vs' s0' h=>?_⟩
  ·subst h1
   refine (k1.append_left s1).trans ?_
   rw [←List.append_assoc,←List.append_assoc]
   exact List.perm_append_comm.append_right r
  ·obtain ⟨s',q1,q2⟩:=k3 Z' e u' vs' s0' h
   refine ⟨s1++s',?_,s1,s',rfl,(ol 1 w ws.length ws).mono e h2,q2⟩
   refine List.Perm.trans ?_ (q1.append_left s1)
   rw [←List.append_assoc,←List.append_assoc]
   exact List.perm_append_comm.append_right r
theorem innP.nils {Z:Zone}:∀ (m:Nat),innP Z (List.replicate m (.slice none 0 0)) (List.replicate m []) []
 | 0=>rfl
 | m+1=>⟨[],[],rfl,.inl ⟨rfl,rfl,rfl,rfl⟩,innP.nils m⟩
section
variable {M:Mach} {fn:FuncId} {rd:Option Nat} {n:Nat} {Q:PQ} {k:List KI} {L:Lo} {Z:Zone} {A:List SA}
variable {ops:Array Oper} {dr:Bool} {pl:List Ro} {ps:List Pn} {i m d:Nat} {ty:TypeId} {pos:String} {af:Array Edge} {g:Option (Nat×Bool)}
theorem Wk.innOpenUr {us:List Value} {vss:List (List Value)} {B:List SA} {u:Value} {vs:List Value} (i:Nat) (p:Rem A (inn us vss) B) (hu:us[i]?=some u) (hv:vss[i]?=some vs) (h:Wk M fn rd n Q (.r ops dr pl ps::k) L Z (ol 1 u vs.length vs::holeU us vss i::B)):Wk M fn rd n Q (.r ops dr pl ps::k) L Z A :=
 Wk.turnr fun env H φ h1 h2=>⟨L,Z,_,h1,Ext.refl _,h2.alterP (C:=[ol 1 u vs.length vs,holeU us vss i]) p fun s hs=>let ⟨s0,r,e,h3,h4⟩:=innP.openU hs hu vs hv;⟨s0++r,e,by have:=Sat.cons h3 (Sat.cons h4 Sat.nil);simpa using this⟩,h⟩
theorem Wk.innCloseUr {us:List Value} {vss:List (List Value)} {C:List SA} {u:Value} {vs:List Value} (i:Nat) (p:Spl A [ol 1 u vs.length vs,holeU us vss i] C) (h:Wk M fn rd n Q (.r ops dr pl ps::k) L Z (inn (us.set i u) (vss.set i vs)::C)):Wk M fn rd n Q (.r ops dr pl ps::k) L Z A :=
 Wk.turnr fun env H φ h1 h2=>⟨L,Z,_,h1,Ext.refl _,h2.joinQ p fun s hs=>let ⟨a,b,e,h3,h4⟩:=two_sat hs;let ⟨s',q1,q2⟩:=h4 Z (Ext.refl _) u vs a h3;⟨s',e▸q1,q2⟩,h⟩
theorem Wk.innNils (m0:Nat) {c:Code} (h:Wk M fn rd n Q (.c c::k) L Z (inn (List.replicate m0 (.slice none 0 0)) (List.replicate m0 [])::A)):Wk M fn rd n Q (.c c::k) L Z A :=
 Wk.turn fun env H φ h1 h2=>⟨L,Z,_,h1,Ext.refl _,let ⟨σ,s1,s2⟩:=h2;⟨[]++σ,.cons (P:=inn _ _) (s:=[]) (innP.nils m0) s1,by simpa using s2⟩,h⟩
theorem Rd.sliceOqp {t e:TypeId} {x:Operand} {lo hi mx:Option Operand} {sz by_:Nat} {z:List Value} {cm:Bool} {de:TypeDesc} {es eb:Nat} {ez:List Value} {ec:Bool} {b o off len c mm:Nat} {w:Value} {vs:List Value} {B:List SA} {vl vh vm:Option Value} {nl nh nm:Option Nat} {l h m:Nat} (p:Rem A (oqp b o es w mm vs) B) (ht:M.T t=some ⟨.slice e,sz,by_,z,cm⟩) (hj:M.T e=some ⟨de,es,eb,ez,ec⟩)
  (hx:evL L x=some (.slice (some ⟨b,off,none⟩) len c)) (h1:evoL L lo=some vl) (h2:evoL L hi=some vh) (h3:evoL L mx=some vm) (n1:asNat vl=some nl) (n2:asNat vh=some nh) (n3:asNat vm=some nm) (ha:abounds len c nl nh nm=some (l,h,m)) :
  Rd M (.slice t x lo hi mx) L Z A (.slice (some ⟨b,off+l*es,none⟩) (h - l) (m - l)):=by
 intro env H φ q1 q2
 obtain ⟨s,u,k1,k2,k3⟩:=q2.rem p
 obtain ⟨gg,cp,xs,hv,hcp,hl,hvs,hg,hov,rfl⟩:=k1
 have hget:H.get b=some (.cells xs true gg):=k3.own (b,.cells xs true gg) (by simp)
 simp only [aval,apure,aread,q1.ev hx,q1.evo h1,q1.evo h2,q1.evo h3,aslice,ht,hj,n1,n2,n3,ha,hget,Option.bind_eq_bind,Option.bind_some]
 rw [if_pos hg]
theorem oqp.form {b off sz mm:Nat} {v:Value} {vs:List Value} {Z:Zone} {s:List Cel} (h:(oqp b off sz v mm vs).p Z s):∃ c,v=.slice (some ⟨b,off,none⟩) mm c∧mm≤c:=by
 obtain ⟨g,c,xs,h1,h2,_⟩:=h
 exact ⟨c,h1,h2⟩
theorem oqp.short {b off sz mm c l:Nat} {vs:List Value} {Z:Zone} {s:List Cel} (hl:l≤mm) (h:(oqp b off sz (.slice (some ⟨b,off,none⟩) mm c) mm vs).p Z s):(Go.Ev.oq sz (.slice (some ⟨b,off,none⟩) l c) l (vs.take (l*sz))).p Z s:=by
 obtain ⟨g,c',xs,h1,h2,h3,h4,h5,h6,h7⟩:=h
 cases h1
 have:l*sz≤mm*sz:=Nat.mul_le_mul_right _ hl
 exact .inr (.inr ⟨b,g,off,c,xs,rfl,by omega,h3,by rw [←h4,List.take_take];congr 1;omega,h5,h6,h7⟩)
theorem St.oqFreeze {H:Heap} {φ:List Cel} {sz:Nat} {v:Value} {m:Nat} {vs:List Value} {B:List SA} (p:Rem A (oq sz v m vs) B) (h:St H Z A φ):∃ Z',Ext Z Z'∧Sl Z' sz v m vs∧St H Z' B φ:=by
 obtain ⟨s,t,h1,h2,h3⟩:=h.rem p
 rcases h1 with ⟨rfl,rfl,rfl,rfl⟩|⟨b,off,xs,wr,g,rfl,hz,ho,hg,_,rfl,rfl,rfl⟩|⟨b,g,off,c,xs,rfl,hc,hl,rfl,hg,_,rfl⟩
 ·exact ⟨Z,Ext.refl _,.inl ⟨rfl,rfl,rfl⟩,t,h2,by simpa using h3⟩
 ·exact ⟨Z,Ext.refl _,Sl.of hz (by rw [Nat.zero_mul];exact getCells_zero ho) (Nat.le_refl _) hg,t,h2,by simpa using h3⟩
 ·obtain ⟨k1,k2⟩:=St0.freeze (b:=b) (o:=.cells xs true g) (σ:=t++φ) h3
  have hle:m*sz≤c*sz:=Nat.mul_le_mul_right _ hc
  exact ⟨_,k1,Sl.of (b:=b) (off:=off) (xs:=xs) (wr:=true) (g:=g) (by simp [Zone.add]) (by unfold getCells;rw [if_pos (by omega)]) hc hg,t,h2.mono k1,k2⟩
theorem Wk.oqFreeze {c:Code} {sz:Nat} {v:Value} {m:Nat} {vs:List Value} {B:List SA} (p:Rem A (oq sz v m vs) B) (h:∀ Z',Ext Z Z'→Sl Z' sz v m vs→Wk M fn rd n Q (.c c::k) L Z' B):Wk M fn rd n Q (.c c::k) L Z A :=
 Wk.turn fun env H φ h1 h2=>let ⟨Z',k1,k2,k3⟩:=h2.oqFreeze p;⟨L,Z',B,h1,k1,k3,h Z' k1 k2⟩
theorem Wk.oqFreezer {sz:Nat} {v:Value} {mm:Nat} {vs:List Value} {B:List SA} (p:Rem A (oq sz v mm vs) B) (h:∀ Z',Ext Z Z'→Sl Z' sz v mm vs→Wk M fn rd n Q (.r ops dr pl ps::k) L Z' B):Wk M fn rd n Q (.r ops dr pl ps::k) L Z A :=
 Wk.turnr fun env H φ h1 h2=>let ⟨Z',k1,k2,k3⟩:=h2.oqFreeze p;⟨L,Z',B,h1,k1,k3,h Z' k1 k2⟩
end
end Go.Ev
namespace Go.Ev
section
variable {M:Mach} {fn:FuncId} {rd:Option Nat} {n:Nat} {Q:PQ} {k:List KI} {L:Lo} {Z:Zone} {A:List SA}
variable {ops:Array Oper} {dr:Bool} {pl:List Ro} {ps:List Pn} {i m d:Nat} {ty:TypeId} {pos:String} {af:Array Edge} {g:Option (Nat×Bool)}
theorem Rd.lenMap {x:Operand} {t kt et:TypeId} {sz by_:Nat} {z:List Value} {cm:Bool} {ats:Array TypeId} {as:Array Operand} {b:Nat} {es:List (Value×Value)} (ha:as.toList=[x]) (ht:ats.toList=[t]) (hi:M.T t=some ⟨.map kt et,sz,by_,z,cm⟩) (hx:evL L x=some (.map (some b))) (hm:Has Z A b (.map es)) :
  Rd M (.call ⟨.builtin .len,as,ats⟩) L Z A (.int .i64 es.length):=by
 intro env H φ h1 h2
 have hp:apure M.T (evOp env) (.call ⟨.builtin .len,as,ats⟩)=none:=by
  simp only [apure,ha,ht,pureBuiltin,hi,h1.ev hx,Option.bind_eq_bind,Option.bind_some]
 simp only [aval,hp,aread,ha,ht,readBuiltin,hi,h1.ev hx,Option.bind_eq_bind,Option.bind_some,h2.has hm,goInt]
theorem Wk.lenMap {x:Operand} {t kt et:TypeId} {sz by_:Nat} {z:List Value} {cm:Bool} {ats:Array TypeId} {as:Array Operand} {b:Nat} {es:List (Value×Value)} (ha:as.toList=[x]) (ht:ats.toList=[t]) (hi:M.T t=some ⟨.map kt et,sz,by_,z,cm⟩) (hx:evL L x=some (.map (some b))) (hm:Has Z A b (.map es))
  (hw:wantL ops L g=some true) (hd:Nat.blt d n=true) (c:Wk M fn rd n Q (.r ops dr pl (pnd dr i (.call ⟨.builtin .len,as,ats⟩) L (.int .i64 es.length) ps)::k) ((d,.int .i64 es.length)::L) Z A) :
  Wk M fn rd n Q (.r ops dr (⟨i,m,⟨some d,.call ⟨.builtin .len,as,ats⟩,ty,pos,af,g⟩⟩::pl) ps::k) L Z A:=Wk.v hw rfl hd (Rd.lenMap ha ht hi hx hm) c
theorem Ef.mapUp {t kt et:TypeId} {mp ky x:Operand} {sz by_:Nat} {z:List Value} {cm:Bool} {b:Nat} {kv xv:Value} {es:List (Value×Value)} {B:List SA} {K:Value→Zone→List SA→Prop} (hi:M.T t=some ⟨.map kt et,sz,by_,z,cm⟩) (hm:evL L mp=some (.map (some b))) (hk:evL L ky=some kv) (hx:evL L x=some xv)
  (hf:keyFits M.T kt kv=true) (hn:keyFind M.T kt kv es 0=some none) (hu:Upd A (pt b (.map es)) (pt b (.map (es++[(kv,xv)]))) B) (c:K undef Z B):Ef M (.mapUpdate t mp ky x) L Z A K:=by
 intro env H φ h1 h2
 obtain ⟨C,p1,p2⟩:=hu.rem
 obtain ⟨s,u,k1,k2,k3⟩:=h2.rem p1
 cases k1
 have hg:=k3.own (b,.map es) (by simp)
 refine ⟨0,undef,H.put b (some (.map (es++[(kv,xv)]))),Z,B,?_,Ext.refl _,St.put p2 rfl k2 (St0.put k3),c⟩
 simp only at hg
 simp only [aE,aeff,hi,h1.ev hm,h1.ev hk,h1.ev hx,Option.bind_eq_bind,Option.bind_some,hg,hf,if_true,hn]
theorem Wk.mapUp {t kt et:TypeId} {mp ky x:Operand} {sz by_:Nat} {z:List Value} {cm:Bool} {b:Nat} {kv xv:Value} {es:List (Value×Value)} {B:List SA} (hi:M.T t=some ⟨.map kt et,sz,by_,z,cm⟩) (hm:evL L mp=some (.map (some b))) (hk:evL L ky=some kv) (hx:evL L x=some xv)
  (hf:keyFits M.T kt kv=true) (hn0:keyFind M.T kt kv es 0=some none) (hu:Upd A (pt b (.map es)) (pt b (.map (es++[(kv,xv)]))) B) (hn:keepP m ps=[]) (hw:wantL ops L g=some true) (c:Wk M fn rd n Q (.r ops dr pl []::k) L Z B) :
  Wk M fn rd n Q (.r ops dr (⟨i,m,⟨none,.mapUpdate t mp ky x,ty,pos,af,g⟩⟩::pl) ps::k) L Z A :=
 Wk.e0 hw rfl (Ef.mapUp hi hm hk hx hf hn0 hu ⟨by rw [hn];exact PnAll.nil,by rw [hn];exact c⟩)
end
end Go.Ev
namespace Go.Ev
section
variable {M:Mach} {L:Lo} {Z:Zone} {A:List SA}
theorem Rd.sliceArr {t e:TypeId} {x:Operand} {sz by_:Nat} {z:List Value} {cm:Bool} {j:TI} {b off n:Nat} (ht:M.T t=some ⟨.array n e,sz,by_,z,cm⟩) (hj:M.T e=some j) (hx:evL L x=some (.pointer (some ⟨b,off,none⟩))) :
  Rd M (.slice t x none none none) L Z A (.slice (some ⟨b,off,none⟩) n n):=by
 intro env H φ h1 h2
 have ha:aslice M.T H t (.pointer (some ⟨b,off,none⟩)) none none none=some (.slice (some ⟨b,off,none⟩) n n):=by
  simp [aslice,ht,hj,asNat,abounds]
 have hp:apure M.T (evOp env) (.slice t x none none none)=none∨apure M.T (evOp env) (.slice t x none none none)=some (.slice (some ⟨b,off,none⟩) n n):=by
  simp [apure]
 rcases hp with hp|hp
 ·simp only [aval,hp,aread,h1.ev hx,evo,Option.bind_eq_bind,Option.bind_some,ha]
 ·simp only [aval,hp]
end
abbrev k4 (a:Int×Int×Int×Int):Value:=.agg ⟨[.int .i64 a.1,.int .i64 a.2.1,.int .i64 a.2.2.1,.int .i64 a.2.2.2]⟩
theorem aeq4 {T:Tab} {kt e:TypeId} {sz by_ by2:Nat} {z z2:List Value} {cm cm2:Bool} (ht:T kt=some ⟨.array 4 e,sz,by_,z,cm⟩) (he:T e=some ⟨.int .i64,1,by2,z2,cm2⟩) (a b:Int×Int×Int×Int):aequal T 2 kt (k4 a) (k4 b)=some (decide (a=b)):=by
 obtain ⟨a1,a2,a3,a4⟩:=a
 obtain ⟨b1,b2,b3,b4⟩:=b
 have hI:∀ x y:Int,aequal T 1 e (.int .i64 x) (.int .i64 y)=some (x==y):=fun x y=>by simp [aequal,he]
 have h0:aequal T 2 kt (k4 (a1,a2,a3,a4)) (k4 (b1,b2,b3,b4))=eqItems ⟨.int .i64,1,by2,z2,cm2⟩ (aequal T 1 e) ⟨[.int .i64 a1,.int .i64 a2,.int .i64 a3,.int .i64 a4]⟩ ⟨[.int .i64 b1,.int .i64 b2,.int .i64 b3,.int .i64 b4]⟩ 4 0:=by
  rw [aequal];simp only [ht,he,Option.bind_eq_bind,Option.bind_some]
 have ap:∀ (xs:Array Value) (k:Nat),apart ⟨.int .i64,1,by2,z2,cm2⟩ xs k=xs[k]?:=fun _ _=>rfl
 rw [h0]
 simp only [eqItems,ap,Nat.mul_one,Nat.zero_add,Nat.reduceAdd,List.getElem?_toArray,List.getElem?_cons_zero,List.getElem?_cons_succ,Option.bind_eq_bind,Option.bind_some,hI,Prod.mk.injEq]
 by_cases h1:a1=b1
 ·by_cases h2:a2=b2
  ·by_cases h3:a3=b3
   ·by_cases h4:a4=b4
    ·simp [h1,h2,h3,h4]
    ·simp [h1,h2,h3,h4]
   ·simp [h1,h2,h3]
  ·simp [h1,h2]
 ·simp [h1]
def find4 (a:Int×Int×Int×Int):List (Int×Int×Int×Int)→Nat→Option (Nat×Value)
 | [],_=>none
 | b::r,i=>if a=b then some (i,.bool true) else find4 a r (i+1)
theorem keyFind_4 {T:Tab} {kt e:TypeId} {sz by_ by2:Nat} {z z2:List Value} {cm cm2:Bool} (ht:T kt=some ⟨.array 4 e,sz,by_,z,cm⟩) (he:T e=some ⟨.int .i64,1,by2,z2,cm2⟩) (a:Int×Int×Int×Int):∀ (es:List (Int×Int×Int×Int)) (i:Nat),keyFind T kt (k4 a) (es.map fun b=>(k4 b,Value.bool true)) i=some (find4 a es i)
 | [],i=>rfl
 | b::es,i=>by
  simp only [List.map_cons,keyFind,aeq4 ht he,Option.bind_eq_bind,Option.bind_some,find4,keyFind_4 ht he a es (i+1)]
  by_cases h:a=b<;>simp [h]
theorem find4_or {a:Int×Int×Int×Int}:∀ {es:List (Int×Int×Int×Int)} {i:Nat},(find4 a es i=none∧a∉es)∨∃ j,find4 a es i=some (j,.bool true)∧a∈es
 | [],i=>.inl ⟨rfl,by simp⟩
 | b::es,i=>by
  by_cases h:a=b
  ·exact .inr ⟨i,by simp [find4,h],by simp [h]⟩
  ·rcases find4_or (a:=a) (es:=es) (i:=i+1) with ⟨h1,h2⟩|⟨j,h1,h2⟩
   ·exact .inl ⟨by simp [find4,h,h1],by simp [h,h2]⟩
   ·exact .inr ⟨j,by simp [find4,h,h1],by simp [h2]⟩
end Go.Ev
namespace Go.Ev
def tiles (P:Program):List Field→Nat→Option Nat
 | [],o=>some o
 | f::r,o=>if f.offset=o then tiles P r (o+P.cellsOf f.type) else none
def SupT (P:Program) (S:List TypeId) (t:TypeId):Prop :=
 match P.underlying t with
 | some .bool=>P.cellsOf t=1
 | some (.int _)=>P.cellsOf t=1
 | some .string=>P.cellsOf t=1
 | some (.slice e)=>e∈S∧0 < P.cellsOf e∧P.cellsOf t=1
 | some (.struct fs)=>(∀ f∈fs.toList,f.type∈S)∧tiles P fs.toList 0=some (P.cellsOf t)
 | _=>False
def Wt (P:Program) (Z:Zone):Nat→TypeId→List Value→Prop
 | 0,_,_=>False
 | d+1,t,cs=>match P.underlying t with
  | some .bool=>∃ b,cs=[.bool b]
  | some (.int k)=>∃ n,cs=[.int k n]∧(Lit.int k n).wf=true
  | some .string=>∃ s:ByteArray,cs=[.string s]∧s.size≤maxLen∧s.size≤reachBytes
  | some (.slice e)=>∃ v m vs,cs=[v]∧Sl Z (P.cellsOf e) v m vs∧(m≤maxLen∧m*P.bytesOf e≤reachBytes)∧∀ i,i < m→Wt P Z d e ((vs.drop (i*P.cellsOf e)).take (P.cellsOf e))
  | some (.struct fs)=>cs.length=P.cellsOf t∧∀ f∈fs.toList,Wt P Z d f.type ((cs.drop f.offset).take (P.cellsOf f.type))
  | _=>False
theorem Wt.mono {P:Program} {Z Z':Zone} (e:Ext Z Z'):∀ (d:Nat) {t:TypeId} {cs:List Value},Wt P Z d t cs→Wt P Z' d t cs
 | 0,t,cs,h=>h
 | d+1,t,cs,h=>by
  unfold Wt at h ⊢
  split at h
  ·exact h
  ·exact h
  ·exact h
  ·obtain ⟨v,m,vs,h1,h2,h3,h4⟩:=h
   exact ⟨v,m,vs,h1,h2.mono e,h3,fun i hi=>Wt.mono e d (h4 i hi)⟩
  ·exact ⟨h.1,fun f hf=>Wt.mono e d (h.2 f hf)⟩
  ·exact h
structure Ab (w:World) (ρ:Ren) (H:Heap):Prop where
 rel:Rel ρ H w
 own:∀ i,¬ Own ρ H i
structure AbLe (ρ:Ren) (H:Heap) (ρ':Ren) (H':Heap):Prop where
 ren:ρ.le ρ'
 ext:Ext H.get H'.get
theorem AbLe.refl (ρ:Ren) (H:Heap):AbLe ρ H ρ H:=⟨Ren.le_refl _,Ext.refl _⟩
theorem AbLe.trans {ρ ρ1 ρ2:Ren} {H H1 H2:Heap} (h:AbLe ρ H ρ1 H1) (k:AbLe ρ1 H1 ρ2 H2):AbLe ρ H ρ2 H2:=⟨Ren.le_trans h.ren k.ren,h.ext.trans k.ext⟩
theorem Ab.fresh {w:World} {ρ:Ren} {H:Heap} (A:Ab w ρ H) {b:Nat} (hb:H.next≤b):ρ b=none:=by
 cases e:ρ b with
 | none=>rfl
 | some l=>have:=A.rel.dom b l e;omega
theorem Ab.push {w:World} {ρ:Ren} {H:Heap} (A:Ab w ρ H) {l:Loc} {vs:List Value} {C:Array Value} {et:TypeId} {fz:Nat×Nat} (hC:w.heap[l.cb]?=some (.cells C et fz)) (h1:vs.length=l.ext) (h2:l.sz=0) (h3:l.ext=l.full) (h4:l.base+l.ext≤C.size)
  (hv:∀ i v,vs[i]?=some v→∃ cv,C[l.base+i]?=some cv∧VRel ρ v cv):∃ ρ',Ab w ρ' (H.push (AObj.cells vs false 0))∧AbLe ρ H ρ' (H.push (AObj.cells vs false 0))∧ρ' H.next=some l:=by
 let ρ':Ren:=fun b=>if b=H.next then some l else ρ b
 have hle:ρ.le ρ':=fun b m hb=>by
  have:b≠H.next:=fun e=>by rw [e,A.fresh (Nat.le_refl _)] at hb;cases hb
  simp [ρ',this,hb]
 have hget:=fun b=>Heap.get_push H b (AObj.cells vs false 0)
 refine ⟨ρ',⟨⟨fun b hb=>?_,fun b m hm=>?_,fun b m hm=>?_,fun b m o hm ho=>?_,fun b b' m m' o o' hne k1 k2 k3 k4 hw=>?_⟩,fun i=>?_⟩,⟨hle,fun b o hb=>?_⟩,by simp [ρ']⟩
 ·rw [Heap.next_push] at hb
  rw [hget,if_neg (by omega)];exact A.rel.wf b (by omega)
 ·rw [Heap.next_push]
  simp only [ρ'] at hm;split at hm
  ·omega
  ·have:=A.rel.dom b m hm;omega
 ·simp only [ρ'] at hm;split at hm
  ·cases hm;exact lt_of_get hC
  ·exact A.rel.cdom b m hm
 ·rw [hget] at ho
  simp only [ρ'] at hm
  by_cases e:b=H.next
  ·rw [if_pos e] at ho hm
   cases hm;cases ho
   refine ⟨h1,h2.symm,by omega,C,et,fz,hC,by omega,fun i v hi=>?_,fun h=>by cases h⟩
   obtain ⟨cv,q1,q2⟩:=hv i v hi
   exact ⟨cv,q1,q2.mono hle⟩
  ·rw [if_neg e] at ho hm
   exact (A.rel.live b m o hm ho).mono hle
 ·rw [hget] at k3
  simp only [ρ'] at k1
  split at k3
  ·cases k3;cases hw
  ·rename_i e
   rw [if_neg e] at k1
   exact absurd ⟨b,m,o,k1,k3,hw,rfl⟩ (A.own m.cb)
 ·rintro ⟨b,m,o,k1,k2,k3,k4⟩
  rw [hget] at k2
  simp only [ρ'] at k1
  split at k2
  ·cases k2;cases k3
  ·rename_i e
   rw [if_neg e] at k1
   exact A.own i ⟨b,m,o,k1,k2,k3,k4⟩
 ·rw [hget,if_neg]
  ·exact hb
  ·intro e;rw [e,A.rel.wf _ (Nat.le_refl _)] at hb;cases hb
def Dummy (w:World):Prop:=∃ (cb:Nat) (C:Array Value) (et:TypeId) (fz:Nat×Nat),w.heap[cb]?=some (Obj.cells C et fz)
def DumIf (w:World) (cs:List Value):Prop:=(∃ x n c,Value.slice (some x) n c∈cs)→Dummy w
theorem cells_get {w:World} {base n:Nat} {a:Addr} {cs:List Value} (h:w.cells? base a n=some cs):cs.length=n∧∀ j v,cs[j]?=some v→w.cell? (a.add j)=some v:=by
 unfold World.cells? at h
 split at h
 ·have hl:cs.length=n:=by simpa using mapM_some_length h
  refine ⟨hl,fun j v hj=>?_⟩
  have hlt:j < n:=by rw [←hl];exact (List.getElem?_eq_some_iff.1 hj).1
  have:=mapM_some_get h j j (by simp [hlt])
  rw [this];exact hj
 ·cases h
theorem cell_block {w:World} {a:Addr} {v:Value} (h:w.cell? a=some v):∃ C et fz,w.heap[a.block]?=some (.cells C et fz)∧a.spot=none∧C[a.off]?=some v:=by
 unfold World.cell? at h
 split at h
 ·rename_i C et fz hC
  split at h
  ·cases h
  ·rename_i hs
   refine ⟨C,et,fz,hC,?_,h⟩
   cases e:a.spot with
   | none=>rfl
   | some q=>rw [e] at hs;simp at hs
 ·cases h
theorem All2.flatten {α β:Type} {R:α→β→Prop} {x:List (List α)} {y:List (List β)} (h:All2 (fun a b=>All2 R a b) x y):All2 R x.flatten y.flatten:=by
 induction h with
 | nil=>exact .nil
 | cons h _ ih=>simp only [List.flatten_cons];exact h.append ih
theorem flat_get {α:Type} {sz:Nat}:∀ (accs:List (List α)),(∀ a∈accs,a.length=sz)→∀ i j,j < sz→accs.flatten[i*sz+j]?=(accs[i]?).bind (·[j]?)
 | [],_,i,j,_=>by simp
 | a::accs,h,0,j,hj=>by
  have:a.length=sz:=h a (by simp)
  simp only [List.flatten_cons,Nat.zero_mul,Nat.zero_add,List.getElem?_cons_zero,Option.bind_some]
  rw [List.getElem?_append_left (by omega)]
 | a::accs,h,i+1,j,hj=>by
  have ha:a.length=sz:=h a (by simp)
  have ih:=flat_get accs (fun b hb=>h b (by simp [hb])) i j hj
  simp only [List.flatten_cons,List.getElem?_cons_succ]
  rw [List.getElem?_append_right (by rw [ha,Nat.add_mul];omega),ha,Nat.add_mul,Nat.one_mul,show i*sz+sz+j - sz=i*sz+j by omega]
  exact ih
theorem flat_len {α:Type} {sz:Nat}:∀ (accs:List (List α)),(∀ a∈accs,a.length=sz)→accs.flatten.length=accs.length*sz
 | [],_=>by simp
 | a::accs,h=>by
  rw [List.flatten_cons,List.length_append,flat_len accs fun b hb=>h b (by simp [hb]),h a (by simp),List.length_cons,Nat.add_mul];omega
theorem flat_part {α:Type} {sz:Nat} {accs:List (List α)} (h:∀ a∈accs,a.length=sz) {i:Nat} {a:List α} (hi:accs[i]?=some a):(accs.flatten.drop (i*sz)).take sz=a:=by
 have ha:a.length=sz:=h a (List.mem_of_getElem? hi)
 apply List.ext_getElem?
 intro j
 rcases Nat.lt_or_ge j sz with hj|hj
 ·rw [List.getElem?_take_of_lt hj,List.getElem?_drop,flat_get accs h i j hj,hi];rfl
 ·rw [List.getElem?_eq_none (by simp;omega),List.getElem?_eq_none (by omega)]
theorem All2.memL {α β : Type} {R : α → β → Prop} {x : List α} {y : List β} (h : All2 R x y) {a : α} (ha : a ∈ x) : ∃ b ∈ y, R a b := by
  induction h with
  | nil => cases ha
  | cons h _ ih => rcases List.mem_cons.1 ha with rfl | ha
                   · exact ⟨_, by simp, h⟩
                   · obtain ⟨b, h1, h2⟩ := ih ha; exact ⟨b, by simp [h1], h2⟩
section
variable {H0:Type} {enc:TypeId×Value→H0} {P:Program} {w:World} {S:List TypeId} (hS:∀ t∈S,SupT P S t)
def Lite {H0:Type} (P:Program) (t:TypeId) (d:DataW H0):Prop:=(d.weights P t).all (·≤reachBytes)=true
theorem Lite.all {H0:Type} {P:Program} {e:TypeId}:∀ {l:List (DataW H0)},(DataW.weightsAll P e l).all (·≤reachBytes)=true→∀ y∈l,Lite P e y
 | [],_,y,hy=>by cases hy
 | d::r,h,y,hy=>by
  rw [DataW.weightsAll,List.all_append,Bool.and_eq_true] at h
  rcases List.mem_cons.1 hy with rfl|hy
  ·exact h.1
  ·exact Lite.all h.2 y hy
theorem Lite.each {H0:Type} {P:Program}:∀ {ts:List TypeId} {l:List (DataW H0)},(DataW.weightsEach P ts l).all (·≤reachBytes)=true→∀ (i:Nat) t y,ts[i]?=some t→l[i]?=some y→Lite P t y
 | [],_,_,i,t,y,h1,_=>by simp at h1
 | _::_,[],_,i,t,y,_,h2=>by simp at h2
 | t0::ts,d::r,h,i,t,y,h1,h2=>by
  rw [DataW.weightsEach,List.all_append,Bool.and_eq_true] at h
  cases i with
  | zero=>simp at h1 h2;subst h1 h2;exact h.1
  | succ i=>exact Lite.each h.2 i t y (by simpa using h1) (by simpa using h2)
theorem Lite.slice {H0:Type} {P:Program} {t e:TypeId} {es sp:List (DataW H0)} (hu:P.underlying t=some (.slice e)) (h:Lite P t (.slice es sp)):(es.length+sp.length)*P.bytesOf e≤reachBytes∧(∀ y∈es,Lite P e y)∧∀ y∈sp,Lite P e y:=by
 unfold Lite at h
 rw [DataW.weights,hu] at h
 simp only [List.all_cons,List.all_append,Bool.and_eq_true,decide_eq_true_eq] at h
 exact ⟨h.1,Lite.all h.2.1,Lite.all h.2.2⟩
theorem Lite.struct {H0:Type} {P:Program} {t:TypeId} {fs:Array Field} {parts:List (DataW H0)} (hu:P.underlying t=some (.struct fs)) (h:Lite P t (.agg parts)) (i:Nat) (f:Field) (y:DataW H0) (hf:fs[i]?=some f) (hy:parts[i]?=some y):Lite P f.type y:=by
 unfold Lite at h
 rw [DataW.weights,hu] at h
 exact Lite.each h i f.type y (by simp [hf]) hy
theorem Lite.string {H0:Type} {P:Program} {t:TypeId} {s:ByteArray} (h:Lite P t (.lit (.string s.data.toList):DataW H0)):s.size≤reachBytes:=by
 unfold Lite at h
 rw [DataW.weights] at h
 simpa using h
def Builds (enc:TypeId×Value→H0) (P:Program) (w:World) (S:List TypeId) (d:Nat):Prop:=∀ (t:TypeId) (cs:List Value) x,t∈S→DumIf w cs→DataW.trod enc P w 0 (fun _=>true) true d t cs=some x→Lite P t x.1 →
 ∀ ρ H,Ab w ρ H→∃ ρ' H' acs,Ab w ρ' H'∧AbLe ρ H ρ' H'∧LRel ρ' acs cs∧Wt P H'.get d t acs
theorem buildL {d:Nat} (ih:Builds enc P w S d):∀ (l:List (TypeId×List Value)),(∀ p∈l,p.1∈S∧DumIf w p.2∧∃ x,DataW.trod enc P w 0 (fun _=>true) true d p.1 p.2=some x∧Lite P p.1 x.1)→∀ ρ H,Ab w ρ H →
  ∃ ρ' H' accs,Ab w ρ' H'∧AbLe ρ H ρ' H'∧All2 (fun acs (p:TypeId×List Value)=>LRel ρ' acs p.2∧Wt P H'.get d p.1 acs) accs l
 | [],_,ρ,H,A=>⟨ρ,H,[],A,AbLe.refl _ _,.nil⟩
 | p::l,h,ρ,H,A=>by
  obtain ⟨h1,h2,x,h3,h4⟩:=h p (by simp)
  obtain ⟨ρ1,H1,acs,k1,k2,k3,k4⟩:=ih p.1 p.2 x h1 h2 h3 h4 ρ H A
  obtain ⟨ρ2,H2,accs,j1,j2,j3⟩:=buildL ih l (fun q hq=>h q (by simp [hq])) ρ1 H1 k1
  exact ⟨ρ2,H2,acs::accs,j1,k2.trans j2,.cons ⟨k3.mono j2.ren,k4.mono j2.ext⟩ j3⟩
theorem tiles_cs:∀ (fs:List Field) (o T:Nat) (cs:List Value),tiles P fs o=some T→cs.length=T→(fs.map fun f=>(cs.drop f.offset).take (P.cellsOf f.type)).flatten=cs.drop o
 | [],o,T,cs,h,hl=>by
  simp only [tiles,Option.some.injEq] at h
  subst h
  simp [hl]
 | f::fs,o,T,cs,h,hl=>by
  simp only [tiles] at h
  split at h
  ·rename_i e
   have ih:=tiles_cs fs _ T cs h hl
   rw [List.map_cons,List.flatten_cons,ih,e,←List.drop_drop,List.take_append_drop]
  ·cases h
theorem tiles_part:∀ (fs:List Field) (o T:Nat) (accs:List (List Value)) (pre:List Value),tiles P fs o=some T→pre.length=o→All2 (fun (acs:List Value) (f:Field)=>acs.length=P.cellsOf f.type) accs fs →
  (pre++accs.flatten).length=T∧All2 (fun (acs:List Value) (f:Field)=>((pre++accs.flatten).drop f.offset).take (P.cellsOf f.type)=acs) accs fs
 | [],o,T,_,pre,h,hp,.nil=>by
  simp only [tiles,Option.some.injEq] at h
  subst h
  exact ⟨by simpa using hp,.nil⟩
 | f::fs,o,T,_,pre,h,hp,.cons (a:=acs) (x:=accs) k1 k2=>by
  simp only [tiles] at h
  split at h
  ·rename_i e
   obtain ⟨i1,i2⟩:=tiles_part fs _ T accs (pre++acs) h (by rw [List.length_append,hp,k1]) k2
   rw [List.append_assoc] at i1 i2
   refine ⟨by rw [List.flatten_cons];exact i1,?_⟩
   rw [List.flatten_cons]
   refine .cons ?_ i2
   rw [e,←hp,List.drop_left,←k1,List.take_left]
  ·cases h
theorem Builds.zero:Builds enc P w S 0:=fun t cs x _ _ h _=>by simp [DataW.trod] at h
include hS in
theorem Builds.succ {d:Nat} (ih:Builds enc P w S d):Builds enc P w S (d+1):=by
 intro t cs x ht hd hx hL ρ H A
 have hs:=hS t ht
 unfold SupT at hs
 split at hs
 ·rename_i hu
  obtain ⟨b,rfl,rfl⟩:=DataW.trod_bool hu hx
  exact ⟨ρ,H,_,A,AbLe.refl _ _,.cons (.bool b) .nil,by unfold Wt;rw [hu];exact ⟨b,rfl⟩⟩
 ·rename_i k hu
  obtain ⟨n,rfl,rfl,hw⟩:=DataW.trod_int hu hx
  exact ⟨ρ,H,_,A,AbLe.refl _ _,.cons (.int k n) .nil,by unfold Wt;rw [hu];exact ⟨n,rfl,hw⟩⟩
 ·rename_i hu
  obtain ⟨s,rfl,rfl,hw⟩:=DataW.trod_string hu hx
  exact ⟨ρ,H,_,A,AbLe.refl _ _,.cons (.string s) .nil,by unfold Wt;rw [hu];exact ⟨s,rfl,hw,hL.string⟩⟩
 ·rename_i e hu
  obtain ⟨he,hsz,h1⟩:=hs
  rcases DataW.trod_slice hu hx with ⟨rfl,rfl⟩|⟨a,len,cap,elems,rest,q,hq,rfl,rfl,_,hl,hm,hel,hev,hsp,_⟩
  ·refine ⟨ρ,H,_,A,AbLe.refl _ _,.cons .nilslice .nil,?_⟩
   unfold Wt;rw [hu]
   exact ⟨_,0,[],rfl,Sl.nil,⟨Nat.zero_le _,by simp⟩,fun i hi=>by omega⟩
  ·cases hq
   obtain ⟨hrl,hrv⟩:=hsp rfl
   obtain ⟨hLb,hLe,hLr⟩:=hL.slice hu
   have hdum:=hd ⟨a,len,cap,by simp⟩
   -- each element, up to the capacity
   have each:∀ i,i < cap→∃ ecs y,w.cells? 0 (a.add (i*P.cellsOf e)) (P.cellsOf e)=some ecs∧DataW.trod enc P w 0 (fun _=>true) true d e ecs=some y∧Lite P e y.1:=by
    intro i hi
    have key:∃ y,(w.cells? 0 (a.add (i*P.cellsOf e)) (P.cellsOf e)).bind (DataW.trod enc P w 0 (fun _=>true) true d e)=some y∧Lite P e y.1:=by
     by_cases hil:i < len
     ·refine ⟨elems[i]'(by omega),?_⟩
      rw [hev i hil]
      exact ⟨by simp,hLe _ (List.mem_map.2 ⟨_,List.getElem_mem (by omega),rfl⟩)⟩
     ·have:=hrv (i - len) (by omega)
      rw [show len+(i - len)=i by omega] at this
      refine ⟨rest[i - len]'(by omega),?_⟩
      rw [this]
      exact ⟨by simp,hLr _ (List.mem_map.2 ⟨_,List.getElem_mem (by omega),rfl⟩)⟩
    obtain ⟨y,hy,hLy⟩:=key
    obtain ⟨ecs,k1,k2⟩:=Option.bind_eq_some_iff.1 hy
    exact ⟨ecs,y,k1,k2,hLy⟩
   by_cases hc0:cap=0
   ·subst hc0
    have hl0:len=0:=by omega
    subst hl0
    obtain ⟨cb,C,et,fz,hC⟩:=hdum
    obtain ⟨ρ',A',le,hl'⟩:=A.push (l:=⟨cb,0,0,0,0⟩) (vs:=[]) hC rfl rfl rfl (by simp) (by simp)
    refine ⟨ρ',_,[.slice (some ⟨H.next,0,none⟩) 0 0],A',le,.cons (.empty H.next 0 a _ hl') .nil,?_⟩
    unfold Wt;rw [hu]
    exact ⟨_,0,[],rfl,Sl.of (Heap.get_push_eq H _) (by simp [getCells]) (Nat.le_refl _) (.inl rfl),⟨Nat.zero_le _,by simp⟩,fun i hi=>by omega⟩
   ·-- there is a cell: the block stands
    obtain ⟨ec0,y0,hc00,_⟩:=each 0 (by omega)
    have h00:=cells_get hc00
    obtain ⟨v0,hv0⟩:∃ v,ec0[0]?=some v:=⟨ec0[0]'(by omega),by simp⟩
    have hcell0:=h00.2 0 v0 hv0
    have ha00:(a.add (0*P.cellsOf e)).add 0=a:=by simp [Addr.add]
    rw [ha00] at hcell0
    obtain ⟨C,et,fz,hC,hspot,_⟩:=cell_block hcell0
    have hadd:∀ i j,(a.add i).add j=⟨a.block,a.off+(i+j),none⟩:=by
     intro i j
     cases a with
     | mk ab ao asp =>
      simp only at hspot
      subst hspot
      unfold Addr.add
      split<;>split<;>simp_all<;>omega
    have hread:∀ i ecs,w.cells? 0 (a.add (i*P.cellsOf e)) (P.cellsOf e)=some ecs→∀ j v,ecs[j]?=some v→C[a.off+(i*P.cellsOf e+j)]?=some v:=by
     intro i ecs he' j v hj
     have:=(cells_get he').2 j v hj
     rw [hadd] at this
     obtain ⟨C',et',fz',hC',_,hv'⟩:=cell_block this
     simp only at hC' hv'
     rw [hC] at hC'
     cases hC'
     exact hv'
    -- the elements
    have hex:∃ l:List (List Value),l.length=cap∧∀ i ecs,l[i]?=some ecs→w.cells? 0 (a.add (i*P.cellsOf e)) (P.cellsOf e)=some ecs∧∃ y,DataW.trod enc P w 0 (fun _=>true) true d e ecs=some y∧Lite P e y.1:=by
     have:∀ N,N≤cap→∃ l:List (List Value),l.length=N∧∀ i ecs,l[i]?=some ecs→w.cells? 0 (a.add (i*P.cellsOf e)) (P.cellsOf e)=some ecs∧∃ y,DataW.trod enc P w 0 (fun _=>true) true d e ecs=some y∧Lite P e y.1:=by
      intro N
      induction N with
      | zero=>intro _;exact ⟨[],rfl,fun i ecs h=>by simp at h⟩
      | succ N ihN =>
       intro hN
       obtain ⟨l,l1,l2⟩:=ihN (by omega)
       obtain ⟨ecs,y,k1,k2⟩:=each N (by omega)
       refine ⟨l++[ecs],by simp [l1],fun i ecs' hi=>?_⟩
       rcases Nat.lt_or_ge i N with h|h
       ·rw [List.getElem?_append_left (by omega)] at hi;exact l2 i ecs' hi
       ·rw [List.getElem?_append_right (by omega),l1] at hi
        have hi0:i - N=0:=by
         rcases Nat.eq_zero_or_pos (i - N) with h|h
         ·exact h
         ·rw [List.getElem?_eq_none (by simp;omega)] at hi;cases hi
        rw [hi0] at hi
        simp at hi
        subst hi
        have:i=N:=by omega
        subst this
        exact ⟨k1,y,k2⟩
     exact this cap (Nat.le_refl _)
    obtain ⟨l,l1,l2⟩:=hex
    have dumO:∀ cs,DumIf w cs:=fun cs _=>⟨_,_,_,_,hC⟩
    obtain ⟨ρ1,H1,accs,A1,le1,hall⟩:=buildL (enc:=enc) ih (l.map fun ecs=>(e,ecs)) (fun p hp=>by
     obtain ⟨ecs,hm,rfl⟩:=List.mem_map.1 hp
     obtain ⟨i,hi⟩:=List.getElem?_of_mem hm
     exact ⟨he,dumO _,(l2 i ecs hi).2⟩) ρ H A
    have hall1:All2 (fun acs ecs=>LRel ρ1 acs ecs∧Wt P H1.get d e acs∧acs.length=P.cellsOf e) accs l:=by
     have hlen:∀ ecs∈l,ecs.length=P.cellsOf e:=fun ecs hm=>by
      obtain ⟨i,hi⟩:=List.getElem?_of_mem hm
      exact (cells_get (l2 i ecs hi).1).1
     clear l1 l2
     generalize hl':l.map (fun ecs=>(e,ecs))=l' at hall
     induction hall generalizing l with
     | nil=>cases l with
      | nil=>exact .nil
      | cons _ _=>simp at hl'
     | cons h _ ih'=>cases l with
      | nil=>simp at hl'
      | cons ecs l =>
       simp only [List.map_cons,List.cons.injEq] at hl'
       obtain ⟨rfl,hl'⟩:=hl'
       exact .cons ⟨h.1,h.2,by rw [h.1.length];exact hlen _ (by simp)⟩ (ih' l (fun q hq=>hlen q (by simp [hq])) hl')
    -- the block
    have hal:∀ acs∈accs,acs.length=P.cellsOf e:=fun acs hm=>let ⟨_,_,q⟩:=hall1.memL hm;q.2.2
    have haccs:accs.length=cap:=by rw [hall1.length];exact l1
    have hfl:accs.flatten.length=cap*P.cellsOf e:=by rw [flat_len accs hal,haccs]
    have hbound:a.off+cap*P.cellsOf e≤C.size:=by
     obtain ⟨ecs,y,k1,_⟩:=each (cap - 1) (by omega)
     have k2:=cells_get k1
     have k3:=hread (cap - 1) ecs k1 (P.cellsOf e - 1) (ecs[P.cellsOf e - 1]'(by omega)) (by simp)
     have k4:=lt_of_get k3
     have:(cap - 1)*P.cellsOf e+P.cellsOf e=cap*P.cellsOf e:=by
      rw [←Nat.succ_mul];congr 1;omega
     omega
    obtain ⟨ρ2,A2,le2,hl2⟩:=A1.push (l:=⟨a.block,a.off,cap*P.cellsOf e,cap*P.cellsOf e,0⟩) (vs:=accs.flatten) hC hfl rfl rfl hbound (fun q v hq=>by
     have hlt:q < cap*P.cellsOf e:=by rw [←hfl];exact (List.getElem?_eq_some_iff.1 hq).1
     have hdm:=Nat.div_add_mod q (P.cellsOf e)
     have hj:q % P.cellsOf e < P.cellsOf e:=Nat.mod_lt _ hsz
     have hqe:q=q / P.cellsOf e*P.cellsOf e+q % P.cellsOf e:=by rw [Nat.mul_comm];omega
     rw [hqe,flat_get accs hal _ _ hj] at hq
     obtain ⟨acs,g1,g2⟩:=Option.bind_eq_some_iff.1 hq
     obtain ⟨ecs,g3,g4,_⟩:=hall1.get _ acs g1
     obtain ⟨cv,g5,g6⟩:=g4.get _ v g2
     refine ⟨cv,?_,g6⟩
     have:=hread (q / P.cellsOf e) ecs (l2 _ ecs g3).1 _ cv g5
     rw [←hqe] at this
     exact this)
    refine ⟨ρ2,_,[.slice (some ⟨H1.next,0,none⟩) len cap],A2,le1.trans le2,.cons ?_ .nil,?_⟩
    ·have hxe:a=⟨a.block,a.off+0,none⟩:=by cases a;simp at hspot ⊢;exact hspot
     have:=VRel.slice (ρ:=ρ2) H1.next 0 len cap cap ⟨a.block,a.off,cap*P.cellsOf e,cap*P.cellsOf e,0⟩ hl2 hl (.inl rfl)
     rw [hxe];exact this
    ·unfold Wt;rw [hu]
     have hlc:len*P.cellsOf e≤cap*P.cellsOf e:=Nat.mul_le_mul_right _ hl
     refine ⟨_,len,accs.flatten.take (len*P.cellsOf e),rfl,Sl.of (Heap.get_push_eq H1 _) (getCells_head (by rw [hfl];exact hlc)) hl (.inl rfl),⟨by omega,?_⟩,fun i hi=>?_⟩
     ·have e1:len≤(elems.map (·.1)).length+(rest.map (·.1)).length:=by simp;omega
      exact Nat.le_trans (Nat.mul_le_mul_right _ e1) hLb
     obtain ⟨acs,hacs⟩:∃ acs,accs[i]?=some acs:=⟨accs[i]'(by omega),by simp⟩
     obtain ⟨ecs,_,_,hwt,_⟩:=hall1.get i acs hacs
     have hpart:=flat_part hal hacs
     have:((accs.flatten.take (len*P.cellsOf e)).drop (i*P.cellsOf e)).take (P.cellsOf e)=acs:=by
      rw [List.drop_take,List.take_take,Nat.min_eq_left,hpart]
      have:(i+1)*P.cellsOf e≤len*P.cellsOf e:=Nat.mul_le_mul_right _ hi
      rw [Nat.add_mul,Nat.one_mul] at this
      omega
     rw [this]
     exact hwt.mono le2.ext
 ·rename_i fs hu
  obtain ⟨hfs,htile⟩:=hs
  obtain ⟨xs,q,hq,rfl,hlen,hxl,hrd⟩:=DataW.trod_struct hu hx
  cases hq
  obtain ⟨ρ1,H1,accs,A1,le1,hall⟩:=buildL (enc:=enc) ih (fs.toList.map fun f=>(f.type,(cs.drop f.offset).take (P.cellsOf f.type))) (fun p hp=>by
   obtain ⟨f,hm,rfl⟩:=List.mem_map.1 hp
   obtain ⟨i,hi⟩:=List.getElem?_of_mem hm
   have hi':fs[i]?=some f:=by simpa using hi
   refine ⟨hfs f hm,fun ⟨x,n,c,hv⟩=>hd ⟨x,n,c,List.mem_of_mem_drop (List.mem_of_mem_take hv)⟩,?_⟩
   have:=hrd i f hi'
   refine ⟨xs[i]'(by rw [hxl];exact lt_of_get hi'),?_,hL.struct hu i f _ hi' (by simp [List.getElem?_map,List.getElem?_eq_getElem (by rw [hxl];exact lt_of_get hi':i < xs.length)])⟩
   rw [this];simp) ρ H A
  have hall1:All2 (fun (acs:List Value) (f:Field)=>LRel ρ1 acs ((cs.drop f.offset).take (P.cellsOf f.type))∧Wt P H1.get d f.type acs) accs fs.toList:=by
   generalize fs.toList=fl at hall
   clear hfs htile hxl hrd
   generalize hl':fl.map (fun f=>(f.type,(cs.drop f.offset).take (P.cellsOf f.type)))=l' at hall
   induction hall generalizing fl with
   | nil=>cases fl with
    | nil=>exact .nil
    | cons _ _=>simp at hl'
   | cons h _ ih'=>cases fl with
    | nil=>simp at hl'
    | cons f fl =>
     simp only [List.map_cons,List.cons.injEq] at hl'
     obtain ⟨rfl,hl'⟩:=hl'
     exact .cons ⟨h.1,h.2⟩ (ih' fl hl')
  have hcs:=tiles_cs fs.toList 0 _ cs htile hlen
  have hsub:∀ f∈fs.toList,((cs.drop f.offset).take (P.cellsOf f.type)).length=P.cellsOf f.type:=by
   have:∀ (fl:List Field) (o T:Nat),tiles P fl o=some T→cs.length=T→∀ f∈fl,o≤T∧((cs.drop f.offset).take (P.cellsOf f.type)).length=P.cellsOf f.type∧True:=by
    intro fl
    induction fl with
    | nil=>intro o T h hT f hf;cases hf
    | cons g fl ihf =>
     intro o T h hT f hf
     simp only [tiles] at h
     split at h
     ·rename_i e
      have ho:o+P.cellsOf g.type≤T:=by
       cases fl with
       | nil=>simp only [tiles,Option.some.injEq] at h;omega
       | cons g2 fl2=>exact (ihf _ T h hT g2 (by simp)).1
      rcases List.mem_cons.1 hf with rfl|hf
      ·refine ⟨by omega,?_,trivial⟩
       rw [List.length_take,List.length_drop];omega
      ·have:=ihf _ T h hT f hf
       exact ⟨by omega,this.2.1,trivial⟩
     ·cases h
   exact fun f hf=>(this fs.toList 0 _ htile hlen f hf).2.1
  have hlen2:All2 (fun (acs:List Value) (f:Field)=>acs.length=P.cellsOf f.type) accs fs.toList:=by
   have:∀ (accs:List (List Value)) (fl:List Field),All2 (fun (acs:List Value) (f:Field)=>LRel ρ1 acs ((cs.drop f.offset).take (P.cellsOf f.type))∧Wt P H1.get d f.type acs) accs fl→(∀ f∈fl,((cs.drop f.offset).take (P.cellsOf f.type)).length=P.cellsOf f.type)→All2 (fun (acs:List Value) (f:Field)=>acs.length=P.cellsOf f.type) accs fl:=by
    intro accs fl h
    induction h with
    | nil=>intro _;exact .nil
    | cons h _ ih'=>intro hh;exact .cons (by rw [h.1.length];exact hh _ (by simp)) (ih' fun f hf=>hh f (by simp [hf]))
   exact this accs fs.toList hall1 hsub
  obtain ⟨g1,g2⟩:=tiles_part fs.toList 0 _ accs [] htile rfl hlen2
  rw [List.nil_append] at g1 g2
  refine ⟨ρ1,H1,accs.flatten,A1,le1,?_,?_⟩
  ·have:LRel ρ1 accs.flatten (fs.toList.map fun f=>(cs.drop f.offset).take (P.cellsOf f.type)).flatten:=by
    apply All2.flatten
    clear hlen2 g1 g2 hsub hcs hfs htile hxl hrd hall
    generalize fs.toList=fl at hall1
    induction hall1 with
    | nil=>exact .nil
    | cons h _ ih'=>exact .cons h.1 ih'
   rw [hcs,List.drop_zero] at this
   exact this
  ·unfold Wt;rw [hu]
   refine ⟨g1,fun f hf=>?_⟩
   have key:∀ (accs0:List (List Value)) (fl:List Field) (big:List Value),All2 (fun (acs:List Value) (f:Field)=>(big.drop f.offset).take (P.cellsOf f.type)=acs) accs0 fl→All2 (fun (acs:List Value) (f:Field)=>LRel ρ1 acs ((cs.drop f.offset).take (P.cellsOf f.type))∧Wt P H1.get d f.type acs) accs0 fl→∀ f∈fl,Wt P H1.get d f.type ((big.drop f.offset).take (P.cellsOf f.type)):=by
    intro accs0 fl big h
    induction h with
    | nil=>intro _ f hf;cases hf
    | cons h _ ih'=>intro hh f hf;cases hh with
     | cons h1 h2 =>
      rcases List.mem_cons.1 hf with rfl|hf
      ·rw [h];exact h1.2
      ·exact ih' h2 f hf
   exact key accs fs.toList accs.flatten g2 hall1 f hf
 ·exact hs.elim
end
end Go.Ev
namespace Go.Ev
theorem dum_cell {P:Program} {w:World} {r:Reach} {base:Nat} {t:TypeId} {x:Addr} {n c:Nat} (h:Cell.okWide P w r base t (.slice (some x) n c)):Dummy w:=by
 have h':Cell.ok P w r base t (.slice (some x) n c):=by
  unfold Cell.okWide at h
  split at h<;>first|exact h|simp_all
 unfold Cell.ok at h'
 split at h'<;>first|(exact h'.elim)|skip
 all_goals first|(simp_all;done)|skip
 all_goals
  rename_i heq
  simp only [Value.slice.injEq,Option.some.injEq] at heq
  obtain ⟨rfl,rfl,rfl⟩:=heq
  obtain ⟨_,_,_,_,row,cells,hs,_⟩:=h'
  unfold World.shape? at hs
  split at hs
  ·rename_i c elem fz he;exact ⟨_,c,elem,fz,he⟩
  ·cases hs
theorem dum_of_okWide {P:Program} {w:World} {r:Reach} {base:Nat} {t:TypeId} {v:Value} (h:Value.okWide P w r base t v):DumIf w v.cells.toList:=by
 rintro ⟨x,n,c,hm⟩
 unfold Value.okWide at h
 have row:∀ cs:Array Value,v=.agg cs→Row.okWide P w r base t cs→Dummy w:=by
  rintro cs rfl ⟨ts,_,_,hr⟩
  simp only [Value.cells] at hm
  obtain ⟨i,hi⟩:=List.getElem?_of_mem hm
  obtain ⟨u,_,hu⟩:=hr i _ (by simpa using hi)
  exact dum_cell hu
 split at h
 ·obtain ⟨cs,h1,_,h2⟩:=h;exact row cs h1 h2
 ·obtain ⟨cs,h1,_,h2⟩:=h;exact row cs h1 h2
 ·cases v with
  | slice a m q =>
   simp only [Value.cells,List.mem_singleton,Value.slice.injEq] at hm
   obtain ⟨rfl,rfl,rfl⟩:=hm
   exact dum_cell h
  | agg cs =>
   exfalso
   unfold Cell.okWide at h
   split at h
   all_goals first|(simp_all;done)|skip
   unfold Cell.ok at h
   split at h<;>simp_all
  | _=>simp [Value.cells] at hm
section
variable {H0:Type} {enc:TypeId×Value→H0} {P:Program} {w:World} {S:List TypeId} (hS:∀ t∈S,SupT P S t)
include hS
theorem builds_all:∀ d,Builds enc P w S d
 | 0=>Builds.zero
 | d+1=>Builds.succ hS (builds_all d)
theorem args_build:∀ (ts:List TypeId) (vs:List Value) (ds:List (DataW H0)) (ps:List MemPlace),DataW.TrodAll enc P w 0 (fun _=>true) true ts vs ds ps→(∀ t∈ts,t∈S)→(∀ v∈vs,DumIf w v.cells.toList)→(DataW.weightsEach P ts ds).all (·≤reachBytes)=true →
  ∀ ρ H,Ab w ρ H→∃ ρ' H' args,Ab w ρ' H'∧AbLe ρ H ρ' H'∧LRel ρ' args vs∧All2 (fun a t=>∃ d,Wt P H'.get d t (cellsL a)) args ts
 | [],[],ds,ps,h,_,_,_,ρ,H,A=>⟨ρ,H,[],A,AbLe.refl _ _,.nil,.nil⟩
 | t::ts,v::vs,d::ds,ps,h,ht,hv,hL,ρ,H,A=>by
  rw [DataW.weightsEach,List.all_append,Bool.and_eq_true] at hL
  obtain ⟨p,q,⟨fuel,h1⟩,h2,_⟩:=h
  obtain ⟨ρ1,H1,acs,A1,le1,k1,k2⟩:=builds_all hS fuel t v.cells.toList (d,p) (ht t (by simp)) (hv v (by simp)) h1 hL.1 ρ H A
  obtain ⟨ρ2,H2,args,A2,le2,j1,j2⟩:=args_build ts vs ds q h2 (fun u hu=>ht u (by simp [hu])) (fun u hu=>hv u (by simp [hu])) hL.2 ρ1 H1 A1
  have key:∃ a,VRel ρ1 a v∧cellsL a=acs:=by
   cases v with
   | agg cs =>
    have:=ARel.of_list k1
    refine ⟨.agg acs.toArray,?_,rfl⟩
    have e:(Value.agg cs).cells.toList.toArray=cs:=by simp [Value.cells]
    rw [e] at this
    exact .agg _ _ this.1 this.2
   | _ =>
    simp only [Value.cells] at k1
    cases k1 with
    | cons r s =>
     cases s
     rename_i a
     refine ⟨a,r,?_⟩
     cases r<;>rfl
  obtain ⟨a,r1,r2⟩:=key
  exact ⟨ρ2,H2,a::args,A2,le1.trans le2,.cons (r1.mono le2.ren) j1,.cons ⟨fuel,by rw [r2];exact k2.mono le2.ext⟩ j2⟩
 | [],_::_,ds,ps,h,_,_,_,ρ,H,A=>by simp [DataW.TrodAll] at h
 | _::_,[],ds,ps,h,_,_,_,ρ,H,A=>by simp [DataW.TrodAll] at h
 | _::_,_::_,[],ps,h,_,_,_,ρ,H,A=>by simp [DataW.TrodAll] at h
end
theorem Ab.empty (w:World):Ab w noRen emptyHeap:=⟨Rel.empty w,fun i ⟨b,l,o,h,_⟩=>by cases h⟩
theorem trodAll_lt {H0:Type} {enc:TypeId×Value→H0} {P:Program} {w:World}:∀ (ts:List TypeId) (vs:List Value) (ds:List (DataW H0)) (ps:List MemPlace),DataW.TrodAll enc P w 0 (fun _=>true) true ts vs ds ps→∀ x∈ps,x.block < w.heap.size
 | [],[],[],ps,h,x,hx=>by simp only [DataW.TrodAll] at h;subst h;cases hx
 | t::ts,v::vs,d::ds,ps,h,x,hx=>by
  obtain ⟨p,q,⟨m,hm⟩,h2,rfl⟩:=h
  rcases List.mem_append.1 hx with hx|hx
  ·exact DataW.trod_lt m _ _ _ hm x hx
  ·exact trodAll_lt ts vs ds q h2 x hx
 | [],[],_::_,ps,h,_,_=>by simp [DataW.TrodAll] at h
 | [],_::_,ds,ps,h,_,_=>by simp [DataW.TrodAll] at h
 | _::_,[],ds,ps,h,_,_=>by simp [DataW.TrodAll] at h
 | _::_,_::_,[],ps,h,_,_=>by simp [DataW.TrodAll] at h
theorem trodAll_below {H0:Type} {enc:TypeId×Value→H0} {P:Program} (hl:laidOutB P=true) {W W':World} (bel:RowKit.Below W.heap.size W W'):∀ (ts:List TypeId) (vs:List Value) (ds:List (DataW H0)) (ps:List MemPlace),(∀ t∈ts,P.readableRec t=true∧t < P.types.size) →
  DataW.TrodAll enc P W 0 (fun _=>true) true ts vs ds ps→(∀ x∈ps,x.block < W.heap.size)→∃ ps',DataW.TrodAll enc P W' 0 (fun b=>decide (b < W.heap.size)) true ts vs ds ps'
 | [],[],[],ps,_,h,_=>⟨[],rfl⟩
 | t::ts,v::vs,d::ds,ps,ht,h,hlt=>by
  obtain ⟨p,q,h1,h2,rfl⟩:=h
  obtain ⟨ps',k⟩:=trodAll_below hl bel ts vs ds q (fun u hu=>ht u (by simp [hu])) h2 (fun x hx=>hlt x (by simp [hx]))
  exact ⟨p++ps',p,ps',RowKit.Below.trod hl (ht t (by simp)).1 (ht t (by simp)).2 h1 bel (fun x hx=>hlt x (by simp [hx])),k,rfl⟩
 | [],[],_::_,ps,_,h,_=>by simp [DataW.TrodAll] at h
 | [],_::_,ds,ps,_,h,_=>by simp [DataW.TrodAll] at h
 | _::_,[],ds,ps,_,h,_=>by simp [DataW.TrodAll] at h
 | _::_,_::_,[],ps,_,h,_=>by simp [DataW.TrodAll] at h
end Go.Ev
namespace Go.Ev
def WtV (P:Program) (Z:Zone) (t:TypeId) (a:Value):Prop :=
 (∃ d,Wt P Z d t (cellsL a))∧(match P.underlying t with|some (.struct _)=>∃ cs,a=.agg cs|_=>cellsL a=[a])
theorem trodAll_len {H0:Type} {enc:TypeId×Value→H0} {P:Program} {w:World}:∀ (ts:List TypeId) (vs:List Value) (ds:List (DataW H0)) (ps:List MemPlace),DataW.TrodAll enc P w 0 (fun _=>true) true ts vs ds ps→vs.length=ts.length
 | [],[],[],ps,h=>rfl
 | t::ts,v::vs,d::ds,ps,h=>by
  obtain ⟨p,q,_,h2,_⟩:=h
  simp [trodAll_len ts vs ds q h2]
 | [],[],_::_,ps,h=>by simp [DataW.TrodAll] at h
 | [],_::_,ds,ps,h=>by simp [DataW.TrodAll] at h
 | _::_,[],ds,ps,h=>by simp [DataW.TrodAll] at h
 | _::_,_::_,[],ps,h=>by simp [DataW.TrodAll] at h
theorem calls_row {H0:Type} {enc:TypeId×Value→H0} {P:Program} {M:Mach} (tok:TabOK P M.T) (fok:FOK P M.F) (hmix:P.follows .mixedOrders=true) (hO:OOK M.T M.F M.O) {S:List TypeId} (hS:∀ t∈S,SupT P S t)
  {g:FuncId} {ts:List TypeId} {W:World} {base:Nat} {args:Array Value} {ds:List (DataW H0)} {p:List MemPlace} (hA:DataW.TrodAll enc P W 0 (fun _=>true) true ts args.toList ds p) (hwt:(DataW.weightsEach P ts ds).all (·≤reachBytes)=true) (hts:∀ t∈ts,t∈S)
  (hval:∀ (j:Nat) t v,ts[j]?=some t→args[j]?=some v→Value.okWide P W .any base t v) (hg:M.O g=none)
  (law:∀ Z as,All2 (fun a t=>WtV P Z t a) as ts→Cz M (.func (.func g) #[] #[]) as Z [] (fun v _ _=>v=.bool true)) :
  Calls P g args W fun e w'=>e=.returned (.bool true)∧RowKit.Below W.heap.size W w':=by
 have hlen:=trodAll_len _ _ _ _ hA
 have typed:∀ (j:Nat) v,args.toList[j]?=some v→∃ t,ts[j]?=some t:=by
  intro j v hv
  have hj:j < ts.length:=by rw [←hlen];exact (List.getElem?_eq_some_iff.1 hv).1
  exact ⟨ts[j],List.getElem?_eq_getElem hj⟩
 have dum:∀ v∈args.toList,DumIf W v.cells.toList:=by
  intro v hv
  obtain ⟨j,hj⟩:=List.getElem?_of_mem hv
  obtain ⟨t,ht⟩:=typed j v hj
  exact dum_of_okWide (hval j t v ht (by simpa using hj))
 obtain ⟨ρ,H,as,A,_,k1,k2⟩:=args_build hS ts args.toList ds p hA hts dum hwt noRen emptyHeap (Ab.empty W)
 have hwt:All2 (fun a t=>WtV P H.get t a) as ts:=by
  refine All2.of_get k2.length fun i a ha=>?_
  obtain ⟨t,ht,hd⟩:=k2.get i a ha
  obtain ⟨v,hv,r⟩:=k1.get i a ha
  refine ⟨t,ht,hd,?_⟩
  have hok:=hval i t v ht (by simpa using hv)
  have hsup:=hS t (hts t (List.mem_of_getElem? ht))
  unfold SupT at hsup
  unfold Value.okWide at hok
  cases hu:P.underlying t with
  | none=>rw [hu] at hsup;exact hsup.elim
  | some de =>
   rw [hu] at hok hsup
   cases de with
   | struct fs =>
    obtain ⟨cs,rfl,_⟩:=hok
    cases r
    exact ⟨_,rfl⟩
   | array n e=>exact hsup.elim
   | _ =>
    show cellsL a=[a]
    have hna:∀ cs,v≠.agg cs:=by
     rintro cs rfl
     unfold Cell.okWide at hok
     rw [hu] at hok
     split at hok
     all_goals first|(simp_all;done)|(unfold Cell.ok at hok;rw [hu] at hok;split at hok<;>simp_all)
    cases r with
    | agg x x' hx h=>exact absurd rfl (hna _)
    | _=>rfl
 refine (calls_of_Cz tok fok hmix hO (law H.get as hwt) hg A.rel (St.zone H A.rel.wf) A.own k1).mono ?_
 rintro e w' ⟨v',cv,ρ',Z',A',rfl,r,hb,rfl⟩
 cases r
 exact ⟨rfl,hb⟩
def supB1 (P:Program) (S:List TypeId) (t:TypeId):Bool :=
 match P.underlying t with
 | some .bool=>P.cellsOf t==1
 | some (.int _)=>P.cellsOf t==1
 | some .string=>P.cellsOf t==1
 | some (.slice e)=>S.contains e&&Nat.blt 0 (P.cellsOf e)&&P.cellsOf t==1
 | some (.struct fs)=>fs.toList.all (fun f=>S.contains f.type)&&(match tiles P fs.toList 0 with|some n=>n==P.cellsOf t|none=>false)
 | _=>false
def supB (P:Program) (S:List TypeId):Bool:=S.all (supB1 P S)
theorem sup_of {P:Program} {S:List TypeId} (h:supB P S=true):∀ t∈S,SupT P S t:=by
 intro t ht
 have:=List.all_eq_true.1 h t ht
 unfold supB1 at this
 unfold SupT
 split at this
 ·rename_i e;(try simp only [e]);simpa using this
 ·rename_i e;(try simp only [e]);simpa using this
 ·rename_i e;(try simp only [e]);simpa using this
 ·rename_i x e;(try simp only [e])
  simp only [Bool.and_eq_true,List.contains_iff_mem,beq_iff_eq,Nat.blt_eq] at this
  exact ⟨this.1.1,this.1.2,this.2⟩
 ·rename_i fs e;(try simp only [e])
  simp only [Bool.and_eq_true,List.all_eq_true,List.contains_iff_mem] at this
  refine ⟨this.1,?_⟩
  have h2:=this.2
  split at h2
  ·rename_i n hn;rw [hn];simpa using h2
  ·cases h2
 ·cases this
end Go.Ev
namespace Go.Ev
theorem kM {p : Prop} (h : p := by repeat (first | exact trivial | refine And.intro rfl ?_ | refine And.intro (kpI rfl (by omega)) ?_)) : p := h
theorem hM {p : Prop} (h : p := by first | exact Or.inl (by assumption) | (refine Or.inr ?_; repeat (first | exact List.Mem.head _ | refine List.Mem.tail _ ?_))) : p := h
theorem rM {p : Prop} (h : p := by repeat (first | exact Rem.head | apply Rem.tail)) : p := h
theorem sM {p : Prop} (h : p := by repeat (first | exact Sub.none _ | exact Sub.refl _ | refine Sub.keep ?_ | refine Sub.drop ?_)) : p := h
theorem uM {p : Prop} (h : p := by repeat (first | exact Upd.head | apply Upd.tail)) : p := h
theorem oM {p : Prop} (h : p := by first | omega | (simp only [Array.size_setIfInBounds, Go.Proofs.J.swp_size]; omega)) : p := h
theorem cM {p : Prop} (h : p := by kernel_rfl) : p := h
theorem wM {p : Prop} (h : p := by omega) : p := h
theorem pM0 {p : Prop} (h : p := by repeat (first | exact PnAll.done | refine PnAll.two ?_ | refine PnAll.skip rfl ?_ | refine PnAll.keep (Rd.loadL rfl rfl Ev.hM rfl rfl) (by first | exact veq_slice _ _ _ | exact veq_int _ _ | exact Sl.veq (by assumption) | simp [veq, veqL, veq1]) ?_ | refine PnAll.keep (by apply Rd.loadP (o := 0); exact rfl; exact rfl; (first | assumption | (refine Pz.mono ?_ (by assumption); assumption)); exact rfl; exact rfl) (by first | exact veq_slice _ _ _ | exact veq_int _ _ | exact Sl.veq (by assumption) | simp [veq, veqL, veq1]) ?_)) : p := h
end Go.Ev
