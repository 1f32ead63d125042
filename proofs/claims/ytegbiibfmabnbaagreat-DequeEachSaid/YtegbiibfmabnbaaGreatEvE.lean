/- The evaluator with answers that are known of closed functions; more rounds tell the same. -/
import Derived.Test.YtegbiibfmabnbaaGreatEvC
import Derived.IntWalk
set_option linter.unusedSimpArgs false
set_option linter.unusedVariables false
set_option linter.unusedSectionVars false
namespace Go.Ev
abbrev Ora:=FuncId→Option Bool
def evalO (T:Tab) (F:FTab) (O:Ora):Nat→CallSem
 | 0,_,_,_=>none
 | n+1,fv,args,H =>
  match fv with
  | .func (.func g) x y =>
   match O g,(x.toList++args)++y.toList with
   | some b,[]=>some (.bool b,H)
   | _,all=>callFn T F (evalO T F O n) n g all H
  | .func (.yield l) x _=>yieldRound T (evalO T F O n) n l (x.toList++args) H
  | _=>none
def OOK (T:Tab) (F:FTab) (O:Ora):Prop:=∀ g b,O g=some b→∃ n m H',callFn T F (evalCall T F n) m g [] emptyHeap=some (.bool b,H')
theorem All2.nil_inv {α β:Type} {R:α→β→Prop} {y:List β} (h:All2 R [] y):y=[]:=by cases h;rfl
theorem evalO_sound {P:Program} {T:Tab} (tok:TabOK P T) {F:FTab} (fok:FOK P F) (hmix:P.follows .mixedOrders=true) {O:Ora} (hO:OOK T F O):∀ n,CSound P (evalO T F O n)
 | 0=>fun fv args H v H' h=>by simp [evalO] at h
 | n+1=>by
  have hC:=evalO_sound tok fok hmix hO n
  intro fv args H v H' h ρ w cfv cargs rf ra R c cs
  simp only [evalO] at h
  split at h
  ·rename_i g x y
   cases rf with
   | func _ fn' _ _ x' y' hf hx hy h1 h2 =>
    cases hf with
    | func _ =>
     have rall:LRel ρ (x.toList++args++y.toList) (x'.toList++cargs++y'.toList):=All2.append (All2.append (ARel.toList ⟨hx,h1⟩) ra) (ARel.toList ⟨hy,h2⟩)
     have fin:∀ (w':World) (cv:Value),(∃ fr,Steps P (lone (Frame.enter P g (x'.toList++cargs++y'.toList).toArray .normal) (c::cs) w) (lone fr (c::cs) w')∧fr.fn=g∧fr.leaving P w' (.returned cv))→(∃ k fi,F g k=some fi) →
       CallRuns P (.func (.func g) x' y') cargs.toArray w cv w' c cs:=by
      intro w' cv c1 ⟨k,fi,hF⟩
      refine ⟨.enter g (x'.toList++cargs++y'.toList).toArray,w,?_,.inl ⟨g,_,rfl,?_⟩⟩
      ·obtain ⟨fn,c0,f1,f2,f5,_⟩:=fok g k fi hF
       have e:x'++cargs.toArray++y'=(x'.toList++cargs++y'.toList).toArray:=by apply Array.ext';simp
       simp [Deferred.ofValue,invoke,callFunc,Sem.run_bind,program,Sem.run,f1,f2,e]
       simpa using f5
      ·obtain ⟨fr,p1,p2,p3⟩:=c1
       exact p1.trans (.one (step_leave_returned p3))
     have some_of:∀ {C:CallSem} {m:Nat} {all:List Value} {H:Heap} {r},callFn T F C m g all H=some r→∃ k fi,F g k=some fi:=by
      intro C m all H r h
      unfold callFn at h
      cases hF:F g all.length with
      | none=>rw [hF] at h;cases h
      | some fi=>exact ⟨_,fi,hF⟩
     split at h
     ·rename_i b hob hnil
      cases h
      obtain ⟨m1,m2,H1,hcl⟩:=hO g _ hob
      rw [hnil] at rall
      have hn:=rall.nil_inv
      obtain ⟨ρ',w',cv,c1,c2,c3,c4⟩:=callFn_steps tok fok (evalCall_sound tok fok hmix m1) hmix hcl .nil (Rel.empty w) (c::cs)
      cases c2
      have hb:=c3.below (fun i ⟨b,l,o,h,_⟩=>by cases h)
      have hfr:∀ i,i < w.heap.size→w'.heap[i]?=w.heap[i]?:=fun i hi=>c3.frame i hi (fun ⟨b,l,o,h,_⟩=>by cases h)
      refine ⟨ρ,w',.bool b,?_,.bool b,?_,?_⟩
      ·refine fin w' _ ?_ (some_of hcl)
       rw [hn]
       exact c1
      ·exact ⟨Ren.le_refl _,fun _ _ h=>.inl h,Nat.le_refl _,fun _ _ _=>rfl,c3.size,fun _ h=>.inl h,fun i hi _=>hfr i hi,c3.os,c3.tape,c3.output⟩
      ·refine ⟨R.wf,R.dom,fun b l h=>Nat.lt_of_lt_of_le (R.cdom b l h) c3.size,fun b l o h1 h2=>?_,R.sep⟩
       rw [hfr _ (R.cdom b l h1)]
       exact R.live b l o h1 h2
     ·obtain ⟨ρ',w',cv,c1,c2,c3,c4⟩:=callFn_steps tok fok hC hmix h rall R (c::cs)
      exact ⟨ρ',w',cv,fin w' cv c1 (some_of h),c2,c3,c4⟩
  ·rename_i l x y
   cases rf with
   | func _ fn' _ _ x' y' hf hx hy h1 h2 =>
    cases hf with
    | yield _ loc hl =>
     have rall:LRel ρ (x.toList++args) (x'.toList++cargs):=All2.append (ARel.toList ⟨hx,h1⟩) ra
     obtain ⟨ρ',w',cv,⟨f,ts,as,bd,c1,c1'⟩,c2,c3,c4⟩:=round_steps tok fok hC hmix h rall R hl c cs
     refine ⟨ρ',w',cv,⟨_,w,?_,.inr ⟨loc.cb,f,ts,as,bd,rfl,c1'⟩⟩,c2,c3,c4⟩
     have e:x'++cargs.toArray=(x'.toList++cargs).toArray:=by apply Array.ext';simp
     simp only [Deferred.ofValue,Sem.run_bind,Sem.run_pure,Result.andThen_ok,invoke,e,c1]
  ·cases h
def CLe (C C':CallSem):Prop:=∀ f a H r,C f a H=some r→C' f a H=some r
theorem CLe.refl (C:CallSem):CLe C C:=fun _ _ _ _ h=>h
section
variable {T:Tab} {C C':CallSem} (hC:CLe C C')
include hC
theorem acall_mono {ev:Operand→Option Value} {H:Heap} {c:Call} {r} (h:acall C ev H c=some r):acall C' ev H c=some r:=by
 unfold acall at h ⊢
 split at h
 ·simp only [Option.bind_eq_bind,Option.bind_eq_some_iff] at h ⊢
  obtain ⟨fv,h1,l,h2,h3⟩:=h
  exact ⟨fv,h1,l,h2,hC _ _ _ _ h3⟩
 ·cases h
theorem aE_mono {ev:Operand→Option Value} {H:Heap} {op:Op} {r} (h:aE T C ev H op=some r):aE T C' ev H op=some r:=by
 unfold aE at h ⊢
 split at h
 ·split at h
  ·exact acall_mono hC h
  ·exact h
 ·exact h
theorem astep_mono {ev:Operand→Option Value} {H:Heap} {op:Op} {r} (h:astep T C ev H op=some r):astep T C' ev H op=some r:=by
 unfold astep at h ⊢
 split at h
 ·exact h
 ·exact h
 ·exact aE_mono hC h
theorem evalSeq_mono {ops:Array Oper}:∀ {l:List Nat} {env:Env} {H:Heap} {r},evalSeq T C ops l env H=some r→evalSeq T C' ops l env H=some r
 | [],env,H,r,h=>h
 | i::rest,env,H,r,h=>by
  simp only [evalSeq] at h ⊢
  split at h
  ·cases h
  ·split at h
   ·rename_i o ho hw
    simp only [hw,if_true]
    split at h
    ·rename_i v H' hs
     rw [astep_mono hC hs]
     exact evalSeq_mono h
    ·cases h
   ·rename_i o ho hw
    simp only [hw,if_false]
    exact evalSeq_mono h
theorem evalDraw_mono {ops:Array Oper} {ms:List Nat}:∀ {l:List Nat} {env:Env} {H:Heap} {ps:List Pend} {r},evalDraw T C ops ms l env H ps=some r→evalDraw T C' ops ms l env H ps=some r
 | [],env,H,ps,r,h=>h
 | i::rest,env,H,ps,r,h=>by
  simp only [evalDraw] at h ⊢
  split at h
  ·cases h
  ·split at h
   ·rename_i o ho hw
    simp only [hw,if_true]
    split at h
    ·rename_i hk
     split at h
     ·exact evalDraw_mono h
     ·cases h
    ·split at h
     ·exact evalDraw_mono h
     ·cases h
    ·split at h
     ·rename_i v H' hs
      rw [aE_mono hC hs]
      dsimp only at h ⊢
      split at h
      ·rename_i hq
       simp only [hq,if_true]
       exact evalDraw_mono h
      ·cases h
     ·cases h
   ·rename_i o ho hw
    simp only [hw,if_false]
    exact evalDraw_mono h
theorem evalSwap_mono {ops:Array Oper} {ms:List Nat} {env:Env} {H:Heap} {r} (h:evalSwap T C ops ms env H=some r):evalSwap T C' ops ms env H=some r:=by
 unfold evalSwap at h ⊢
 split at h
 ·rename_i s hs
  split at h
  ·rename_i hc
   simp only [hc,if_true]
   simp only [Option.bind_eq_some_iff] at h ⊢
   obtain ⟨r1,k1,r2,k2,k3⟩:=h
   exact ⟨r1,evalDraw_mono hC k1,r2,evalDraw_mono hC k2,k3⟩
  ·cases h
 ·cases h
theorem evalRegion_mono {ops:Array Oper} {draw:Bool} {env:Env} {H:Heap} {r} (h:evalRegion T C ops draw env H=some r):evalRegion T C' ops draw env H=some r:=by
 unfold evalRegion at h ⊢
 split at h
 ·rename_i hd
  simp only [hd,if_true]
  dsimp only at h ⊢
  split at h
  ·rename_i hp
   simp only [hp,if_true]
   exact evalDraw_mono hC h
  ·rename_i hp
   simp only [hp,if_false]
   exact evalSwap_mono hC h
 ·rename_i hd
  simp only [hd,if_false]
  split at h
  ·rename_i hp
   simp only [hp,if_true]
   exact evalSeq_mono hC h
  ·cases h
omit hC in
theorem loopN_mono {s s':Env→Heap→Res} (hs:∀ env H r,s env H=some r→s' env H=some r):∀ {n n':Nat},n≤n'→∀ {env:Env} {H:Heap} {r},loopN s n env H=some r→loopN s' n' env H=some r
 | 0,n',_,env,H,r,h=>by cases h
 | n+1,n',hn,env,H,r,h=>by
  obtain ⟨m,rfl⟩:∃ m,n'=m+1:=⟨n' - 1,by omega⟩
  simp only [loopN] at h ⊢
  cases hq:s env H with
  | none=>rw [hq] at h;cases h
  | some q =>
   rw [hq] at h
   rw [hs _ _ _ hq]
   obtain ⟨e,env',H'⟩:=q
   cases e with
   | normal=>exact loopN_mono hs (by omega) h
   | ret=>exact h
   | exit id=>exact h
theorem evalCode_mono {fn:FuncId} {rd:Option Nat} {n n':Nat} (hn:n≤n'):∀ {c:Code} {env:Env} {H:Heap} {r},evalCode T C n fn rd c env H=some r→evalCode T C' n' fn rd c env H=some r:=by
 intro c
 induction c with
 | region id ops draw =>
  intro env H r h
  simp only [evalCode,Option.map_eq_some_iff] at h ⊢
  obtain ⟨p,h1,h2⟩:=h
  exact ⟨p,evalRegion_mono hC h1,h2⟩
 | seq a b iha ihb =>
  intro env H r h
  simp only [evalCode] at h ⊢
  cases hq:evalCode T C n fn rd a env H with
  | none=>rw [hq] at h;cases h
  | some q =>
   rw [hq] at h
   rw [iha hq]
   obtain ⟨e,env',H'⟩:=q
   cases e with
   | normal=>exact ihb h
   | ret=>exact h
   | exit id=>exact h
 | cond c x y ihx ihy =>
  intro env H r h
  simp only [evalCode] at h ⊢
  split at h
  ·exact ihx h
  ·exact ihy h
  ·cases h
 | block id body ih =>
  intro env H r h
  simp only [evalCode] at h ⊢
  cases hq:evalCode T C n fn rd body env H with
  | none=>rw [hq] at h;cases h
  | some q=>rw [hq] at h;rw [ih hq];exact h
 | loop body ih =>
  intro env H r h
  simp only [evalCode] at h ⊢
  exact loopN_mono (fun _ _ _ k=>ih k) hn h
 | rangeFunc f params assign body _ _ =>
  intro env H r h
  simp only [evalCode] at h ⊢
  cases hf:evOp env f with
  | none=>rw [hf] at h;cases h
  | some fv =>
   rw [hf] at h
   dsimp only at h ⊢
   split at h
   ·rename_i hl
    simp only [hl,if_true]
    cases hq:C fv [.func (.yield H.next) #[] #[]] (H.push (.loop .ready none fn env params assign body)) with
    | none=>rw [hq] at h;cases h
    | some q=>rw [hq] at h;rw [hC _ _ _ _ hq];exact h
   ·cases h
 | _=>intro env H r h;exact h
theorem callFn_mono {F:FTab} {n n':Nat} (hn:n≤n') {g:FuncId} {args:List Value} {H:Heap} {r} (h:callFn T F C n g args H=some r):callFn T F C' n' g args H=some r:=by
 unfold callFn at h ⊢
 cases hF:F g args.length with
 | none=>rw [hF] at h;cases h
 | some fi =>
  rw [hF] at h
  dsimp only at h ⊢
  cases hq:evalCode T C n g none fi.code (args.toArray++Array.replicate (fi.ntmps - args.length) undef) H with
  | none=>rw [hq] at h;cases h
  | some q=>rw [hq] at h;rw [evalCode_mono hC hn hq];exact h
theorem yieldRound_mono {n n':Nat} (hn:n≤n') {l:Nat} {args:List Value} {H:Heap} {r} (h:yieldRound T C n l args H=some r):yieldRound T C' n' l args H=some r:=by
 unfold yieldRound at h ⊢
 split at h
 ·rename_i pend fn env params assign body hg
  split at h
  ·rename_i hl
   simp only [hl,if_true]
   cases hq:evalCode T C n fn (some l) assign ((params.zip args.toArray).foldl (fun ts p=>ts.setIfInBounds p.1 p.2) env) H with
   | none=>rw [hq] at h;cases h
   | some q =>
    rw [hq] at h
    rw [evalCode_mono hC hn hq]
    obtain ⟨e,env1,H1⟩:=q
    cases e with
    | normal =>
     dsimp only at h ⊢
     split at h
     ·rename_i pend1 fn1 env0 params1 assign1 body1 hg1
      cases hq2:evalCode T C n fn (some l) body env1 (H1.put l (some (.loop .busy pend1 fn1 env0 params1 assign1 body1))) with
      | none=>rw [hq2] at h;cases h
      | some q2=>rw [hq2] at h;rw [evalCode_mono hC hn hq2];exact h
     ·cases h
    | ret=>cases h
    | exit id=>cases h
  ·cases h
 ·cases h
end
theorem evalO_succ (T:Tab) (F:FTab) (O:Ora):∀ n,CLe (evalO T F O n) (evalO T F O (n+1))
 | 0=>fun f a H r h=>by cases h
 | n+1=>by
  have ih:=evalO_succ T F O n
  intro f a H r h
  cases f with
  | func fn x y =>
   cases fn with
   | func g =>
    rw [evalO] at h ⊢
    split at h
    ·exact h
    ·rename_i hne
     exact callFn_mono ih (by omega) h
   | yield l=>exact yieldRound_mono ih (by omega) h
   | _=>cases h
  | _=>cases h
theorem evalO_le (T:Tab) (F:FTab) (O:Ora) {n m:Nat} (h:n≤m):CLe (evalO T F O n) (evalO T F O m):=by
 induction h with
 | refl=>exact CLe.refl _
 | step _ ih=>exact fun f a H r k=>evalO_succ T F O _ _ _ _ _ (ih f a H r k)
end Go.Ev
namespace Go.Ev
abbrev Zone:=Nat→Option AObj
def Ext (Z Z':Zone):Prop:=∀ b o,Z b=some o→Z' b=some o
theorem Ext.refl (Z:Zone):Ext Z Z:=fun _ _ h=>h
theorem Ext.trans {Z Z1 Z2:Zone} (h:Ext Z Z1) (k:Ext Z1 Z2):Ext Z Z2:=fun b o e=>k b o (h b o e)
abbrev Cel:=Nat×AObj
structure SA where
 p:Zone→List Cel→Prop
 mono:∀ {Z Z':Zone} {s:List Cel},Ext Z Z'→p Z s→p Z' s
def pt (b:Nat) (o:AObj):SA:=⟨fun _ s=>s=[(b,o)],fun _ h=>h⟩
inductive Sat (Z:Zone):List SA→List Cel→Prop
 | nil:Sat Z [] []
 | cons {P:SA} {A:List SA} {s t:List Cel} (h:P.p Z s) (k:Sat Z A t):Sat Z (P::A) (s++t)
theorem Sat.mono {Z Z':Zone} (e:Ext Z Z') {A:List SA} {s:List Cel} (h:Sat Z A s):Sat Z' A s:=by
 induction h with
 | nil=>exact .nil
 | cons h _ ih=>exact .cons (SA.mono _ e h) ih
structure St0 (H:Heap) (Z:Zone) (σ:List Cel):Prop where
 wf:∀ b,H.next≤b→H.get b=none
 sub:∀ b o,Z b=some o→H.get b=some o
 own:∀ p∈σ,H.get p.1=some p.2
 sep:∀ p∈σ,Z p.1=none
 nodup:(σ.map (·.1)).Nodup
theorem St0.perm {H:Heap} {Z:Zone} {σ τ:List Cel} (p:σ.Perm τ) (h:St0 H Z σ):St0 H Z τ :=
 ⟨h.wf,h.sub,fun q hq=>h.own q (p.mem_iff.2 hq),fun q hq=>h.sep q (p.mem_iff.2 hq),(p.map _).nodup_iff.1 h.nodup⟩
theorem St0.drop {H:Heap} {Z:Zone} {σ τ:List Cel} (h:St0 H Z (σ++τ)):St0 H Z τ :=
 ⟨h.wf,h.sub,fun q hq=>h.own q (by simp [hq]),fun q hq=>h.sep q (by simp [hq]),by have:=h.nodup;rw [List.map_append] at this;exact (List.nodup_append.1 this).2.1⟩
theorem St0.lt {H:Heap} {Z:Zone} {σ:List Cel} (h:St0 H Z σ) {p:Cel} (hp:p∈σ):p.1 < H.next:=by
 rcases Nat.lt_or_ge p.1 H.next with k|k
 ·exact k
 ·have:=h.wf _ k;rw [h.own p hp] at this;cases this
theorem St0.push {H:Heap} {Z:Zone} {σ:List Cel} (h:St0 H Z σ) (o:AObj):St0 (H.push o) Z ((H.next,o)::σ) where
 wf:=fun b hb=>by
  rw [Heap.next_push] at hb
  rw [Heap.get_push_ne H o (by omega)];exact h.wf b (by omega)
 sub:=fun b o' hb=>by
  have hg:=h.sub b o' hb
  have:b≠H.next:=fun e=>by rw [h.wf b (by omega)] at hg;cases hg
  rw [Heap.get_push_ne H o this];exact hg
 own:=fun p hp=>by
  rcases List.mem_cons.1 hp with rfl|hp
  ·exact Heap.get_push_eq H o
  ·have:=h.lt hp
   rw [Heap.get_push_ne H o (by omega)];exact h.own p hp
 sep:=fun p hp=>by
  rcases List.mem_cons.1 hp with rfl|hp
  ·cases e:Z H.next with
   | none=>rfl
   | some o'=>have:=h.sub _ _ e;rw [h.wf _ (Nat.le_refl _)] at this;cases this
  ·exact h.sep p hp
 nodup:=by
  rw [List.map_cons,List.nodup_cons]
  refine ⟨fun hm=>?_,h.nodup⟩
  obtain ⟨p,hp,e⟩:=List.mem_map.1 hm
  have:=h.lt hp
  simp only at e;omega
theorem St0.put {H:Heap} {Z:Zone} {σ:List Cel} {b:Nat} {o o':AObj} (h:St0 H Z ((b,o)::σ)):St0 (H.put b (some o')) Z ((b,o')::σ) where
 wf:=fun c hc=>by
  have:=h.lt (p:=(b,o)) (by simp)
  rw [Heap.next_put] at hc
  simp only at this
  rw [Heap.get_put_ne H _ (by omega)];exact h.wf c hc
 sub:=fun c x hc=>by
  have:c≠b:=fun e=>by have:=h.sep (b,o) (by simp);rw [e] at hc;rw [hc] at this;cases this
  rw [Heap.get_put_ne H _ this];exact h.sub c x hc
 own:=fun p hp=>by
  rcases List.mem_cons.1 hp with rfl|hp
  ·exact Heap.get_put_eq H _ _
  ·have hn:=h.nodup
   rw [List.map_cons,List.nodup_cons] at hn
   have:p.1≠b:=fun e=>hn.1 (List.mem_map.2 ⟨p,hp,e⟩)
   rw [Heap.get_put_ne H _ this];exact h.own p (by simp [hp])
 sep:=fun p hp=>by
  rcases List.mem_cons.1 hp with rfl|hp
  ·exact h.sep (b,o) (by simp)
  ·exact h.sep p (by simp [hp])
 nodup:=h.nodup
theorem St0.kill {H:Heap} {Z:Zone} {σ:List Cel} {b:Nat} {o:AObj} (h:St0 H Z ((b,o)::σ)):St0 (H.put b none) Z σ where
 wf:=fun c hc=>by
  rw [Heap.next_put] at hc
  rw [Heap.get_put];split
  ·rfl
  ·exact h.wf c hc
 sub:=fun c x hc=>by
  have:c≠b:=fun e=>by have:=h.sep (b,o) (by simp);rw [e] at hc;rw [hc] at this;cases this
  rw [Heap.get_put_ne H _ this];exact h.sub c x hc
 own:=fun p hp=>by
  have hn:=h.nodup
  rw [List.map_cons,List.nodup_cons] at hn
  have:p.1≠b:=fun e=>hn.1 (List.mem_map.2 ⟨p,hp,e⟩)
  rw [Heap.get_put_ne H _ this];exact h.own p (by simp [hp])
 sep:=fun p hp=>h.sep p (by simp [hp])
 nodup:=by have:=h.nodup;rw [List.map_cons,List.nodup_cons] at this;exact this.2
def Zone.add (Z:Zone) (b:Nat) (o:AObj):Zone:=fun c=>if c=b then some o else Z c
theorem St0.freeze {H:Heap} {Z:Zone} {σ:List Cel} {b:Nat} {o:AObj} (h:St0 H Z ((b,o)::σ)):Ext Z (Z.add b o)∧St0 H (Z.add b o) σ:=by
 have hn:=h.nodup
 rw [List.map_cons,List.nodup_cons] at hn
 refine ⟨fun c x hc=>?_,h.wf,fun c x hc=>?_,fun p hp=>h.own p (by simp [hp]),fun p hp=>?_,hn.2⟩
 ·have:c≠b:=fun e=>by have:=h.sep (b,o) (by simp);rw [e] at hc;rw [hc] at this;cases this
  simp [Zone.add,this,hc]
 ·simp only [Zone.add] at hc
  split at hc
  ·rename_i e;cases hc;rw [e];exact h.own (b,o) (by simp)
  ·exact h.sub c x hc
 ·have:p.1≠b:=fun e=>hn.1 (List.mem_map.2 ⟨p,hp,e⟩)
  simp [Zone.add,this,h.sep p (by simp [hp])]
def St (H:Heap) (Z:Zone) (A:List SA) (φ:List Cel):Prop:=∃ σ,Sat Z A σ∧St0 H Z (σ++φ)
inductive Spl:List SA→List SA→List SA→Prop
 | nil:Spl [] [] []
 | l {x A B C} (h:Spl A B C):Spl (x::A) (x::B) C
 | r {x A B C} (h:Spl A B C):Spl (x::A) B (x::C)
theorem Spl.none:∀ (A:List SA),Spl A [] A
 | []=>.nil
 | _::A=>.r (Spl.none A)
theorem Spl.all:∀ (A:List SA),Spl A A []
 | []=>.nil
 | _::A=>.l (Spl.all A)
inductive Rem:List SA→SA→List SA→Prop
 | head {x A}:Rem (x::A) x A
 | tail {x y A B} (h:Rem A x B):Rem (y::A) x (y::B)
inductive Upd:List SA→SA→SA→List SA→Prop
 | head {x y A}:Upd (x::A) x y (y::A)
 | tail {x y z A B} (h:Upd A x y B):Upd (z::A) x y (z::B)
theorem Sat.spl {Z:Zone} {A B C:List SA} (h:Spl A B C):∀ {σ:List Cel},Sat Z A σ→∃ s t,Sat Z B s∧Sat Z C t∧σ.Perm (s++t):=by
 induction h with
 | nil=>intro σ h;cases h;exact ⟨[],[],.nil,.nil,.nil⟩
 | l _ ih =>
  intro σ h
  cases h with
  | cons h k =>
   obtain ⟨s,t,h1,h2,h3⟩:=ih k
   exact ⟨_,t,.cons h h1,h2,by rw [List.append_assoc];exact h3.append_left _⟩
 | r _ ih =>
  intro σ h
  cases h with
  | cons h k =>
   rename_i q _
   obtain ⟨s,t,h1,h2,h3⟩:=ih k
   refine ⟨s,_,h1,.cons h h2,(h3.append_left q).trans ?_⟩
   rw [←List.append_assoc,←List.append_assoc]
   exact (List.perm_append_comm).append_right t
theorem Sat.append {Z:Zone} {A B:List SA} {s t:List Cel} (h:Sat Z A s) (k:Sat Z B t):Sat Z (A++B) (s++t):=by
 induction h with
 | nil=>exact k
 | cons h _ ih=>rw [List.append_assoc];exact .cons h ih
theorem Sat.one {Z:Zone} {x:SA} {s:List Cel} (h:x.p Z s):Sat Z [x] s:=by have:=Sat.cons h .nil;simpa using this
theorem Sat.one_inv {Z:Zone} {x:SA} {s:List Cel} (h:Sat Z [x] s):x.p Z s:=by
 cases h with
 | cons h k=>cases k;simpa using h
theorem Rem.spl {A B:List SA} {x:SA} (h:Rem A x B):Spl A [x] B:=by
 induction h with
 | head=>exact .l (Spl.none _)
 | tail _ ih=>exact .r ih
theorem Upd.rem {A B:List SA} {x y:SA} (h:Upd A x y B):∃ C,Rem A x C∧Rem B y C:=by
 induction h with
 | head=>exact ⟨_,.head,.head⟩
 | tail _ ih=>obtain ⟨C,h1,h2⟩:=ih;exact ⟨_,.tail h1,.tail h2⟩
theorem Sat.rem {Z:Zone} {A B:List SA} {x:SA} (h:Rem A x B) {σ:List Cel} (k:Sat Z A σ):∃ s t,x.p Z s∧Sat Z B t∧σ.Perm (s++t):=by
 obtain ⟨s,t,h1,h2,h3⟩:=k.spl h.spl
 exact ⟨s,t,h1.one_inv,h2,h3⟩
theorem Sat.put {Z:Zone} {A B:List SA} {x:SA} (h:Rem A x B):∀ {s t:List Cel},x.p Z s→Sat Z B t→∃ σ,Sat Z A σ∧σ.Perm (s++t):=by
 induction h with
 | head=>intro s t h k;exact ⟨_,.cons h k,.refl _⟩
 | tail _ ih =>
  intro s t h k
  cases k with
  | cons k1 k2 =>
   rename_i q r
   obtain ⟨σ,h1,h2⟩:=ih h k2
   refine ⟨_,.cons k1 h1,(h2.append_left q).trans ?_⟩
   rw [←List.append_assoc,←List.append_assoc]
   exact (List.perm_append_comm).append_right r
theorem St.split {H:Heap} {Z:Zone} {A B C:List SA} {φ:List Cel} (p:Spl A B C) (h:St H Z A φ):∃ t,Sat Z C t∧St H Z B (t++φ):=by
 obtain ⟨σ,h1,h2⟩:=h
 obtain ⟨s,t,k1,k2,k3⟩:=h1.spl p
 exact ⟨t,k2,s,k1,h2.perm (by rw [←List.append_assoc];exact k3.append_right φ)⟩
theorem St.join {H:Heap} {Z:Zone} {B C:List SA} {t φ:List Cel} (h:St H Z B (t++φ)) (k:Sat Z C t):St H Z (B++C) φ:=by
 obtain ⟨σ,h1,h2⟩:=h
 exact ⟨σ++t,h1.append k,by rw [List.append_assoc];exact h2⟩
theorem St.rem {H:Heap} {Z:Zone} {A B:List SA} {x:SA} {φ:List Cel} (p:Rem A x B) (h:St H Z A φ):∃ s t,x.p Z s∧Sat Z B t∧St0 H Z (s++(t++φ)):=by
 obtain ⟨σ,h1,h2⟩:=h
 obtain ⟨s,t,k1,k2,k3⟩:=h1.rem p
 exact ⟨s,t,k1,k2,h2.perm (by rw [←List.append_assoc];exact k3.append_right φ)⟩
theorem St.put {H:Heap} {Z:Zone} {A B:List SA} {x:SA} {φ s t:List Cel} (p:Rem A x B) (h:x.p Z s) (k:Sat Z B t) (z:St0 H Z (s++(t++φ))):St H Z A φ:=by
 obtain ⟨σ,h1,h2⟩:=Sat.put p h k
 exact ⟨σ,h1,z.perm (by rw [←List.append_assoc];exact (h2.append_right φ).symm)⟩
theorem St.nil {H:Heap} {Z:Zone} {φ:List Cel} (h:St0 H Z φ):St H Z [] φ:=⟨[],.nil,h⟩
inductive Sub:List SA→List SA→Prop
 | nil:Sub [] []
 | keep {x A B} (h:Sub A B):Sub (x::A) (x::B)
 | drop {x A B} (h:Sub A B):Sub (x::A) B
theorem Sub.spl {A B:List SA} (h:Sub A B):∃ C,Spl A B C:=by
 induction h with
 | nil=>exact ⟨[],.nil⟩
 | keep _ ih=>obtain ⟨C,h⟩:=ih;exact ⟨C,.l h⟩
 | drop _ ih=>obtain ⟨C,h⟩:=ih;exact ⟨_,.r h⟩
theorem Sub.none:∀ (A:List SA),Sub A []
 | []=>.nil
 | _::A=>.drop (Sub.none A)
theorem Sub.refl:∀ (A:List SA),Sub A A
 | []=>.nil
 | _::A=>.keep (Sub.refl A)
def Has (Z:Zone) (A:List SA) (b:Nat) (o:AObj):Prop:=Z b=some o∨pt b o∈A
theorem Rem.of_mem {x:SA}:∀ {A:List SA},x∈A→∃ B,Rem A x B
 | y::A,h=>by
  cases h with
  | head=>exact ⟨A,.head⟩
  | tail _ h=>obtain ⟨B,k⟩:=Rem.of_mem h;exact ⟨y::B,.tail k⟩
theorem St.has {H:Heap} {Z:Zone} {A:List SA} {φ:List Cel} (h:St H Z A φ) {b:Nat} {o:AObj} (k:Has Z A b o):H.get b=some o:=by
 rcases k with k|k
 ·obtain ⟨σ,_,h2⟩:=h;exact h2.sub b o k
 ·obtain ⟨B,p⟩:=Rem.of_mem k
  obtain ⟨s,t,h1,h2,h3⟩:=h.rem p
  cases h1
  exact h3.own (b,o) (by simp)
abbrev Lo:=List (Nat×Value)
def lk:Lo→Nat→Option Value
 | [],_=>none
 | (s,v)::r,t=>bif Nat.beq s t then some v else lk r t
def Agr (env:Env) (L:Lo):Prop:=∀ t v,lk L t=some v→env.getD t undef=v
theorem Agr.nil (env:Env):Agr env []:=fun t v h=>by cases h
theorem Agr.put {env:Env} {L:Lo} (h:Agr env L) {d:Nat} (hd:d < env.size) (v:Value):Agr (env.setIfInBounds d v) ((d,v)::L):=by
 intro t w hw
 simp only [lk,cond_eq_ite,Nat.beq_eq] at hw
 split at hw
 ·rename_i e;cases hw;subst e
  simp [Array.getD_eq_getD_getElem?,Array.getElem?_setIfInBounds_self,hd]
 ·rename_i e
  rw [Array.getD_eq_getD_getElem?,Array.getElem?_setIfInBounds_ne e,←Array.getD_eq_getD_getElem?]
  exact h t w hw
theorem Agr.of {env:Env} {L L':Lo} (h:Agr env L) (k:∀ p∈L',lk L p.1=some p.2):Agr env L':=by
 intro t v hv
 have:∀ (L':Lo),lk L' t=some v→(t,v)∈L':=by
  intro L'
  induction L' with
  | nil=>intro h;cases h
  | cons p r ih =>
   obtain ⟨s,x⟩:=p
   intro h
   simp only [lk,cond_eq_ite,Nat.beq_eq] at h
   split at h
   ·rename_i e;cases h;subst e;simp
   ·simp [ih h]
 exact h t v (k _ (this L' hv))
def evL (L:Lo):Operand→Option Value
 | .tmp t=>lk L t
 | .const v=>if constOK v then some v else none
 | .global _=>none
 | .func f=>some (.func (.func f) #[] #[])
theorem Agr.ev {env:Env} {L:Lo} (h:Agr env L) {x:Operand} {v:Value} (hx:evL L x=some v):evOp env x=some v:=by
 cases x with
 | tmp t=>simp only [evL] at hx;simp only [evOp,h t v hx]
 | const c=>exact hx
 | global g=>exact hx
 | func f=>exact hx
def evsL (L:Lo):List Operand→Option (List Value)
 | []=>some []
 | x::r=>match evL L x,evsL L r with
  | some v,some vs=>some (v::vs)
  | _,_=>none
theorem Agr.evs {env:Env} {L:Lo} (h:Agr env L):∀ {l:List Operand} {vs:List Value},evsL L l=some vs→evs (evOp env) l=some vs
 | [],vs,hx=>by simpa [evsL,Go.Ev.evs] using hx
 | x::l,vs,hx=>by
  simp only [evsL] at hx
  split at hx
  ·rename_i v vs' h1 h2
   cases hx
   simp [Go.Ev.evs,h.ev h1,h.evs h2]
  ·cases hx
def evoL (L:Lo):Option Operand→Option (Option Value)
 | none=>some none
 | some x=>match evL L x with
  | some v=>some (some v)
  | none=>none
theorem Agr.evo {env:Env} {L:Lo} (h:Agr env L) {x:Option Operand} {v:Option Value} (hx:evoL L x=some v):evo (evOp env) x=some v:=by
 cases x with
 | none=>simpa [evoL,Go.Ev.evo] using hx
 | some x =>
  simp only [evoL] at hx
  split at hx
  ·rename_i u h1;cases hx;simp [Go.Ev.evo,h.ev h1]
  ·cases hx
def evpsL (L:Lo):List (Nat×Operand)→Option (List (Nat×Value))
 | []=>some []
 | (i,x)::r=>match evL L x,evpsL L r with
  | some v,some vs=>some ((i,v)::vs)
  | _,_=>none
theorem Agr.evps {env:Env} {L:Lo} (h:Agr env L):∀ {l:List (Nat×Operand)} {vs:List (Nat×Value)},evpsL L l=some vs→evps (evOp env) l=some vs
 | [],vs,hx=>by simpa [evpsL,Go.Ev.evps] using hx
 | (i,x)::l,vs,hx=>by
  simp only [evpsL] at hx
  split at hx
  ·rename_i v vs' h1 h2
   cases hx
   simp [Go.Ev.evps,h.ev h1,h.evps h2]
  ·cases hx
structure Mach where
 T:Tab
 F:FTab
 O:Ora
noncomputable def Mach.C (M:Mach) (n:Nat):CallSem:=evalO M.T M.F M.O n
theorem Mach.le (M:Mach) {n m:Nat} (h:n≤m):CLe (M.C n) (M.C m):=evalO_le _ _ _ h
def Cz (M:Mach) (fv:Value) (args:List Value) (Z:Zone) (A:List SA) (Q:Value→Zone→List SA→Prop):Prop :=
 ∀ H φ,St H Z A φ→∃ n v H' Z' A',M.C n fv args H=some (v,H')∧Ext Z Z'∧St H' Z' A' φ∧Q v Z' A'
theorem Cz.mono {M:Mach} {fv:Value} {args:List Value} {Z:Zone} {A:List SA} {Q R:Value→Zone→List SA→Prop} (h:Cz M fv args Z A Q) (k:∀ v Z' A',Ext Z Z'→Q v Z' A'→R v Z' A'):Cz M fv args Z A R :=
 fun H φ s=>let ⟨n,v,H',Z',A',h1,h2,h3,h4⟩:=h H φ s;⟨n,v,H',Z',A',h1,h2,h3,k v Z' A' h2 h4⟩
abbrev PQ:=AExit→Lo→Zone→List SA→Prop
section
variable (M:Mach) (fn:FuncId) (rd:Option Nat) (n:Nat)
def Wc (c:Code) (L:Lo) (Z:Zone) (A:List SA) (Q:PQ):Prop :=
 ∀ env H φ,env.size=n→Agr env L→St H Z A φ→∃ m e env' H' L' Z' A',evalCode M.T (M.C m) m fn rd c env H=some (e,env',H')∧env'.size=n∧Agr env' L'∧Ext Z Z'∧St H' Z' A' φ∧Q e L' Z' A'
structure Pn where
 i:Nat
 op:Op
 L:Lo
 v:Value
structure Ro where
 i:Nat
 m:Nat
 o:Oper
def Rd (op:Op) (L:Lo) (Z:Zone) (A:List SA) (v:Value):Prop:=∀ env H φ,Agr env L→St H Z A φ→aval M.T (evOp env) H op=some v
def RoOK (ops:Array Oper) (ms:List Nat) (r:Ro):Prop:=ops[r.i]?=some r.o∧ms.getD r.i 0=r.m
def PnOK (ops:Array Oper) (p:Pn) (q:Pend):Prop:=q.i=p.i∧q.v=p.v∧Agr q.env p.L∧∃ o,ops[p.i]?=some o∧o.op=p.op
inductive PnR (T:Tab) (ops:Array Oper):List Pn→List Pend→Prop
 | nil:PnR T ops [] []
 | cons {p q ps qs} (h:PnOK ops p q) (t:PnR T ops ps qs):PnR T ops (p::ps) (q::qs)
 | skip {q ps qs} (h:∀ H,again T ops H q=true) (t:PnR T ops ps qs):PnR T ops ps (q::qs)
def Wr (ops:Array Oper) (dr:Bool) (pl:List Ro) (ps:List Pn) (L:Lo) (Z:Zone) (A:List SA) (Q:PQ):Prop :=
 ∀ ms,(∀ r∈pl,RoOK ops ms r)→∀ qs,PnR M.T ops ps qs →
 ∀ env H φ,env.size=n→Agr env L→St H Z A φ→∃ m env' H' L' Z' A',(if dr then evalDraw M.T (M.C m) ops ms (pl.map (·.i)) env H qs else evalSeq M.T (M.C m) ops (pl.map (·.i)) env H)=some (env',H')∧env'.size=n∧Agr env' L'∧Ext Z Z'∧St H' Z' A' φ∧Q .normal L' Z' A'
inductive KI where
 | c (c:Code)
 | blk (id:Nat)
 | inv (G:Lo→Zone→List SA→Prop)
 | r (ops:Array Oper) (dr:Bool) (pl:List Ro) (ps:List Pn)
def post (Q:PQ):List KI→PQ
 | [],e,L,Z,A=>Q e L Z A
 | .c c::k,e,L,Z,A=>match e with
  | .normal=>Wc M fn rd n c L Z A (post Q k)
  | e=>post Q k e L Z A
 | .blk id::k,e,L,Z,A=>match e with
  | .exit id'=>if id'=id then post Q k .normal L Z A else post Q k (.exit id') L Z A
  | e=>post Q k e L Z A
 | .inv G::k,e,L,Z,A=>match e with
  | .normal=>G L Z A
  | e=>post Q k e L Z A
 | .r ops dr pl ps::k,e,L,Z,A=>match e with
  | .normal=>Wr M n ops dr pl ps L Z A (post Q k)
  | e=>post Q k e L Z A
def Wk (Q:PQ) (k:List KI) (L:Lo) (Z:Zone) (A:List SA):Prop:=post M fn rd n Q k .normal L Z A
end
end Go.Ev
namespace Go.Ev
section
variable {M:Mach} {fn:FuncId} {rd:Option Nat} {n:Nat} {Q:PQ} {k:List KI} {L:Lo} {Z:Zone} {A:List SA}
theorem Wc.mono {c:Code} {Q R:PQ} (h:Wc M fn rd n c L Z A Q) (g:∀ e L' Z' A',Ext Z Z'→Q e L' Z' A'→R e L' Z' A'):Wc M fn rd n c L Z A R :=
 fun env H φ h1 h2 h3=>let ⟨m,e,env',H',L',Z',A',k1,k2,k3,k4,k5,k6⟩:=h env H φ h1 h2 h3;⟨m,e,env',H',L',Z',A',k1,k2,k3,k4,k5,g e L' Z' A' k4 k6⟩
theorem Wr.mono {ops:Array Oper} {dr:Bool} {pl:List Ro} {ps:List Pn} {Q R:PQ} (h:Wr M n ops dr pl ps L Z A Q) (g:∀ L' Z' A',Ext Z Z'→Q .normal L' Z' A'→R .normal L' Z' A'):Wr M n ops dr pl ps L Z A R :=
 fun ms hm qs hq env H φ h1 h2 h3=>let ⟨m,env',H',L',Z',A',k1,k2,k3,k4,k5,k6⟩:=h ms hm qs hq env H φ h1 h2 h3;⟨m,env',H',L',Z',A',k1,k2,k3,k4,k5,g L' Z' A' k4 k6⟩
theorem Wk.skip (h:Wk M fn rd n Q k L Z A):Wk M fn rd n Q (.c .skip::k) L Z A :=
 fun env H φ h1 h2 h3=>⟨0,.normal,env,H,L,Z,A,rfl,h1,h2,Ext.refl _,h3,h⟩
theorem Wk.seq {a b:Code} (h:Wk M fn rd n Q (.c a::.c b::k) L Z A):Wk M fn rd n Q (.c (.seq a b)::k) L Z A:=by
 intro env H φ h1 h2 h3
 obtain ⟨m,e,env1,H1,L1,Z1,A1,k1,k2,k3,k4,k5,k6⟩:=h env H φ h1 h2 h3
 cases e with
 | normal =>
  obtain ⟨m2,e2,env2,H2,L2,Z2,A2,j1,j2,j3,j4,j5,j6⟩:=k6 env1 H1 φ k2 k3 k5
  refine ⟨max m m2,e2,env2,H2,L2,Z2,A2,?_,j2,j3,k4.trans j4,j5,j6⟩
  simp only [evalCode]
  rw [evalCode_mono (M.le (Nat.le_max_left m m2)) (Nat.le_max_left m m2) k1]
  exact evalCode_mono (M.le (Nat.le_max_right m m2)) (Nat.le_max_right m m2) j1
 | ret=>exact ⟨m,.ret,env1,H1,L1,Z1,A1,by simp only [evalCode,k1],k2,k3,k4,k5,k6⟩
 | exit id=>exact ⟨m,.exit id,env1,H1,L1,Z1,A1,by simp only [evalCode,k1],k2,k3,k4,k5,k6⟩
theorem Wk.condT {c:Operand} {x y:Code} (hc:evL L c=some (.bool true)) (h:Wk M fn rd n Q (.c x::k) L Z A):Wk M fn rd n Q (.c (.cond c x y)::k) L Z A:=by
 intro env H φ h1 h2 h3
 obtain ⟨m,e,env1,H1,L1,Z1,A1,k1,k2⟩:=h env H φ h1 h2 h3
 exact ⟨m,e,env1,H1,L1,Z1,A1,by simp only [evalCode,h2.ev hc];exact k1,k2⟩
theorem Wk.condF {c:Operand} {x y:Code} (hc:evL L c=some (.bool false)) (h:Wk M fn rd n Q (.c y::k) L Z A):Wk M fn rd n Q (.c (.cond c x y)::k) L Z A:=by
 intro env H φ h1 h2 h3
 obtain ⟨m,e,env1,H1,L1,Z1,A1,k1,k2⟩:=h env H φ h1 h2 h3
 exact ⟨m,e,env1,H1,L1,Z1,A1,by simp only [evalCode,h2.ev hc];exact k1,k2⟩
theorem Wk.cond {c:Operand} {x y:Code} {b:Bool} (hc:evL L c=some (.bool b)) (ht:b=true→Wk M fn rd n Q (.c x::k) L Z A) (hf:b=false→Wk M fn rd n Q (.c y::k) L Z A):Wk M fn rd n Q (.c (.cond c x y)::k) L Z A:=by
 cases b with
 | true=>exact Wk.condT hc (ht rfl)
 | false=>exact Wk.condF hc (hf rfl)
theorem Wk.block {id:Nat} {c:Code} (h:Wk M fn rd n Q (.c c::.blk id::k) L Z A):Wk M fn rd n Q (.c (.block id c)::k) L Z A:=by
 intro env H φ h1 h2 h3
 obtain ⟨m,e,env1,H1,L1,Z1,A1,k1,k2,k3,k4,k5,k6⟩:=h env H φ h1 h2 h3
 cases e with
 | normal=>exact ⟨m,.normal,env1,H1,L1,Z1,A1,by simp only [evalCode,k1],k2,k3,k4,k5,k6⟩
 | ret=>exact ⟨m,.ret,env1,H1,L1,Z1,A1,by simp only [evalCode,k1],k2,k3,k4,k5,k6⟩
 | exit id' =>
  simp only [post] at k6
  by_cases hid:id'=id
  ·rw [if_pos hid] at k6
   exact ⟨m,.normal,env1,H1,L1,Z1,A1,by simp only [evalCode,k1,if_pos hid],k2,k3,k4,k5,k6⟩
  ·rw [if_neg hid] at k6
   exact ⟨m,.exit id',env1,H1,L1,Z1,A1,by simp only [evalCode,k1,if_neg hid],k2,k3,k4,k5,k6⟩
theorem Wk.blk {id:Nat} (h:Wk M fn rd n Q k L Z A):Wk M fn rd n Q (.blk id::k) L Z A:=h
def unw (id:Nat):List KI→Option (List KI)
 | []=>none
 | .blk id'::k=>bif Nat.beq id id' then some k else unw id k
 | _::k=>unw id k
theorem post_exit {id:Nat}:∀ {k k':List KI},unw id k=some k'→∀ {L Z A},post M fn rd n Q k' .normal L Z A→post M fn rd n Q k (.exit id) L Z A
 | .blk id'::k,k',h,L,Z,A,g=>by
  simp only [unw,cond_eq_ite,Nat.beq_eq] at h
  simp only [post]
  by_cases e:id=id'
  ·rw [if_pos e] at h ⊢;cases h;exact g
  ·rw [if_neg e] at h ⊢;exact post_exit h g
 | .c c::k,k',h,L,Z,A,g=>post_exit (k:=k) h g
 | .inv G::k,k',h,L,Z,A,g=>post_exit (k:=k) h g
 | .r ..::k,k',h,L,Z,A,g=>post_exit (k:=k) h g
theorem post_ret:∀ {k:List KI} {L Z A},Q .ret L Z A→post M fn rd n Q k .ret L Z A
 | [],L,Z,A,g=>g
 | .blk id'::k,L,Z,A,g=>post_ret (k:=k) g
 | .c c::k,L,Z,A,g=>post_ret (k:=k) g
 | .inv G::k,L,Z,A,g=>post_ret (k:=k) g
 | .r ..::k,L,Z,A,g=>post_ret (k:=k) g
theorem Wk.exit {id:Nat} {k':List KI} (hu:unw id k=some k') (h:Wk M fn rd n Q k' L Z A):Wk M fn rd n Q (.c (.exit id)::k) L Z A :=
 fun env H φ h1 h2 h3=>⟨0,.exit id,env,H,L,Z,A,rfl,h1,h2,Ext.refl _,h3,post_exit hu h⟩
theorem Wk.ret (h:Q .ret L Z A):Wk M fn rd n Q (.c .ret::k) L Z A :=
 fun env H φ h1 h2 h3=>⟨0,.ret,env,H,L,Z,A,rfl,h1,h2,Ext.refl _,h3,post_ret h⟩
theorem Wk.done (h:Q .normal L Z A):Wk M fn rd n Q [] L Z A:=h
theorem Wk.inv {G:Lo→Zone→List SA→Prop} (h:G L Z A):Wk M fn rd n Q (.inv G::k) L Z A:=h
theorem Wk.loop (I:Nat→Lo→Zone→List SA→Prop) (m0:Nat) (h0:I m0 L Z A) {body:Code}
  (step:∀ m L' Z' A',Ext Z Z'→I m L' Z' A'→Wk M fn rd n Q (.c body::.inv (fun L'' Z'' A''=>∃ m',m' < m∧I m' L'' Z'' A'')::k) L' Z' A'):Wk M fn rd n Q (.c (.loop body)::k) L Z A:=by
 have main:∀ m L' Z' A',Ext Z Z'→I m L' Z' A'→∀ env H φ,env.size=n→Agr env L'→St H Z' A' φ →
   ∃ f e env' H' L'' Z'' A'',loopN (evalCode M.T (M.C f) f fn rd body) f env H=some (e,env',H')∧env'.size=n∧Agr env' L''∧Ext Z' Z''∧St H' Z'' A'' φ∧post M fn rd n Q k e L'' Z'' A'':=by
  intro m
  induction m using Nat.strongRecOn with
  | _ m ih =>
   intro L' Z' A' hz hI env H φ h1 h2 h3
   obtain ⟨f,e,env1,H1,L1,Z1,A1,k1,k2,k3,k4,k5,k6⟩:=step m L' Z' A' hz hI env H φ h1 h2 h3
   cases e with
   | normal =>
    obtain ⟨m',hm,hI'⟩:=k6
    obtain ⟨f2,e2,env2,H2,L2,Z2,A2,j1,j2,j3,j4,j5,j6⟩:=ih m' hm L1 Z1 A1 (hz.trans k4) hI' env1 H1 φ k2 k3 k5
    refine ⟨max f f2+1,e2,env2,H2,L2,Z2,A2,?_,j2,j3,k4.trans j4,j5,j6⟩
    have hf:f≤max f f2+1:=by omega
    have hf2:f2≤max f f2+1:=by omega
    simp only [loopN]
    rw [evalCode_mono (M.le hf) hf k1]
    exact loopN_mono (fun _ _ _ q=>evalCode_mono (M.le hf2) hf2 q) (by omega) j1
   | ret =>
    refine ⟨f+1,.ret,env1,H1,L1,Z1,A1,?_,k2,k3,k4,k5,k6⟩
    simp only [loopN]
    rw [evalCode_mono (M.le (Nat.le_succ f)) (Nat.le_succ f) k1]
   | exit id =>
    refine ⟨f+1,.exit id,env1,H1,L1,Z1,A1,?_,k2,k3,k4,k5,k6⟩
    simp only [loopN]
    rw [evalCode_mono (M.le (Nat.le_succ f)) (Nat.le_succ f) k1]
 intro env H φ h1 h2 h3
 obtain ⟨f,e,env',H',L',Z',A',k1,k2⟩:=main m0 L Z A (Ext.refl _) h0 env H φ h1 h2 h3
 exact ⟨f,e,env',H',L',Z',A',k1,k2⟩
theorem Wk.cut (G:Lo→Zone→List SA→Prop) {c:Code} (h:Wk M fn rd n Q (.c c::.inv G::k) L Z A) (g:∀ L' Z' A',Ext Z Z'→G L' Z' A'→Wk M fn rd n Q k L' Z' A'):Wk M fn rd n Q (.c c::k) L Z A:=by
 refine Wc.mono h fun e L' Z' A' hz hq=>?_
 cases e with
 | normal=>exact g L' Z' A' hz hq
 | ret=>exact hq
 | exit id=>exact hq
theorem Wk.turn {c:Code} (h:∀ env H φ,Agr env L→St H Z A φ→∃ L' Z' A',Agr env L'∧Ext Z Z'∧St H Z' A' φ∧Wk M fn rd n Q (.c c::k) L' Z' A'):Wk M fn rd n Q (.c c::k) L Z A:=by
 intro env H φ h1 h2 h3
 obtain ⟨L',Z',A',k1,k2,k3,k4⟩:=h env H φ h2 h3
 obtain ⟨m,e,env1,H1,L1,Z1,A1,j1,j2,j3,j4,j5,j6⟩:=k4 env H φ h1 k1 k3
 exact ⟨m,e,env1,H1,L1,Z1,A1,j1,j2,j3,k2.trans j4,j5,j6⟩
theorem Wk.turnr {ops:Array Oper} {dr:Bool} {pl:List Ro} {ps:List Pn} (h:∀ env H φ,Agr env L→St H Z A φ→∃ L' Z' A',Agr env L'∧Ext Z Z'∧St H Z' A' φ∧Wk M fn rd n Q (.r ops dr pl ps::k) L' Z' A'):Wk M fn rd n Q (.r ops dr pl ps::k) L Z A:=by
 intro ms hm qs hq env H φ h1 h2 h3
 obtain ⟨L',Z',A',k1,k2,k3,k4⟩:=h env H φ h2 h3
 obtain ⟨m,env1,H1,L1,Z1,A1,j1,j2,j3,j4,j5,j6⟩:=k4 ms hm qs hq env H φ h1 k1 k3
 exact ⟨m,env1,H1,L1,Z1,A1,j1,j2,j3,k2.trans j4,j5,j6⟩
theorem St.sub {H:Heap} {φ:List Cel} {B:List SA} (p:Sub A B) (h:St H Z A φ):St H Z B φ:=by
 obtain ⟨C,q⟩:=p.spl
 obtain ⟨t,_,h2⟩:=h.split q
 obtain ⟨σ,h3,h4⟩:=h2
 refine ⟨σ,h3,h4.wf,h4.sub,fun p hp=>h4.own p ?_,fun p hp=>h4.sep p ?_,?_⟩
 ·simp only [List.mem_append] at hp ⊢;rcases hp with hp|hp
  ·exact .inl hp
  ·exact .inr (.inr hp)
 ·simp only [List.mem_append] at hp ⊢;rcases hp with hp|hp
  ·exact .inl hp
  ·exact .inr (.inr hp)
 ·refine h4.nodup.sublist (List.Sublist.map _ ?_)
  exact (List.Sublist.refl σ).append (List.sublist_append_right t φ)
theorem Wk.keep {c:Code} (L':Lo) {B:List SA} (hl:∀ p∈L',lk L p.1=some p.2) (hs:Sub A B) (h:Wk M fn rd n Q (.c c::k) L' Z B):Wk M fn rd n Q (.c c::k) L Z A :=
 Wk.turn fun env H φ h1 h2=>⟨L',Z,B,h1.of hl,Ext.refl _,h2.sub hs,h⟩
theorem Wk.drop {c:Code} {B:List SA} (hs:Sub A B) (h:Wk M fn rd n Q (.c c::k) L Z B):Wk M fn rd n Q (.c c::k) L Z A :=
 Wk.turn fun env H φ h1 h2=>⟨L,Z,B,h1,Ext.refl _,h2.sub hs,h⟩
theorem Wk.dropr {ops:Array Oper} {dr:Bool} {pl:List Ro} {ps:List Pn} {B:List SA} (hs:Sub A B) (h:Wk M fn rd n Q (.r ops dr pl ps::k) L Z B):Wk M fn rd n Q (.r ops dr pl ps::k) L Z A :=
 Wk.turnr fun env H φ h1 h2=>⟨L,Z,B,h1,Ext.refl _,h2.sub hs,h⟩
theorem Agr.tell {env:Env} (h:Agr env L) {t:Nat} {v v':Value} (hv:lk L t=some v) (e:v=v'):Agr env ((t,v')::L):=by
 subst e
 intro s w hw
 simp only [lk,cond_eq_ite,Nat.beq_eq] at hw
 split at hw
 ·rename_i e;cases hw;subst e;exact h _ _ hv
 ·exact h s w hw
theorem Wk.tell {c:Code} (t:Nat) (v':Value) {v:Value} (hv:lk L t=some v) (e:v=v') (h:Wk M fn rd n Q (.c c::k) ((t,v')::L) Z A):Wk M fn rd n Q (.c c::k) L Z A :=
 Wk.turn fun env H φ h1 h2=>⟨_,Z,A,h1.tell hv e,Ext.refl _,h2,h⟩
theorem Wk.tellr {ops:Array Oper} {dr:Bool} {pl:List Ro} {ps:List Pn} (t:Nat) (v':Value) {v:Value} (hv:lk L t=some v) (e:v=v') (h:Wk M fn rd n Q (.r ops dr pl ps::k) ((t,v')::L) Z A):Wk M fn rd n Q (.r ops dr pl ps::k) L Z A :=
 Wk.turnr fun env H φ h1 h2=>⟨_,Z,A,h1.tell hv e,Ext.refl _,h2,h⟩
theorem Wk.caser {ops:Array Oper} {dr:Bool} {pl:List Ro} {ps:List Pn} (t:Nat) {b:Bool} (hv:lk L t=some (.bool b)) (ht:b=true→Wk M fn rd n Q (.r ops dr pl ps::k) ((t,.bool true)::L) Z A) (hf:b=false→Wk M fn rd n Q (.r ops dr pl ps::k) ((t,.bool false)::L) Z A):Wk M fn rd n Q (.r ops dr pl ps::k) L Z A:=by
 cases b with
 | true=>exact Wk.tellr t _ hv rfl (ht rfl)
 | false=>exact Wk.tellr t _ hv rfl (hf rfl)
theorem St.freeze {H:Heap} {φ:List Cel} {b:Nat} {o:AObj} {B:List SA} (p:Rem A (pt b o) B) (h:St H Z A φ):∃ Z',Ext Z Z'∧Z' b=some o∧St H Z' B φ:=by
 obtain ⟨s,t,h1,h2,h3⟩:=h.rem p
 cases h1
 obtain ⟨k1,k2⟩:=St0.freeze (b:=b) (o:=o) (σ:=t++φ) h3
 exact ⟨_,k1,by simp [Zone.add],t,h2.mono k1,k2⟩
theorem Wk.freeze {c:Code} {b:Nat} {o:AObj} {B:List SA} (p:Rem A (pt b o) B) (h:∀ Z',Ext Z Z'→Z' b=some o→Wk M fn rd n Q (.c c::k) L Z' B):Wk M fn rd n Q (.c c::k) L Z A :=
 Wk.turn fun env H φ h1 h2=>let ⟨Z',k1,k2,k3⟩:=h2.freeze p;⟨L,Z',B,h1,k1,k3,h Z' k1 k2⟩
theorem Wk.freezer {ops:Array Oper} {dr:Bool} {pl:List Ro} {ps:List Pn} {b:Nat} {o:AObj} {B:List SA} (p:Rem A (pt b o) B) (h:∀ Z',Ext Z Z'→Z' b=some o→Wk M fn rd n Q (.r ops dr pl ps::k) L Z' B):Wk M fn rd n Q (.r ops dr pl ps::k) L Z A :=
 Wk.turnr fun env H φ h1 h2=>let ⟨Z',k1,k2,k3⟩:=h2.freeze p;⟨L,Z',B,h1,k1,k3,h Z' k1 k2⟩
theorem St.alter {H:Heap} {φ:List Cel} {x:SA} {B C:List SA} (p:Rem A x B) (g:∀ s,x.p Z s→Sat Z C s) (h:St H Z A φ):St H Z (C++B) φ:=by
 obtain ⟨s,t,h1,h2,h3⟩:=h.rem p
 exact ⟨s++t,(g s h1).append h2,by rw [List.append_assoc];exact h3⟩
theorem Wk.alter {c:Code} {x:SA} {B C:List SA} (p:Rem A x B) (g:∀ s,x.p Z s→Sat Z C s) (h:Wk M fn rd n Q (.c c::k) L Z (C++B)):Wk M fn rd n Q (.c c::k) L Z A :=
 Wk.turn fun env H φ h1 h2=>⟨L,Z,C++B,h1,Ext.refl _,h2.alter p g,h⟩
theorem Wk.alterr {ops:Array Oper} {dr:Bool} {pl:List Ro} {ps:List Pn} {x:SA} {B C:List SA} (p:Rem A x B) (g:∀ s,x.p Z s→Sat Z C s) (h:Wk M fn rd n Q (.r ops dr pl ps::k) L Z (C++B)):Wk M fn rd n Q (.r ops dr pl ps::k) L Z A :=
 Wk.turnr fun env H φ h1 h2=>⟨L,Z,C++B,h1,Ext.refl _,h2.alter p g,h⟩
end
section
variable {M:Mach} {L:Lo} {Z:Zone} {A:List SA}
def Rs (M:Mach) (rs:List ResultVar) (L:Lo) (Z:Zone) (A:List SA) (vs:List Value):Prop:=∀ env H φ,Agr env L→St H Z A φ→aresults M.T env H rs=some vs
theorem Rs.nil:Rs M [] L Z A []:=fun _ _ _ _ _=>rfl
theorem Rs.tmp {t:Tmp} {rs:List ResultVar} {v:Value} {vs:List Value} (h:lk L t=some v) (k:Rs M rs L Z A vs):Rs M (.tmp t::rs) L Z A (v::vs):=by
 intro env H φ h1 h2
 simp [aresults,aresult,h1 t v h,k env H φ h1 h2]
theorem Rs.cell {a:Tmp} {ty:TypeId} {i:TI} {b off g:Nat} {xs cs:List Value} {wr:Bool} {rs:List ResultVar} {v:Value} {vs:List Value} (h:lk L a=some (.pointer (some ⟨b,off,none⟩))) (hi:M.T ty=some i) (hb:Has Z A b (.cells xs wr g))
  (hg:getCells xs off (if isAggD i.d then i.size else 1)=some cs) (ho:ofCells i cs=some v) (k:Rs M rs L Z A vs):Rs M (.cell a ty::rs) L Z A (v::vs):=by
 intro env H φ h1 h2
 simp only [aresults,aresult,hi,h1 a _ h,Heap.read,h2.has hb,hg,Option.bind_eq_bind,Option.bind_some,ho,k env H φ h1 h2]
def enumL:Nat→List Value→Lo
 | _,[]=>[]
 | i,v::r=>(i,v)::enumL (i+1) r
theorem lk_enumL:∀ (l:List Value) (i t:Nat) (v:Value),lk (enumL i l) t=some v→i≤t∧l[t - i]?=some v
 | [],i,t,v,h=>by cases h
 | x::l,i,t,v,h=>by
  simp only [enumL,lk,cond_eq_ite,Nat.beq_eq] at h
  split at h
  ·rename_i e;cases h;subst e;simp
  ·have:=lk_enumL l (i+1) t v h
   refine ⟨by omega,?_⟩
   rw [show t - i=(t - (i+1))+1 by omega]
   simpa using this.2
def Qf (M:Mach) (rs:List ResultVar) (Q:Value→Zone→List SA→Prop):PQ:=fun e L Z A=>match e with
 | .exit _=>False
 | _=>∃ vs,Rs M rs L Z A vs∧∃ A',Sub A A'∧Q (outOf vs) Z A'
theorem Cz.enter {g:FuncId} {x y:Array Value} {args all:List Value} {Q:Value→Zone→List SA→Prop} {code:Code} {rs:List ResultVar} {nt:Nat} (hF:M.F g all.length=some ⟨code,rs,nt⟩) (hO:M.O g=none) (ha:x.toList++args++y.toList=all)
  (h:Wk M g none (all.length+(nt - all.length)) (Qf M rs Q) [.c code] (enumL 0 all) Z A):Cz M (.func (.func g) x y) args Z A Q:=by
 intro H φ st
 have hs:(all.toArray++Array.replicate (nt - all.length) undef).size=all.length+(nt - all.length):=by simp
 have hA:Agr (all.toArray++Array.replicate (nt - all.length) undef) (enumL 0 all):=by
  intro t v hv
  have:=(lk_enumL all 0 t v hv).2
  simp only [Nat.sub_zero] at this
  have hlt:t < all.length:=by
   rcases Nat.lt_or_ge t all.length with h|h
   ·exact h
   ·rw [List.getElem?_eq_none h] at this;cases this
  simp [Array.getD_eq_getD_getElem?,Array.getElem?_append,hlt]
  rw [List.getElem?_eq_getElem hlt] at this
  exact Option.some.inj this
 obtain ⟨m,e,env',H',L',Z',A',k1,k2,k3,k4,k5,k6⟩:=h _ H φ hs hA st
 have fin:∀ vs,aresults M.T env' H' rs=some vs→(e=.normal∨e=.ret)→M.C (m+1) (.func (.func g) x y) args H=some (outOf vs,H'):=by
  intro vs hvs he
  have:callFn M.T M.F (M.C m) m g all H=some (outOf vs,H'):=by
   simp only [callFn,hF,k1]
   rcases he with rfl|rfl<;>simp [hvs]
  simp only [Mach.C,evalO,hO]
  rw [ha]
  exact this
 cases e with
 | exit id=>exact k6.elim
 | normal =>
  obtain ⟨vs,j1,A2,j2,j3⟩:=k6
  exact ⟨m+1,_,H',Z',A2,fin vs (j1 env' H' φ k3 k5) (.inl rfl),k4,k5.sub j2,j3⟩
 | ret =>
  obtain ⟨vs,j1,A2,j2,j3⟩:=k6
  exact ⟨m+1,_,H',Z',A2,fin vs (j1 env' H' φ k3 k5) (.inr rfl),k4,k5.sub j2,j3⟩
theorem Cz.ora {g:FuncId} {b:Bool} (h:M.O g=some b):Cz M (.func (.func g) #[] #[]) [] Z A (fun v Z' A'=>v=.bool b∧Z'=Z∧A'=A) :=
 fun H φ st=>⟨1,.bool b,H,Z,A,by simp [Mach.C,evalO,h],Ext.refl _,st,rfl,rfl,rfl⟩
end
end Go.Ev
namespace Go.Ev
theorem of_blt {a b:Nat} (h:Nat.blt a b=true):a < b:=by simp [Nat.blt] at h;omega
def putL:Option Nat→Value→Lo→Lo
 | some d,v,L=>(d,v)::L
 | none,_,L=>L
def dstB (n:Nat):Option Nat→Bool
 | some d=>Nat.blt d n
 | none=>true
section
variable {M:Mach} {fn:FuncId} {rd:Option Nat} {n:Nat} {Q:PQ} {k:List KI} {L:Lo} {Z:Zone} {A:List SA}
def robs:List Oper→Nat→List Ro
 | [],_=>[]
 | o::r,i=>⟨i,0,o⟩::robs r (i+1)
theorem robs_i:∀ (l:List Oper) (i:Nat),(robs l i).map (·.i)=List.range' i l.length
 | [],i=>rfl
 | o::l,i=>by simp [robs,robs_i l,List.range'_succ]
theorem robs_ok:∀ (l:List Oper) (i:Nat) {ops:Array Oper},(∀ j,l[j]?=ops[i+j]?)→∀ r∈robs l i,RoOK ops [] r
 | [],i,ops,h,r,hr=>by cases hr
 | o::l,i,ops,h,r,hr=>by
  rcases List.mem_cons.1 hr with rfl|hr
  ·exact ⟨by have:=h 0;simpa using this.symm,rfl⟩
  ·exact robs_ok l (i+1) (fun j=>by have:=h (j+1);rw [show i+1+j=i+(j+1) by omega];simpa using this) r hr
theorem Wk.seqr {id:Nat} {ops:Array Oper} (hp:ops.toList.all (fun o=>plainOp o.op)=true) (h:Wk M fn rd n Q (.r ops false (robs ops.toList 0) []::k) L Z A):Wk M fn rd n Q (.c (.region id ops false)::k) L Z A:=by
 intro env H φ h1 h2 h3
 obtain ⟨m,env',H',L',Z',A',k1,k2⟩:=h [] (robs_ok _ 0 (fun j=>by simp)) [] .nil env H φ h1 h2 h3
 refine ⟨m,.normal,env',H',L',Z',A',?_,k2⟩
 simp only [Bool.false_eq_true,if_false,robs_i] at k1
 simp only [evalCode,evalRegion,Bool.false_eq_true,if_false]
 rw [←Array.all_toList,if_pos hp,List.range_eq_range']
 simp only [Array.length_toList] at k1
 rw [k1];rfl
def nthL:List Oper→Nat→Option Oper
 | [],_=>none
 | o::_,0=>some o
 | _::r,i+1=>nthL r i
theorem nthL_eq:∀ (l:List Oper) (i:Nat),nthL l i=l[i]?
 | [],i=>by simp [nthL]
 | o::l,0=>rfl
 | o::l,i+1=>by simp [nthL,nthL_eq l]
def rosOf (ops:List Oper) (ms:List Nat):List Nat→Option (List Ro)
 | []=>some []
 | i::l=>match nthL ops i,rosOf ops ms l with
  | some o,some r=>some (⟨i,ms.getD i 0,o⟩::r)
  | _,_=>none
theorem rosOf_ok {ops:Array Oper} {ms:List Nat}:∀ {l:List Nat} {pl:List Ro},rosOf ops.toList ms l=some pl→(∀ r∈pl,RoOK ops ms r)∧pl.map (·.i)=l
 | [],pl,h=>by simp only [rosOf,Option.some.injEq] at h;subst h;exact ⟨fun r hr=>(by cases hr),rfl⟩
 | i::l,pl,h=>by
  simp only [rosOf] at h
  split at h
  ·rename_i o r ho hr
   cases h
   obtain ⟨h1,h2⟩:=rosOf_ok hr
   refine ⟨fun q hq=>?_,by simp [h2]⟩
   rcases List.mem_cons.1 hq with rfl|hq
   ·rw [nthL_eq] at ho;exact ⟨by simpa using ho,rfl⟩
   ·exact h1 q hq
  ·cases h
theorem Wk.drawr {id:Nat} {ops:Array Oper} {ms l:List Nat} {pl:List Ro} (e1:masks ops=ms) (e2:plan M.T ops ms=l)
  (hp:(planOK M.T ops ms l 0&&dstsOK n ops.toList&&namesOK ops ms&&ops.toList.all (fun o=>plainOp o.op))=true) (hpl:rosOf ops.toList ms l=some pl) (h:Wk M fn rd n Q (.r ops true pl []::k) L Z A):Wk M fn rd n Q (.c (.region id ops true)::k) L Z A:=by
 intro env H φ h1 h2 h3
 obtain ⟨q1,q2⟩:=rosOf_ok hpl
 obtain ⟨m,env',H',L',Z',A',k1,k2⟩:=h ms q1 [] .nil env H φ h1 h2 h3
 refine ⟨m,.normal,env',H',L',Z',A',?_,k2⟩
 simp only [if_true,q2] at k1
 rw [Array.all_toList] at hp
 simp only [evalCode,evalRegion,if_true,e1,e2,h1,hp,k1]
 rfl
theorem Wk.rnil {ops:Array Oper} {dr:Bool} {ps:List Pn} (h:Wk M fn rd n Q k L Z A):Wk M fn rd n Q (.r ops dr [] ps::k) L Z A:=by
 intro ms hm qs hq env H φ h1 h2 h3
 refine ⟨0,env,H,L,Z,A,?_,h1,h2,Ext.refl _,h3,h⟩
 cases dr<;>rfl
def wantL (ops:Array Oper) (L:Lo):Option (Nat×Bool)→Option Bool
 | none=>some true
 | some (g,w)=>match nthL ops.toList g with
  | some o=>match o.dst with
   | some d=>match lk L d with
    | some (.bool b)=>some (b==w)
    | _=>none
   | none=>none
  | none=>none
theorem wantL_eq {ops:Array Oper} {g:Option (Nat×Bool)} {b:Bool} (h:wantL ops L g=some b) {o:Oper} (ho:o.guard=g) {env:Env} (hA:Agr env L):Region.wanted o (yielded ops env)=b:=by
 unfold wantL at h
 unfold Region.wanted
 rw [ho]
 cases g with
 | none=>simpa using h
 | some p =>
  obtain ⟨g,w⟩:=p
  simp only at h ⊢
  split at h
  ·rename_i o' ho'
   split at h
   ·rename_i d hd
    split at h
    ·rename_i c hc
     cases h
     rw [nthL_eq] at ho'
     have e:env.getD d undef=.bool c:=hA d _ hc
     have hlt:d < env.size:=by
      rcases Nat.lt_or_ge d env.size with q|q
      ·exact q
      ·rw [Array.getD_eq_getD_getElem?,Array.getElem?_eq_none q] at e;cases e
     rw [Array.getD_eq_getD_getElem?,Array.getElem?_eq_getElem hlt] at e
     have ho2:ops[g]?=some o':=by simpa using ho'
     simp only [yielded,ho2,Option.bind_some,hd,Array.getElem?_eq_getElem hlt]
     simp only [Option.getD_some] at e
     rw [e]
     rfl
    ·cases h
   ·cases h
  ·cases h
def pnd (dr:Bool) (i:Nat) (op:Op) (L:Lo) (v:Value) (ps:List Pn):List Pn:=bif dr&&isRead op then ⟨i,op,L,v⟩::ps else ps
def keepP (m:Nat) (ps:List Pn):List Pn:=ps.filter fun p=>!m.testBit p.i
theorem PnOK.filter {ops:Array Oper} {m:Nat} {ps:List Pn} {qs:List Pend} (h:PnR M.T ops ps qs):PnR M.T ops (keepP m ps) (qs.filter fun p=>!m.testBit p.i):=by
 induction h with
 | nil=>exact .nil
 | cons h _ ih =>
  simp only [keepP,List.filter_cons,h.1]
  split
  ·exact .cons h ih
  ·exact ih
 | skip h _ ih =>
  simp only [List.filter_cons]
  split
  ·exact .skip h ih
  ·exact ih
def PnAll (M:Mach) (ps:List Pn) (Z:Zone) (A:List SA):Prop:=∀ p∈ps,Rd M p.op p.L Z A p.v∧veq p.v p.v=true
theorem PnAll.nil:PnAll M [] Z A:=fun p hp=>by cases hp
theorem PnAll.cons {p:Pn} {ps:List Pn} (h:Rd M p.op p.L Z A p.v) (hv:veq p.v p.v=true) (k:PnAll M ps Z A):PnAll M (p::ps) Z A:=fun q hq=>by
 rcases List.mem_cons.1 hq with rfl|hq
 ·exact ⟨h,hv⟩
 ·exact k q hq
theorem PnAll.again {ops:Array Oper} {ps:List Pn} {qs:List Pend} (h:PnR M.T ops ps qs) (k:PnAll M ps Z A) {H:Heap} {φ:List Cel} (st:St H Z A φ):qs.all (again M.T ops H)=true:=by
 induction h with
 | nil=>rfl
 | cons h _ ih =>
  rename_i p q _ _ _
  simp only [List.all_cons,Bool.and_eq_true]
  refine ⟨?_,ih fun r hr=>k r (by simp [hr])⟩
  obtain ⟨e1,e2,e3,o,e4,e5⟩:=h
  obtain ⟨k1,k2⟩:=k p (by simp)
  have:=k1 q.env H φ e3 st
  simp only [Go.Ev.again,e1,e4,e5,this,e2,k2]
 | skip h _ ih =>
  simp only [List.all_cons,Bool.and_eq_true]
  exact ⟨h H,ih k⟩
def Ef (M:Mach) (op:Op) (L:Lo) (Z:Zone) (A:List SA) (K:Value→Zone→List SA→Prop):Prop :=
 ∀ env H φ,Agr env L→St H Z A φ→∃ m v H' Z' A',aE M.T (M.C m) (evOp env) H op=some (v,H')∧Ext Z Z'∧St H' Z' A' φ∧K v Z' A'
section
variable {ops:Array Oper} {dr:Bool} {pl:List Ro} {ps:List Pn} {i m d:Nat} {op:Op} {ty:TypeId} {pos:String} {af:Array Edge} {g:Option (Nat×Bool)}
theorem Wk.v {v:Value} (hw:wantL ops L g=some true) (hk:okind M.T op=.V) (hd:Nat.blt d n=true) (h:Rd M op L Z A v)
  (c:Wk M fn rd n Q (.r ops dr pl (pnd dr i op L v ps)::k) ((d,v)::L) Z A):Wk M fn rd n Q (.r ops dr (⟨i,m,⟨some d,op,ty,pos,af,g⟩⟩::pl) ps::k) L Z A:=by
 intro ms hm qs hq env H φ h1 h2 h3
 have hdn:d < env.size:=by rw [h1];exact of_blt hd
 have ho:=(hm _ (List.mem_cons_self ..)).1
 simp only at ho
 have hv:=h env H φ h2 h3
 have hr:=wantL_eq hw (o:=⟨some d,op,ty,pos,af,g⟩) rfl h2
 cases dr with
 | false =>
  obtain ⟨f,env',H',L',Z',A',k1,k2⟩:=c ms (fun r hr=>hm r (by simp [hr])) qs hq (env.setIfInBounds d v) H φ (by simpa using h1) (h2.put hdn v) h3
  refine ⟨f,env',H',L',Z',A',?_,k2⟩
  simp only [Bool.false_eq_true,if_false] at k1 ⊢
  simp only [List.map_cons,evalSeq,ho,hr,if_true,astep,hk,hv,Option.map_some]
  exact k1
 | true =>
  have key:∀ qs',PnR M.T ops (pnd true i op L v ps) qs'→qs'=(if isRead op then ⟨i,env,v⟩::qs else qs)→∃ f env' H' L' Z' A',evalDraw M.T (M.C f) ops ms (List.map (·.i) (⟨i,m,⟨some d,op,ty,pos,af,g⟩⟩::pl)) env H qs=some (env',H')∧env'.size=n∧Agr env' L'∧Ext Z Z'∧St H' Z' A' φ∧post M fn rd n Q k .normal L' Z' A':=by
   intro qs' hq' e
   obtain ⟨f,env',H',L',Z',A',k1,k2⟩:=c ms (fun r hr=>hm r (by simp [hr])) qs' hq' (env.setIfInBounds d v) H φ (by simpa using h1) (h2.put hdn v) h3
   refine ⟨f,env',H',L',Z',A',?_,k2⟩
   simp only [if_true] at k1
   simp only [List.map_cons,evalDraw,ho,hr,if_true,hk,hv,←e]
   exact k1
  simp only [if_true]
  by_cases hrd:isRead op=true
  ·refine key _ ?_ rfl
   simp only [pnd,hrd,if_true,Bool.and_self,cond_true]
   exact .cons ⟨rfl,rfl,h2,_,ho,rfl⟩ hq
  ·refine key _ ?_ rfl
   simp only [pnd,hrd,Bool.and_false,cond_false]
   exact hq
theorem Wk.vp {v:Value} (hw:wantL ops L g=some true) (hk:okind M.T op=.V) (hd:Nat.blt d n=true) (h:∀ env H,Agr env L→aval M.T (evOp env) H op=some v) (hv:veq v v=true)
  (c:Wk M fn rd n Q (.r ops dr pl ps::k) ((d,v)::L) Z A):Wk M fn rd n Q (.r ops dr (⟨i,m,⟨some d,op,ty,pos,af,g⟩⟩::pl) ps::k) L Z A:=by
 intro ms hm qs hq env H φ h1 h2 h3
 have hdn:d < env.size:=by rw [h1];exact of_blt hd
 have ho:=(hm _ (List.mem_cons_self ..)).1
 simp only at ho
 have hev:=h env H h2
 have hr:=wantL_eq hw (o:=⟨some d,op,ty,pos,af,g⟩) rfl h2
 cases dr with
 | false =>
  obtain ⟨f,env',H',L',Z',A',k1,k2⟩:=c ms (fun r hr=>hm r (by simp [hr])) qs hq (env.setIfInBounds d v) H φ (by simpa using h1) (h2.put hdn v) h3
  refine ⟨f,env',H',L',Z',A',?_,k2⟩
  simp only [Bool.false_eq_true,if_false] at k1 ⊢
  simp only [List.map_cons,evalSeq,ho,hr,if_true,astep,hk,hev,Option.map_some]
  exact k1
 | true =>
  have hsk:∀ H,again M.T ops H ⟨i,env,v⟩=true:=fun H=>by simp only [again,ho,h env H h2,hv]
  have key:∀ qs',PnR M.T ops ps qs'→qs'=(if isRead op then ⟨i,env,v⟩::qs else qs)→∃ f env' H' L' Z' A',evalDraw M.T (M.C f) ops ms (List.map (·.i) (⟨i,m,⟨some d,op,ty,pos,af,g⟩⟩::pl)) env H qs=some (env',H')∧env'.size=n∧Agr env' L'∧Ext Z Z'∧St H' Z' A' φ∧post M fn rd n Q k .normal L' Z' A':=by
   intro qs' hq' e
   obtain ⟨f,env',H',L',Z',A',k1,k2⟩:=c ms (fun r hr=>hm r (by simp [hr])) qs' hq' (env.setIfInBounds d v) H φ (by simpa using h1) (h2.put hdn v) h3
   refine ⟨f,env',H',L',Z',A',?_,k2⟩
   simp only [if_true] at k1
   simp only [List.map_cons,evalDraw,ho,hr,if_true,hk,hev,←e]
   exact k1
  simp only [if_true]
  by_cases hrd:isRead op=true
  ·exact key _ (.skip hsk hq) (by simp [hrd])
  ·exact key _ hq (by simp [hrd])
theorem Wk.skipd (hw:wantL ops L g=some false) (hd:Nat.blt d n=true) (c:Wk M fn rd n Q (.r ops dr pl ps::k) ((d,undef)::L) Z A):Wk M fn rd n Q (.r ops dr (⟨i,m,⟨some d,op,ty,pos,af,g⟩⟩::pl) ps::k) L Z A:=by
 intro ms hm qs hq env H φ h1 h2 h3
 have hdn:d < env.size:=by rw [h1];exact of_blt hd
 have ho:=(hm _ (List.mem_cons_self ..)).1
 simp only at ho
 have hr:=wantL_eq hw (o:=⟨some d,op,ty,pos,af,g⟩) rfl h2
 obtain ⟨f,env',H',L',Z',A',k1,k2⟩:=c ms (fun r hr=>hm r (by simp [hr])) qs hq (env.setIfInBounds d undef) H φ (by simpa using h1) (h2.put hdn undef) h3
 refine ⟨f,env',H',L',Z',A',?_,k2⟩
 cases dr with
 | false =>
  simp only [Bool.false_eq_true,if_false] at k1 ⊢
  simp only [List.map_cons,evalSeq,ho,hr,Bool.false_eq_true,if_false]
  exact k1
 | true =>
  simp only [if_true] at k1 ⊢
  simp only [List.map_cons,evalDraw,ho,hr,Bool.false_eq_true,if_false]
  exact k1
theorem Wk.skip0 (hw:wantL ops L g=some false) (c:Wk M fn rd n Q (.r ops dr pl ps::k) L Z A):Wk M fn rd n Q (.r ops dr (⟨i,m,⟨none,op,ty,pos,af,g⟩⟩::pl) ps::k) L Z A:=by
 intro ms hm qs hq env H φ h1 h2 h3
 have ho:=(hm _ (List.mem_cons_self ..)).1
 simp only at ho
 have hr:=wantL_eq hw (o:=⟨none,op,ty,pos,af,g⟩) rfl h2
 obtain ⟨f,env',H',L',Z',A',k1,k2⟩:=c ms (fun r hr=>hm r (by simp [hr])) qs hq env H φ h1 h2 h3
 refine ⟨f,env',H',L',Z',A',?_,k2⟩
 cases dr with
 | false =>
  simp only [Bool.false_eq_true,if_false] at k1 ⊢
  simp only [List.map_cons,evalSeq,ho,hr,Bool.false_eq_true,if_false]
  exact k1
 | true =>
  simp only [if_true] at k1 ⊢
  simp only [List.map_cons,evalDraw,ho,hr,Bool.false_eq_true,if_false]
  exact k1
theorem St.push {H:Heap} {φ:List Cel} (h:St H Z A φ) (o:AObj):St (H.push o) Z (pt H.next o::A) φ:=by
 obtain ⟨σ,h1,h2⟩:=h
 exact ⟨(H.next,o)::σ,.cons (s:=[(H.next,o)]) rfl h1,h2.push o⟩
theorem Wk.a {o:AObj} {f:Nat→Value} (hw:wantL ops L g=some true) (hk:okind M.T op=.A) (hd:Nat.blt d n=true) (h:∀ env,Agr env L→aalloc M.T (evOp env) op=some (o,f))
  (c:∀ b,Wk M fn rd n Q (.r ops dr pl ps::k) ((d,f b)::L) Z (pt b o::A)):Wk M fn rd n Q (.r ops dr (⟨i,m,⟨some d,op,ty,pos,af,g⟩⟩::pl) ps::k) L Z A:=by
 intro ms hm qs hq env H φ h1 h2 h3
 have hdn:d < env.size:=by rw [h1];exact of_blt hd
 have ho:=(hm _ (List.mem_cons_self ..)).1
 simp only at ho
 have hr:=wantL_eq hw (o:=⟨some d,op,ty,pos,af,g⟩) rfl h2
 obtain ⟨f',env',H',L',Z',A',k1,k2⟩:=c H.next ms (fun r hr=>hm r (by simp [hr])) qs hq (env.setIfInBounds d (f H.next)) (H.push o) φ (by simpa using h1) (h2.put hdn _) (h3.push o)
 refine ⟨f',env',H',L',Z',A',?_,k2⟩
 cases dr with
 | false =>
  simp only [Bool.false_eq_true,if_false] at k1 ⊢
  simp only [List.map_cons,evalSeq,ho,hr,if_true,astep,hk,h env h2,Option.map_some]
  exact k1
 | true =>
  simp only [if_true] at k1 ⊢
  simp only [List.map_cons,evalDraw,ho,hr,if_true,hk,h env h2]
  exact k1
theorem Wk.eAll {dst:Option Nat} (hw:wantL ops L g=some true) (hk:okind M.T op=.E) (hd:dstB n dst=true)
  (c:Ef M op L Z A fun v Z' A'=>PnAll M (keepP m ps) Z' A'∧Wk M fn rd n Q (.r ops dr pl (keepP m ps)::k) (putL dst v L) Z' A'):Wk M fn rd n Q (.r ops dr (⟨i,m,⟨dst,op,ty,pos,af,g⟩⟩::pl) ps::k) L Z A:=by
 intro ms hm qs hq env H φ h1 h2 h3
 obtain ⟨ho,hmask⟩:=hm _ (List.mem_cons_self ..)
 simp only at ho hmask
 have hr:=wantL_eq hw (o:=⟨dst,op,ty,pos,af,g⟩) rfl h2
 obtain ⟨f1,v,H1,Z1,A1,j1,j2,j3,j4,j5⟩:=c env H φ h2 h3
 have hput:Agr (cput env dst v) (putL dst v L)∧(cput env dst v).size=n:=by
  cases dst with
  | none=>exact ⟨h2,h1⟩
  | some d =>
   have hdn:d < env.size:=by rw [h1];exact of_blt hd
   exact ⟨h2.put hdn v,by simpa [cput] using h1⟩
 have hq':=PnOK.filter (m:=m) hq
 obtain ⟨f2,env',H',L',Z',A',k1,k2,k3,k4,k5,k6⟩:=j5 ms (fun r hr=>hm r (by simp [hr])) _ hq' (cput env dst v) H1 φ hput.2 hput.1 j3
 refine ⟨max f1 f2,env',H',L',Z',A',?_,k2,k3,j2.trans k4,k5,k6⟩
 have c1:=M.le (Nat.le_max_left f1 f2)
 have c2:=M.le (Nat.le_max_right f1 f2)
 have j1':=aE_mono (T:=M.T) c1 j1
 cases dr with
 | false =>
  simp only [Bool.false_eq_true,if_false] at k1 ⊢
  simp only [List.map_cons,evalSeq,ho,hr,if_true,astep,hk,j1']
  exact evalSeq_mono c2 k1
 | true =>
  simp only [if_true] at k1 ⊢
  simp only [List.map_cons,evalDraw,ho,hr,if_true,hk,j1',hmask]
  rw [if_pos (PnAll.again hq' j4 j3)]
  exact evalDraw_mono c2 k1
theorem Wk.e (hw:wantL ops L g=some true) (hk:okind M.T op=.E) (hd:Nat.blt d n=true)
  (c:Ef M op L Z A fun v Z' A'=>PnAll M (keepP m ps) Z' A'∧Wk M fn rd n Q (.r ops dr pl (keepP m ps)::k) ((d,v)::L) Z' A'):Wk M fn rd n Q (.r ops dr (⟨i,m,⟨some d,op,ty,pos,af,g⟩⟩::pl) ps::k) L Z A :=
 Wk.eAll (dst:=some d) hw hk hd c
theorem Wk.e0 (hw:wantL ops L g=some true) (hk:okind M.T op=.E)
  (c:Ef M op L Z A fun v Z' A'=>PnAll M (keepP m ps) Z' A'∧Wk M fn rd n Q (.r ops dr pl (keepP m ps)::k) L Z' A'):Wk M fn rd n Q (.r ops dr (⟨i,m,⟨none,op,ty,pos,af,g⟩⟩::pl) ps::k) L Z A :=
 Wk.eAll (dst:=none) hw hk rfl c
theorem Ef.call {f:Operand} {args:Array Operand} {tys:Array TypeId} {fv:Value} {as:List Value} {A1 A2:List SA} {Q1:Value→Zone→List SA→Prop} {K:Value→Zone→List SA→Prop} (hf:evL L f=some fv) (ha:evsL L args.toList=some as) (p:Spl A A1 A2)
  (spec:Cz M fv as Z A1 Q1) (c:∀ v Z' A',Ext Z Z'→Q1 v Z' A'→K v Z' (A'++A2)):Ef M (.call ⟨.value f,args,tys⟩) L Z A K:=by
 intro env H φ h1 h2
 obtain ⟨t,k1,k2⟩:=h2.split p
 obtain ⟨m,v,H',Z',A',j1,j2,j3,j4⟩:=spec H _ k2
 exact ⟨m,v,H',Z',A'++A2,by simp only [aE,acall,h1.ev hf,h1.evs ha,Option.bind_eq_bind,Option.bind_some];exact j1,j2,j3.join (k1.mono j2),c v Z' A' j2 j4⟩
theorem Ef.store {t:TypeId} {a x:Operand} {b off gg:Nat} {v:Value} {de:TypeDesc} {sz by_:Nat} {z:List Value} {cm:Bool} {vs vs':List Value} {B:List SA} {K:Value→Zone→List SA→Prop} (hi:M.T t=some ⟨de,sz,by_,z,cm⟩) (ha:evL L a=some (.pointer (some ⟨b,off,none⟩))) (hx:evL L x=some v)
  (hs:Nat.beq v.cells.size sz=true) (hok:okCells v.cells.toList=true) (hu:Upd A (pt b (.cells vs true gg)) (pt b (.cells vs' true gg)) B) (hc:setCells vs off v.cells.toList=some vs') (c:K undef Z B):Ef M (.store t a x) L Z A K:=by
 intro env H φ h1 h2
 obtain ⟨C,p1,p2⟩:=hu.rem
 obtain ⟨s,u,k1,k2,k3⟩:=h2.rem p1
 cases k1
 have hg:=k3.own (b,.cells vs true gg) (by simp)
 refine ⟨0,undef,H.put b (some (.cells vs' true gg)),Z,B,?_,Ext.refl _,St.put p2 rfl k2 (St0.put k3),c⟩
 simp only [aE,aeff,hi,h1.ev ha,h1.ev hx,Option.bind_eq_bind,Option.bind_some]
 rw [if_pos ⟨by simpa using hs,hok⟩]
 simp only at hg
 simp [Heap.write,hg,hc]
end
end
end Go.Ev
namespace Go.Ev
def cellsL:Value→List Value
 | .agg cs=>cs.toList
 | v=>[v]
theorem cellsL_eq (v:Value):v.cells.toList=cellsL v:=by cases v<;>rfl
theorem cellsL_size (v:Value):v.cells.size=(cellsL v).length:=by rw [←cellsL_eq];simp
section
variable {M:Mach} {L:Lo} {Z:Zone} {A:List SA}
theorem Rd.pure {op:Op} {v:Value} (h:∀ env,Agr env L→apure M.T (evOp env) op=some v):Rd M op L Z A v:=fun env H φ h1 h2=>by simp only [aval,h env h1]
theorem Rd.bin {op:BinOp} {t yt:TypeId} {x y:Operand} {a b v:Value} (hx:evL L x=some a) (hy:evL L y=some b) (hr:abin M.T op t x y a b=some v):Rd M (.binOp op t x y yt) L Z A v :=
 .pure fun env h=>by simp only [apure,h.ev hx,h.ev hy,Option.bind_eq_bind,Option.bind_some,hr]
theorem Rd.add {t yt:TypeId} {x y:Operand} {a b:Int} (hx:evL L x=some (.int .i64 a)) (hy:evL L y=some (.int .i64 b)) (hr:-9223372036854775808≤a+b∧a+b≤9223372036854775807):Rd M (.binOp .add t x y yt) L Z A (.int .i64 (a+b)) :=
 .bin hx hy (by simp only [abin,intBin,IntWalk.i64_in _ hr];rfl)
theorem Rd.sub {t yt:TypeId} {x y:Operand} {a b:Int} (hx:evL L x=some (.int .i64 a)) (hy:evL L y=some (.int .i64 b)) (hr:-9223372036854775808≤a - b∧a - b≤9223372036854775807):Rd M (.binOp .sub t x y yt) L Z A (.int .i64 (a - b)) :=
 .bin hx hy (by simp only [abin,intBin,IntWalk.i64_in _ hr];rfl)
theorem Rd.mul {t yt:TypeId} {x y:Operand} {a b:Int} (hx:evL L x=some (.int .i64 a)) (hy:evL L y=some (.int .i64 b)) (hr:-9223372036854775808≤a*b∧a*b≤9223372036854775807):Rd M (.binOp .mul t x y yt) L Z A (.int .i64 (a*b)) :=
 .bin hx hy (by simp only [abin,intBin,IntWalk.i64_in _ hr];rfl)
theorem Rd.quo {t yt:TypeId} {x y:Operand} {a b:Int} (hx:evL L x=some (.int .i64 a)) (hy:evL L y=some (.int .i64 b)) (ha:0≤a) (ha':a≤9223372036854775807) (hb:1≤b):Rd M (.binOp .quo t x y yt) L Z A (.int .i64 (a / b)) :=
 .bin hx hy (by simp only [abin,intBin,if_neg (show ¬ b=0 by omega),IntWalk.i64_quo a b ⟨ha,ha',hb⟩];rfl)
theorem Rd.rem {t yt:TypeId} {x y:Operand} {a b:Int} (hx:evL L x=some (.int .i64 a)) (hy:evL L y=some (.int .i64 b)) (ha:0≤a) (hb:1≤b):Rd M (.binOp .rem t x y yt) L Z A (.int .i64 (a % b)) :=
 .bin hx hy (by simp only [abin,intBin,if_neg (show ¬ b=0 by omega),IntWalk.rem_in a b ha];rfl)
theorem Rd.conv {s d:TypeId} {x:Operand} {q k:IntKind} {i:TI} {sz by_:Nat} {z:List Value} {cm:Bool} {a a':Int} (hs:M.T s=some i) (hd:M.T d=some ⟨.int k,sz,by_,z,cm⟩) (hx:evL L x=some (.int q a)) (hw:k.wrap a=a'):Rd M (.convert s d x) L Z A (.int k a') :=
 .pure fun env h=>by simp only [apure,aconv,hs,hd,h.ev hx,Option.bind_eq_bind,Option.bind_some,hw]
theorem Rd.len {x:Operand} {t:TypeId} {e:TypeId} {sz by_:Nat} {z:List Value} {cm:Bool} {a:Option Addr} {m c:Nat} {ats:Array TypeId} {as:Array Operand} (hx:evL L x=some (.slice a m c)) (ha:as.toList=[x]) (ht:ats.toList=[t]) (hi:M.T t=some ⟨.slice e,sz,by_,z,cm⟩) :
  Rd M (.call ⟨.builtin .len,as,ats⟩) L Z A (.int .i64 m):=.pure fun env h=>by
 simp only [apure,ha,ht,pureBuiltin,hi,h.ev hx,Option.bind_eq_bind,Option.bind_some,goInt]
theorem Rd.lenStr {x:Operand} {t:TypeId} {sz by_:Nat} {z:List Value} {cm:Bool} {s:ByteArray} {ats:Array TypeId} {as:Array Operand} (hx:evL L x=some (.string s)) (ha:as.toList=[x]) (ht:ats.toList=[t]) (hi:M.T t=some ⟨.string,sz,by_,z,cm⟩) :
  Rd M (.call ⟨.builtin .len,as,ats⟩) L Z A (.int .i64 s.size):=.pure fun env h=>by
 simp only [apure,ha,ht,pureBuiltin,hi,h.ev hx,Option.bind_eq_bind,Option.bind_some,goInt]
theorem Rd.field {s:TypeId} {x:Operand} {j:Nat} {fs:Array Field} {sz by_:Nat} {z:List Value} {cm:Bool} {f:Field} {i:TI} {cs:Array Value} {v:Value} (hi:M.T s=some ⟨.struct fs,sz,by_,z,cm⟩) (hf:fs[j]?=some f) (ht:M.T f.type=some i) (hx:evL L x=some (.agg cs)) (hv:Go.Ev.apart i cs f.offset=some v):Rd M (.field s x j) L Z A v:=.pure fun env h=>by
 simp only [apure,hi,hf,ht,h.ev hx,Option.bind_eq_bind,Option.bind_some,hv]
theorem Rd.ia {t e:TypeId} {x ix:Operand} {sz by_:Nat} {z:List Value} {cm:Bool} {d:TypeDesc} {es eb:Nat} {ez:List Value} {ec:Bool} {q:IntKind} {i:Int} {b off len c:Nat} (j:Nat) (hi:M.T t=some ⟨.slice e,sz,by_,z,cm⟩) (hj:M.T e=some ⟨d,es,eb,ez,ec⟩) (hix:evL L ix=some (.int q i)) (hx:evL L x=some (.slice (some ⟨b,off,none⟩) len c))
  (e1:i=(j:Int)) (e2:j < len):Rd M (.indexAddr t x ix) L Z A (.pointer (some ⟨b,off+j*es,none⟩)):=.pure fun env h=>by
 subst e1
 simp only [apure,hi,hj,h.ev hix,h.ev hx,asI,Option.bind_eq_bind,Option.bind_some]
 rw [if_pos ⟨by omega,by omega⟩];simp
theorem Rd.ixStr {t:TypeId} {x ix:Operand} {sz by_:Nat} {z:List Value} {cm:Bool} {q:IntKind} {i:Int} {s:ByteArray} (j:Nat) (hi:M.T t=some ⟨.string,sz,by_,z,cm⟩) (hix:evL L ix=some (.int q i)) (hx:evL L x=some (.string s))
  (e1:i=(j:Int)) {w:UInt8} (hv:s[j]?=some w):Rd M (.index t x ix) L Z A (.int .u8 w.toNat):=.pure fun env h=>by
 subst e1
 simp only [apure,hi,h.ev hix,h.ev hx,asI,Option.bind_eq_bind,Option.bind_some]
 rw [if_pos (by omega)];simp [hv]
theorem Rd.load {t:TypeId} {x:Operand} {i:TI} {b off g:Nat} {wr:Bool} {xs cs:List Value} {v:Value} (hi:M.T t=some i) (hx:evL L x=some (.pointer (some ⟨b,off,none⟩))) (hb:Has Z A b (.cells xs wr g)) (hg:getCells xs off (if isAggD i.d then i.size else 1)=some cs) (ho:ofCells i cs=some v):Rd M (.load t x) L Z A v:=by
 intro env H φ h1 h2
 have hr:H.read b off (if isAggD i.d then i.size else 1)=some cs:=by simp only [Heap.read,h2.has hb,hg]
 simp only [aval,apure,aread,hi,h1.ev hx,Option.bind_eq_bind,Option.bind_some]
 cases ha:isAggD i.d<;>simp only [ha,if_true,if_false,Bool.false_eq_true] at hr ⊢<;>simp only [hr,Option.bind_some,ho]
theorem Rd.lookup {t kt et:TypeId} {x ix:Operand} {sz by_:Nat} {z:List Value} {cm:Bool} {kv r:Value} {m:Option Nat} {j:TI} {es:List (Value×Value)} {f:Option (Nat×Value)} {p:Value×Bool} {ok:Bool} (hi:M.T t=some ⟨.map kt et,sz,by_,z,cm⟩) (hj:M.T et=some j) (hx:evL L x=some (.map m)) (hk:evL L ix=some kv) (hm:match m with|none=>es=[]|some b=>Has Z A b (.map es))
  (hf:keyFits M.T kt kv=true) (he:keyFind M.T kt kv es 0=some f) (hp:foundOr j f=some p) (hr:(if ok then Value.tuple #[p.1,.bool p.2] else p.1)=r):Rd M (.lookup t x ix ok) L Z A r:=by
 intro env H φ h1 h2
 have hes:mapEntries H m=some es:=by
  cases m with
  | none=>simp only [mapEntries];rw [hm]
  | some b=>simp only [mapEntries,h2.has hm]
 simp only [aval,apure,aread,hi,hj,h1.ev hx,h1.ev hk,Option.bind_eq_bind,Option.bind_some,hf,if_true,hes,he,hp,hr]
theorem Rd.slice {t e:TypeId} {x:Operand} {lo hi mx:Option Operand} {sz by_:Nat} {z:List Value} {cm:Bool} {d:TypeDesc} {es eb:Nat} {ez:List Value} {ec:Bool} {b off len c g:Nat} {wr:Bool} {xs:List Value} {vl vh vm:Option Value} {nl nh nm:Option Nat} {l h m:Nat} (ht:M.T t=some ⟨.slice e,sz,by_,z,cm⟩) (hj:M.T e=some ⟨d,es,eb,ez,ec⟩)
  (hx:evL L x=some (.slice (some ⟨b,off,none⟩) len c)) (h1:evoL L lo=some vl) (h2:evoL L hi=some vh) (h3:evoL L mx=some vm) (n1:asNat vl=some nl) (n2:asNat vh=some nh) (n3:asNat vm=some nm) (ha:abounds len c nl nh nm=some (l,h,m))
  (hb:Has Z A b (.cells xs wr g)) (hg:g=0∨g=es):Rd M (.slice t x lo hi mx) L Z A (.slice (some ⟨b,off+l*es,none⟩) (h - l) (m - l)):=by
 intro env H φ q1 q2
 simp only [aval,apure,aread,q1.ev hx,q1.evo h1,q1.evo h2,q1.evo h3,aslice,ht,hj,n1,n2,n3,ha,q2.has hb,Option.bind_eq_bind,Option.bind_some]
 rw [if_pos hg]
theorem Rd.sliceNil {t e:TypeId} {x:Operand} {lo hi mx:Option Operand} {sz by_:Nat} {z:List Value} {cm:Bool} {i:TI} {vl vh vm:Option Value} {nl nh nm:Option Nat} {l h m:Nat} (ht:M.T t=some ⟨.slice e,sz,by_,z,cm⟩) (hj:M.T e=some i)
  (hx:evL L x=some (.slice none 0 0)) (h1:evoL L lo=some vl) (h2:evoL L hi=some vh) (h3:evoL L mx=some vm) (n1:asNat vl=some nl) (n2:asNat vh=some nh) (n3:asNat vm=some nm) (ha:abounds 0 0 nl nh nm=some (l,h,m)):Rd M (.slice t x lo hi mx) L Z A (.slice none (h - l) (m - l)):=by
 intro env H φ q1 q2
 simp only [aval,apure,aread,q1.ev hx,q1.evo h1,q1.evo h2,q1.evo h3,aslice,ht,hj,n1,n2,n3,ha,Option.bind_eq_bind,Option.bind_some]
end
def putAt:List Value→Nat→List Value→Option (List Value)
 | l,0,[]=>some l
 | [],0,_::_=>none
 | _::l,0,x::xs=>match putAt l 0 xs with
  | some r=>some (x::r)
  | none=>none
 | [],_+1,_=>none
 | y::l,n+1,xs=>match putAt l n xs with
  | some r=>some (y::r)
  | none=>none
theorem putAt_eq:∀ (l:List Value) (n:Nat) (xs:List Value),putAt l n xs=setCells l n xs
 | [],0,[]=>rfl
 | _::_,0,[]=>by simp [putAt,setCells]
 | [],0,_::_=>by simp [putAt,setCells]
 | y::l,0,x::xs=>by
  simp only [putAt,putAt_eq l 0 xs,setCells,Nat.zero_add,List.length_cons,List.take_zero,List.nil_append,List.drop_succ_cons]
  by_cases h:xs.length≤l.length
  ·rw [if_pos h,if_pos (by omega)];rfl
  ·rw [if_neg h,if_neg (by omega)]
 | [],n+1,xs=>by simp [putAt,setCells]
 | y::l,n+1,xs=>by
  simp only [putAt,putAt_eq l n xs,setCells,List.length_cons,List.take_succ_cons,List.cons_append]
  have:n+1+xs.length=n+xs.length+1:=by omega
  rw [this]
  simp only [List.drop_succ_cons]
  by_cases h:n+xs.length≤l.length
  ·rw [if_pos h,if_pos (by omega)]
  ·rw [if_neg h,if_neg (by omega)]
def fillL (place:Nat→Option (Nat×Nat)):List Value→List (Nat×Value)→Option (List Value)
 | cs,[]=>some cs
 | cs,(i,v)::r=>match place i with
  | some (off,size)=>bif Nat.beq (cellsL v).length size then (match putAt cs off (cellsL v) with
   | some cs'=>fillL place cs' r
   | none=>none) else none
  | none=>none
theorem foldl_put:∀ (xs:List Value) (j off:Nat) (cs:Array Value),off+j+xs.length≤cs.size →
  (xs.zipIdx j).foldl (fun (cs:Array Value) (p:Value×Nat)=>cs.setIfInBounds (off+p.2) p.1) cs=(cs.toList.take (off+j)++(xs++cs.toList.drop (off+j+xs.length))).toArray
 | [],j,off,cs,h=>by apply Array.ext';simp
 | x::xs,j,off,cs,h=>by
  simp only [List.zipIdx_cons,List.foldl_cons]
  rw [foldl_put xs (j+1) off _ (by simp at h ⊢;omega)]
  apply Array.ext'
  simp only [List.length_cons] at h
  simp only [Array.toList_setIfInBounds]
  have e:off+(j+1)=(off+j)+1:=by omega
  rw [e]
  generalize off+j=q at h ⊢
  have h':q < cs.toList.length:=by simp;omega
  generalize cs.toList=l at h' ⊢
  rw [List.take_succ_eq_append_getElem (by simpa using h')]
  simp only [List.getElem_set_self,List.take_set_of_le (Nat.le_refl q),List.append_assoc,List.cons_append,List.nil_append,List.length_cons]
  rw [List.drop_set_of_lt (by omega)]
  congr 4
  omega
theorem fillL_eq (place:Nat→Option (Nat×Nat)):∀ (ps:List (Nat×Value)) (cs:List Value),Instr.fill place cs.toArray ps=(fillL place cs ps).map List.toArray
 | [],cs=>rfl
 | (i,v)::ps,cs=>by
  simp only [Instr.fill,fillL]
  cases hp:place i with
  | none=>rfl
  | some p =>
   obtain ⟨off,size⟩:=p
   simp only [cellsL_size,List.size_toArray,cond_eq_ite,Nat.beq_eq,putAt_eq,setCells]
   by_cases h1:(cellsL v).length=size
   ·rw [if_pos h1]
    by_cases h2:off+(cellsL v).length≤cs.length
    ·rw [if_pos h2]
     have:¬ ((decide ((cellsL v).length≠size) || decide (off+(cellsL v).length > cs.length))=true):=by simp;exact ⟨h1,h2⟩
     rw [if_neg this]
     have e:=foldl_put (cellsL v) 0 off cs.toArray (by simpa using h2)
     have e2:Array.foldl (fun cs (x:Value×Nat)=>match x with|(c,j)=>cs.setIfInBounds (off+j) c) cs.toArray v.cells.zipIdx=((cellsL v).zipIdx 0).foldl (fun (cs:Array Value) (p:Value×Nat)=>cs.setIfInBounds (off+p.2) p.1) cs.toArray:=by
      rw [←Array.foldl_toList,Array.toList_zipIdx,cellsL_eq]
     rw [e2,e,fillL_eq place ps]
     simp
    ·rw [if_neg h2]
     have:(decide ((cellsL v).length≠size) || decide (off+(cellsL v).length > cs.length))=true:=by simp;exact .inr (by omega)
     rw [if_pos this];rfl
   ·rw [if_neg h1]
    have:(decide ((cellsL v).length≠size) || decide (off+(cellsL v).length > cs.length))=true:=by simp;exact .inl h1
    rw [if_pos this];rfl
end Go.Ev
namespace Go.Ev
def getL:List Value→Nat→Nat→Option (List Value)
 | _,0,0=>some []
 | [],0,_+1=>none
 | x::l,0,n+1=>match getL l 0 n with
  | some r=>some (x::r)
  | none=>none
 | [],_+1,_=>none
 | _::l,o+1,n=>getL l o n
theorem getL_eq:∀ (l:List Value) (o n:Nat),getL l o n=getCells l o n
 | [],0,0=>rfl
 | _::_,0,0=>by simp [getL,getCells]
 | [],0,n+1=>by simp [getL,getCells]
 | x::l,0,n+1=>by
  simp only [getL,getL_eq l 0 n,getCells,Nat.zero_add,List.length_cons,List.drop_zero,List.take_succ_cons]
  by_cases h:n≤l.length
  ·rw [if_pos h,if_pos (by omega)]
  ·rw [if_neg h,if_neg (by omega)]
 | [],o+1,n=>by simp [getL,getCells]
 | x::l,o+1,n=>by
  simp only [getL,getL_eq l o n,getCells,List.length_cons,List.drop_succ_cons]
  by_cases h:o+n≤l.length
  ·rw [if_pos h,if_pos (by omega)]
  ·rw [if_neg h,if_neg (by omega)]
theorem getC_some {l:List Value} {o n:Nat} {r:List Value} (h:getCells l o n=some r):o+n≤l.length∧r=(l.drop o).take n∧r.length=n:=by
 unfold getCells at h
 split at h
 ·cases h;refine ⟨by assumption,rfl,?_⟩;simp;omega
 ·cases h
theorem getCells_in {l:List Value} {o n:Nat} {r:List Value} (h:getCells l o n=some r) {p m:Nat} (hp:p+m≤n):getCells l (o+p) m=getCells r p m:=by
 obtain ⟨h1,rfl,h3⟩:=getC_some h
 unfold getCells
 rw [if_pos (by omega),if_pos (by omega),List.drop_take,List.take_take,List.drop_drop]
 congr 2
 omega
theorem getCells_one {l:List Value} {o:Nat} {v:Value} (h:l[o]?=some v):getCells l o 1=some [v]:=by
 have hlt:o < l.length:=by
  rcases Nat.lt_or_ge o l.length with k|k
  ·exact k
  ·rw [List.getElem?_eq_none k] at h;cases h
 rw [List.getElem?_eq_getElem hlt] at h
 cases h
 unfold getCells
 rw [if_pos (by omega),List.drop_eq_getElem_cons hlt]
 rfl
theorem getCells_head {l:List Value} {n:Nat} (h:n≤l.length):getCells l 0 n=some (l.take n):=by unfold getCells;simp [h]
theorem getCells_zero {l:List Value} {o:Nat} (h:o≤l.length):getCells l o 0=some []:=by unfold getCells;simp [h]
section
variable {M:Mach} {fn:FuncId} {rd:Option Nat} {n:Nat} {Q:PQ} {k:List KI} {L:Lo} {Z:Zone} {A:List SA}
variable {ops:Array Oper} {dr:Bool} {pl:List Ro} {ps:List Pn} {i m d:Nat} {op:Op} {ty:TypeId} {pos:String} {af:Array Edge} {g:Option (Nat×Bool)}
theorem Rd.loadL {t:TypeId} {x:Operand} {i:TI} {b off g:Nat} {wr:Bool} {xs cs:List Value} {v:Value} (hi:M.T t=some i) (hx:evL L x=some (.pointer (some ⟨b,off,none⟩))) (hb:Has Z A b (.cells xs wr g)) (hg:getL xs off (bif isAggD i.d then i.size else 1)=some cs) (ho:ofCells i cs=some v):Rd M (.load t x) L Z A v :=
 .load hi hx hb (by rw [getL_eq,cond_eq_ite] at hg;exact hg) ho
def Pz (Z:Zone) (b off:Nat) (cs:List Value):Prop:=∃ xs wr g,Z b=some (.cells xs wr g)∧getCells xs off cs.length=some cs
theorem Pz.mono {Z':Zone} {b off:Nat} {cs:List Value} (e:Ext Z Z') (h:Pz Z b off cs):Pz Z' b off cs:=let ⟨xs,wr,g,h1,h2⟩:=h;⟨xs,wr,g,e _ _ h1,h2⟩
theorem Rd.loadP {t:TypeId} {x:Operand} {i:TI} {b off o:Nat} {xs cs:List Value} {v:Value} (hi:M.T t=some i) (hx:evL L x=some (.pointer (some ⟨b,off+o,none⟩))) (hb:Pz Z b off xs) (hg:getL xs o (bif isAggD i.d then i.size else 1)=some cs) (ho:ofCells i cs=some v):Rd M (.load t x) L Z A v:=by
 obtain ⟨ys,wr,g,h1,h2⟩:=hb
 rw [getL_eq,cond_eq_ite] at hg
 refine .load hi hx (.inl h1) ?_ ho
 rw [getCells_in h2 (getC_some hg).1]
 exact hg
theorem Wk.box {x:Operand} {t:TypeId} {v:Value} (hw:wantL ops L g=some true) (hd:Nat.blt d n=true) (hx:evL L x=some v) (c:∀ b,Wk M fn rd n Q (.r ops dr pl ps::k) ((d,.pointer (some ⟨b,0,none⟩))::L) Z (pt b (.cells (cellsL v) true 0)::A)) :
  Wk M fn rd n Q (.r ops dr (⟨i,m,⟨some d,.box t x,ty,pos,af,g⟩⟩::pl) ps::k) L Z A :=
 Wk.a hw rfl hd (fun env h=>by simp only [aalloc,h.ev hx,Option.bind_eq_bind,Option.bind_some,cellsL_eq]) c
theorem Wk.boxA {x:Operand} {t:TypeId} {cs:List Value} (hw:wantL ops L g=some true) (hd:Nat.blt d n=true) (hx:evL L x=some (.agg ⟨cs⟩)) (c:∀ b,Wk M fn rd n Q (.r ops dr pl ps::k) ((d,.pointer (some ⟨b,0,none⟩))::L) Z (pt b (.cells cs true 0)::A)) :
  Wk M fn rd n Q (.r ops dr (⟨i,m,⟨some d,.box t x,ty,pos,af,g⟩⟩::pl) ps::k) L Z A:=Wk.box hw hd hx c
theorem Wk.boxS {x:Operand} {t:TypeId} {v:Value} (hw:wantL ops L g=some true) (hd:Nat.blt d n=true) (hx:evL L x=some v) (hs:cellsL v=[v]) (c:∀ b,Wk M fn rd n Q (.r ops dr pl ps::k) ((d,.pointer (some ⟨b,0,none⟩))::L) Z (pt b (.cells [v] true 0)::A)) :
  Wk M fn rd n Q (.r ops dr (⟨i,m,⟨some d,.box t x,ty,pos,af,g⟩⟩::pl) ps::k) L Z A:=Wk.box hw hd hx (by rw [hs];exact c)
theorem Wk.alloc {t:TypeId} {de:TypeDesc} {sz by_:Nat} {z:List Value} {cm:Bool} (hw:wantL ops L g=some true) (hd:Nat.blt d n=true) (hi:M.T t=some ⟨de,sz,by_,z,cm⟩) (c:∀ b,Wk M fn rd n Q (.r ops dr pl ps::k) ((d,.pointer (some ⟨b,0,none⟩))::L) Z (pt b (.cells z true 0)::A)) :
  Wk M fn rd n Q (.r ops dr (⟨i,m,⟨some d,.alloc t,ty,pos,af,g⟩⟩::pl) ps::k) L Z A :=
 Wk.a hw rfl hd (fun env h=>by simp only [aalloc,hi,Option.bind_eq_bind,Option.bind_some]) c
theorem Wk.bs {t e:TypeId} {len:Nat} {parts:Array (Nat×Operand)} {sz by_:Nat} {z:List Value} {cm:Bool} {j:TI} {pv:List (Nat×Value)} {cs:List Value} (hw:wantL ops L g=some true) (hd:Nat.blt d n=true) (hi:M.T t=some ⟨.slice e,sz,by_,z,cm⟩) (hj:M.T e=some j) (hp:evpsL L parts.toList=some pv)
  (hz:Nat.ble (len*j.size) 16777216=true) (hf:fillL (fun k=>some (k*j.size,j.size)) (repCells j.zero len) pv=some cs) (c:∀ b,Wk M fn rd n Q (.r ops dr pl ps::k) ((d,.slice (some ⟨b,0,none⟩) len len)::L) Z (pt b (.cells cs true 0)::A)) :
  Wk M fn rd n Q (.r ops dr (⟨i,m,⟨some d,.buildSlice t len parts,ty,pos,af,g⟩⟩::pl) ps::k) L Z A :=
 Wk.a hw rfl hd (fun env h=>by
  have hz':¬ (len*j.size > 2 ^ 24):=by have:=Nat.le_of_ble_eq_true hz;omega
  simp only [aalloc,hi,hj,h.evps hp,Option.bind_eq_bind,Option.bind_some,if_neg hz',fillL_eq,hf,Option.map_some]) c
theorem Wk.mks {t e:TypeId} {l c':Operand} {sz by_:Nat} {z:List Value} {cm:Bool} {j:TI} {q q':IntKind} {li ci:Int} (ln cn:Nat) (hw:wantL ops L g=some true) (hd:Nat.blt d n=true) (hi:M.T t=some ⟨.slice e,sz,by_,z,cm⟩) (hj:M.T e=some j) (hl:evL L l=some (.int q li)) (hc:evL L c'=some (.int q' ci))
  (e1:li=(ln:Int)) (e2:ci=(cn:Int)) (h1:ln≤cn) (h2:j.bytes*cn≤281474976710656) (h3:cn≤9223372036854775807) (c:∀ b,Wk M fn rd n Q (.r ops dr pl ps::k) ((d,.slice (some ⟨b,0,none⟩) ln cn)::L) Z (pt b (.cells (repCells j.zero cn) true 0)::A)) :
  Wk M fn rd n Q (.r ops dr (⟨i,m,⟨some d,.makeSlice t l c',ty,pos,af,g⟩⟩::pl) ps::k) L Z A :=
 Wk.a hw rfl hd (fun env h=>by
  subst e1 e2
  have hb:(j.bytes:Int)*(cn:Int)≤2 ^ 48:=by
   have:((j.bytes*cn:Nat):Int)≤((281474976710656:Nat):Int):=by exact_mod_cast h2
   simpa using this
  have hall:(0:Int)≤(ln:Int)∧(ln:Int)≤(cn:Int)∧(cn:Int)≤9223372036854775807∧(j.bytes:Int)*(cn:Int)≤2 ^ 48:=⟨by omega,by omega,by omega,hb⟩
  simp only [aalloc,hi,hj,h.ev hl,h.ev hc,asI,Option.bind_eq_bind,Option.bind_some,if_pos hall,Int.toNat_natCast]) c
theorem Wk.mkm {t kt et:TypeId} {sz by_:Nat} {z:List Value} {cm:Bool} (hw:wantL ops L g=some true) (hd:Nat.blt d n=true) (hi:M.T t=some ⟨.map kt et,sz,by_,z,cm⟩) (c:∀ b,Wk M fn rd n Q (.r ops dr pl ps::k) ((d,.map (some b))::L) Z (pt b (.map [])::A)) :
  Wk M fn rd n Q (.r ops dr (⟨i,m,⟨some d,.makeMap t none,ty,pos,af,g⟩⟩::pl) ps::k) L Z A :=
 Wk.a hw rfl hd (fun env h=>by simp only [aalloc,hi,evo,Option.bind_eq_bind,Option.bind_some]) c
def Sl (Z:Zone) (sz:Nat) (v:Value) (m:Nat) (vs:List Value):Prop :=
 (v=.slice none 0 0∧m=0∧vs=[]) ∨
 ∃ b off c xs wr g,v=.slice (some ⟨b,off,none⟩) m c∧m≤c∧Z b=some (.cells xs wr g)∧getCells xs off (m*sz)=some vs∧(g=0∨g=sz)
theorem Sl.mono {Z':Zone} {sz:Nat} {v:Value} {m:Nat} {vs:List Value} (e:Ext Z Z') (h:Sl Z sz v m vs):Sl Z' sz v m vs:=by
 rcases h with h|⟨b,off,c,xs,wr,g,h1,h2,h3,h4⟩
 ·exact .inl h
 ·exact .inr ⟨b,off,c,xs,wr,g,h1,h2,e _ _ h3,h4⟩
theorem Sl.length {sz:Nat} {v:Value} {m:Nat} {vs:List Value} (h:Sl Z sz v m vs):vs.length=m*sz:=by
 rcases h with ⟨_,rfl,rfl⟩|⟨b,off,c,xs,wr,g,h1,h2,h3,h4,h5⟩
 ·simp
 ·exact (getC_some h4).2.2
theorem Sl.nil {sz:Nat}:Sl Z sz (.slice none 0 0) 0 []:=.inl ⟨rfl,rfl,rfl⟩
theorem Sl.form {sz:Nat} {v:Value} {m:Nat} {vs:List Value} (h:Sl Z sz v m vs):∃ a c,v=.slice a m c:=by
 rcases h with ⟨rfl,rfl,rfl⟩|⟨b,off,c,xs,wr,g,rfl,h2,h3,h4,h5⟩
 ·exact ⟨_,_,rfl⟩
 ·exact ⟨_,_,rfl⟩
theorem Sl.cellsL {sz:Nat} {v:Value} {m:Nat} {vs:List Value} (h:Sl Z sz v m vs):cellsL v=[v]:=by obtain ⟨a,c,rfl⟩:=h.form;rfl
theorem Rd.lenSl {x:Operand} {t:TypeId} {e:TypeId} {sz' by_:Nat} {z:List Value} {cm:Bool} {ats:Array TypeId} {as:Array Operand} {sz:Nat} {v:Value} {m:Nat} {vs:List Value} (h:Sl Z sz v m vs) (hx:evL L x=some v) (ha:as.toList=[x]) (ht:ats.toList=[t]) (hi:M.T t=some ⟨.slice e,sz',by_,z,cm⟩) :
  Rd M (.call ⟨.builtin .len,as,ats⟩) L Z A (.int .i64 m):=by
 obtain ⟨a,c,rfl⟩:=h.form
 exact .len hx ha ht hi
theorem Wk.iaSl {t e:TypeId} {x ix:Operand} {sz by_:Nat} {z:List Value} {cm:Bool} {de:TypeDesc} {es eb:Nat} {ez:List Value} {ec:Bool} {q:IntKind} {j':Int} {v:Value} {len:Nat} {vs cs:List Value} (j:Nat) (h:Sl Z es v len vs) (hw:wantL ops L g=some true) (hd:Nat.blt d n=true) (hi:M.T t=some ⟨.slice e,sz,by_,z,cm⟩) (hj:M.T e=some ⟨de,es,eb,ez,ec⟩)
  (hix:evL L ix=some (.int q j')) (hx:evL L x=some v) (e1:j'=(j:Int)) (e2:j < len) (hc:getCells vs (j*es) es=some cs)
  (c:∀ b off,Pz Z b off cs→Wk M fn rd n Q (.r ops dr pl ps::k) ((d,.pointer (some ⟨b,off,none⟩))::L) Z A):Wk M fn rd n Q (.r ops dr (⟨i,m,⟨some d,.indexAddr t x ix,ty,pos,af,g⟩⟩::pl) ps::k) L Z A:=by
 rcases h with ⟨rfl,rfl,rfl⟩|⟨b,off,cc,xs,wr,gg,rfl,h2,h3,h4,h5⟩
 ·omega
 ·refine Wk.v hw rfl hd (Rd.ia j hi hj hix hx e1 e2) ?_
  have hl:j*es+es≤len*es:=by
   have:(j+1)*es≤len*es:=Nat.mul_le_mul_right _ e2
   rw [Nat.add_mul,Nat.one_mul] at this;exact this
  have:pnd dr i (.indexAddr t x ix) L (.pointer (some ⟨b,off+j*es,none⟩)) ps=ps:=by simp [pnd,isRead]
  rw [this]
  refine c b _ ⟨xs,wr,gg,h3,?_⟩
  rw [(getC_some hc).2.2,getCells_in h4 hl]
  exact hc
theorem Sl.of {sz b c off:Nat} {m:Nat} {xs vs:List Value} {wr:Bool} {g:Nat} (h:Z b=some (.cells xs wr g)) (hv:getCells xs off (m*sz)=some vs) (hc:m≤c) (hg:g=0∨g=sz):Sl Z sz (.slice (some ⟨b,off,none⟩) m c) m vs:=.inr ⟨b,off,c,xs,wr,g,rfl,hc,h,hv,hg⟩
def partOK (len:Nat) (nl nh nm:Option Nat) (l h:Nat):Prop:=l=nl.getD 0∧h=nh.getD len∧l≤h∧h≤len∧(match nm with|none=>True|some q=>h≤q∧q≤len∧nh.isSome=true)
def ol (sz:Nat) (v:Value) (m:Nat) (vs:List Value):SA where
 p:=fun Z s=>(v=.slice none 0 0∧m=0∧vs=[]∧s=[]) ∨
  (∃ b off xs wr g,v=.slice (some ⟨b,off,none⟩) 0 0∧Z b=some (.cells xs wr g)∧off≤xs.length∧(g=0∨g=sz)∧(g=0∨off≠xs.length)∧m=0∧vs=[]∧s=[]) ∨
  (∃ b g c xs,v=.slice (some ⟨b,0,none⟩) m c∧m≤c∧xs.length=c*sz∧xs.take (m*sz)=vs∧(g=0∨g=sz)∧okCells xs=true∧s=[(b,.cells xs true g)])
 mono:=fun e h=>by
  rcases h with h|⟨b,off,xs,wr,g,h1,h2,h3⟩|h
  ·exact .inl h
  ·exact .inr (.inl ⟨b,off,xs,wr,g,h1,e _ _ h2,h3⟩)
  ·exact .inr (.inr h)
theorem ol.length {sz:Nat} {v:Value} {m:Nat} {vs:List Value} {s:List Cel} (h:(ol sz v m vs).p Z s):vs.length=m*sz:=by
 rcases h with ⟨_,rfl,rfl,_⟩|⟨_,_,_,_,_,_,_,_,_,_,rfl,rfl,_⟩|⟨b,g,c,xs,_,h1,h2,rfl,_⟩
 ·simp
 ·simp
 ·rw [List.length_take,h2];exact Nat.min_eq_left (Nat.mul_le_mul_right _ h1)
theorem ol.form {sz:Nat} {v:Value} {m:Nat} {vs:List Value} {s:List Cel} (h:(ol sz v m vs).p Z s):∃ a c,v=.slice a m c:=by
 rcases h with ⟨rfl,rfl,rfl,_⟩|⟨_,_,_,_,_,rfl,_,_,_,_,rfl,rfl,_⟩|⟨b,g,c,xs,rfl,h,_⟩
 ·exact ⟨_,_,rfl⟩
 ·exact ⟨_,_,rfl⟩
 ·exact ⟨_,_,rfl⟩
theorem Wk.olNil (sz:Nat) {c:Code} (h:Wk M fn rd n Q (.c c::k) L Z (ol sz (.slice none 0 0) 0 []::A)):Wk M fn rd n Q (.c c::k) L Z A :=
 Wk.turn fun env H φ h1 h2=>⟨L,Z,_,h1,Ext.refl _,let ⟨σ,s1,s2⟩:=h2;⟨[]++σ,.cons (P:=ol sz (.slice none 0 0) 0 []) (s:=[]) (Or.inl ⟨rfl,rfl,rfl,rfl⟩) s1,by simpa using s2⟩,h⟩
theorem ol_of_pt {sz b m:Nat} {vs:List Value} {s:List Cel} {g:Nat} (hl:vs.length=m*sz) (hg:g=0∨g=sz) (hok:okCells vs=true) (h:(pt b (.cells vs true g)).p Z s):Sat Z [ol sz (.slice (some ⟨b,0,none⟩) m m) m vs] s :=
 Sat.one (.inr (.inr ⟨b,g,m,vs,rfl,Nat.le_refl _,hl,by rw [←hl,List.take_length],hg,hok,h⟩))
theorem St.olFreeze {H:Heap} {φ:List Cel} {sz:Nat} {v:Value} {m:Nat} {vs:List Value} {B:List SA} (p:Rem A (ol sz v m vs) B) (h:St H Z A φ):∃ Z',Ext Z Z'∧Sl Z' sz v m vs∧St H Z' B φ:=by
 obtain ⟨s,t,h1,h2,h3⟩:=h.rem p
 rcases h1 with ⟨rfl,rfl,rfl,rfl⟩|⟨b,off,xs,wr,g,rfl,hz,ho,hg,_,rfl,rfl,rfl⟩|⟨b,g,c,xs,rfl,hc,hl,rfl,hg,_,rfl⟩
 ·exact ⟨Z,Ext.refl _,.inl ⟨rfl,rfl,rfl⟩,t,h2,by simpa using h3⟩
 ·exact ⟨Z,Ext.refl _,Sl.of hz (by rw [Nat.zero_mul];exact getCells_zero ho) (Nat.le_refl _) hg,t,h2,by simpa using h3⟩
 ·obtain ⟨k1,k2⟩:=St0.freeze (b:=b) (o:=.cells xs true g) (σ:=t++φ) h3
  exact ⟨_,k1,Sl.of (b:=b) (off:=0) (wr:=true) (g:=g) (by simp [Zone.add]) (getCells_head (by rw [hl];exact Nat.mul_le_mul_right _ hc)) hc hg,t,h2.mono k1,k2⟩
theorem Wk.olFreeze {c:Code} {sz:Nat} {v:Value} {m:Nat} {vs:List Value} {B:List SA} (p:Rem A (ol sz v m vs) B) (h:∀ Z',Ext Z Z'→Sl Z' sz v m vs→Wk M fn rd n Q (.c c::k) L Z' B):Wk M fn rd n Q (.c c::k) L Z A :=
 Wk.turn fun env H φ h1 h2=>let ⟨Z',k1,k2,k3⟩:=h2.olFreeze p;⟨L,Z',B,h1,k1,k3,h Z' k1 k2⟩
theorem Wk.olFreezer {sz:Nat} {v:Value} {mm:Nat} {vs:List Value} {B:List SA} (p:Rem A (ol sz v mm vs) B) (h:∀ Z',Ext Z Z'→Sl Z' sz v mm vs→Wk M fn rd n Q (.r ops dr pl ps::k) L Z' B):Wk M fn rd n Q (.r ops dr pl ps::k) L Z A :=
 Wk.turnr fun env H φ h1 h2=>let ⟨Z',k1,k2,k3⟩:=h2.olFreeze p;⟨L,Z',B,h1,k1,k3,h Z' k1 k2⟩
theorem Wk.know {c:Code} {x:SA} {B:List SA} {R:Prop} (p:Rem A x B) (g:∀ s,x.p Z s→R) (h:R→Wk M fn rd n Q (.c c::k) L Z A):Wk M fn rd n Q (.c c::k) L Z A:=by
 intro env H φ h1 h2 h3
 obtain ⟨s,t,k1,k2,k3⟩:=h3.rem p
 exact h (g s k1) env H φ h1 h2 h3
theorem Wk.knowr {x:SA} {B:List SA} {R:Prop} (p:Rem A x B) (g:∀ s,x.p Z s→R) (h:R→Wk M fn rd n Q (.r ops dr pl ps::k) L Z A):Wk M fn rd n Q (.r ops dr pl ps::k) L Z A:=by
 intro ms hm qs hq env H φ h1 h2 h3
 obtain ⟨s,t,k1,k2,k3⟩:=h3.rem p
 exact h (g s k1) ms hm qs hq env H φ h1 h2 h3
def Src (Z:Zone) (A:List SA) (sz:Nat) (w:Value) (k:Nat) (new:List Value):Prop:=∀ H φ,St H Z A φ→srcCells H sz w=some (k,new)
theorem Src.lit {sz b off c kk g:Nat} {wr:Bool} {xs new:List Value} (h:Has Z A b (.cells xs wr g)) (hg:getL xs off (kk*sz)=some new):Src Z A sz (.slice (some ⟨b,off,none⟩) kk c) kk new:=by
 intro H φ st
 rw [getL_eq] at hg
 simp only [srcCells,Heap.read,st.has h,hg,Option.bind_eq_bind,Option.bind_some]
theorem Src.sl {sz kk:Nat} {w:Value} {new:List Value} (h:Sl Z sz w kk new):Src Z A sz w kk new:=by
 intro H φ st
 rcases h with ⟨rfl,rfl,rfl⟩|⟨b,off,cc,xs,wr,gg,rfl,h2,h3,h4,h5⟩
 ·simp [srcCells]
 ·simp only [srcCells,Heap.read,st.has (.inl h3),h4,Option.bind_eq_bind,Option.bind_some]
def notInt:TypeDesc→Bool
 | .int _=>false
 | _=>true
theorem okCells_append {a b:List Value} (h:okCells a=true) (k:okCells b=true):okCells (a++b)=true:=by
 simp only [okCells,List.all_append,Bool.and_eq_true] at h k ⊢;exact ⟨h,k⟩
theorem Ef.append {t u e:TypeId} {s x:Operand} {as:Array Operand} {ats:Array TypeId} {v w:Value} {tz tb sz by_ mm kk:Nat} {tzz z:List Value} {tc cm:Bool} {de:TypeDesc} {iu:TI} {vs new:List Value} {B:List SA} {K:Value→Zone→List SA→Prop}
  (ha:as.toList=[s,x]) (hat:ats.toList=[t,u]) (ht:M.T t=some ⟨.slice e,tz,tb,tzz,tc⟩) (hu:M.T u=some iu) (hn:notInt iu.d=true) (he:M.T e=some ⟨de,sz,by_,z,cm⟩)
  (hs:evL L s=some v) (hx:evL L x=some w) (p:Rem A (ol sz v mm vs) B) (src:Src Z B sz w kk new) (hsz:Nat.blt 0 sz=true) (hok:okCells new=true) (hlen:new.length=kk*sz) (hb:by_*(mm+kk)≤140737488355328) (hb':mm+kk≤140737488355328)
  (c:∀ v',K v' Z (ol sz v' (mm+kk) (vs++new)::B)):Ef M (.call ⟨.builtin .append,as,ats⟩) L Z A K:=by
 intro env H φ h1 h2
 have hsz':=of_blt hsz
 obtain ⟨q,r,k1,k2,k3⟩:=h2.rem p
 have stB:St H Z B (q++φ):=⟨r,k2,k3.perm (by
  rw [←List.append_assoc,←List.append_assoc]
  exact (List.perm_append_comm).append_right φ)⟩
 have hsrc:=src H _ stB
 have main:∀ (v':Value) (H':Heap) (q':List Cel),aappendK ⟨de,sz,by_,z,cm⟩ H v kk new=some (v',H')→(ol sz v' (mm+kk) (vs++new)).p Z q'→St0 H' Z (q'++(r++φ)) →
   ∃ m v H' Z' A',aE M.T (M.C m) (evOp env) H (.call ⟨.builtin .append,as,ats⟩)=some (v,H')∧Ext Z Z'∧St H' Z' A' φ∧K v Z' A':=by
  intro v' H' q' e1 e2 e3
  refine ⟨0,v',H',Z,_,?_,Ext.refl _,⟨q'++r,.cons e2 k2,by rw [List.append_assoc];exact e3⟩,c v'⟩
  have hni:∀ q,iu.d≠.int q:=fun q e=>by rw [e] at hn;cases hn
  simp only [aE,aeff,ha,hat,effBuiltin,ht,hu,Option.bind_eq_bind,Option.bind_some,h1.ev hs,h1.ev hx,he]
  generalize iu.d=dd at hni
  cases dd with
  | int q=>exact absurd rfl (hni q)
  | _=>simp only [aappend,hsrc,Option.bind_eq_bind,Option.bind_some,e1]
 by_cases hk:kk=0
 ·subst hk
  have hnew:new=[]:=by simpa using hlen
  subst hnew
  simp only [Nat.add_zero,List.append_nil] at main ⊢
  refine main v H q ?_ k1 k3
  rcases k1 with ⟨rfl,rfl,rfl,rfl⟩|⟨b,off,xs,wr,g,rfl,_,_,_,_,rfl,rfl,rfl⟩|⟨b,g,cp,xs,rfl,hc,hl,rfl,hg,_,rfl⟩
  ·simp [aappendK]
  ·simp [aappendK]
  ·simp [aappendK,hc]
 ·have cnd:0 < sz∧by_*kk≤140737488355328∧kk≤140737488355328:=⟨hsz',by have:by_*kk≤by_*(mm+kk):=Nat.mul_le_mul_left _ (by omega);omega,by omega⟩
  have fresh:∀ (vs0:List Value) (m0:Nat),okCells vs0=true→vs0.length=m0*sz→(ol sz (.slice (some ⟨H.next,0,none⟩) (m0+kk) (m0+kk)) (m0+kk) (vs0++new)).p Z [(H.next,.cells (vs0++new) true sz)]:=fun vs0 m0 h1 h2=>by
   have:(vs0++new).length=(m0+kk)*sz:=by rw [List.length_append,h2,hlen,Nat.add_mul]
   exact .inr (.inr ⟨H.next,sz,m0+kk,_,rfl,Nat.le_refl _,this,by rw [←this,List.take_length],.inr rfl,okCells_append h1 hok,rfl⟩)
  rcases k1 with ⟨rfl,rfl,rfl,rfl⟩|⟨b,off,xs,wr,g,rfl,hz,ho,_,hg,rfl,rfl,rfl⟩|⟨b,g,cp,xs,rfl,hc,hl,rfl,hg,hov,rfl⟩
  ·refine main _ _ [(H.next,.cells new true sz)] ?_ (by have:=fresh [] 0 rfl (by simp);simpa using this) (by simpa using k3.push _)
   simp only [aappendK,if_neg hk]
   rw [if_pos ⟨cnd.1,cnd.2.1,cnd.2.2,hok⟩]
  ·refine main (.slice (some ⟨H.next,0,none⟩) (0+kk) (0+kk)) (H.push (.cells new true sz)) [(H.next,.cells new true sz)] ?_ (by have:=fresh [] 0 rfl (by simp);simpa using this) (by simpa using k3.push _)
   have hget:H.get b=some (.cells xs wr g):=h2.has (.inl hz)
   have hz0:getCells xs off (0*sz)=some []:=by rw [Nat.zero_mul];exact getCells_zero ho
   simp only [aappendK]
   rw [if_neg (by omega),if_pos ⟨cnd.1,by simpa using cnd.2.1,by simpa using cnd.2.2,hok⟩,hget]
   simp only [hz0,Option.bind_eq_bind,Option.bind_some]
   rw [if_pos (by rfl),if_pos (by simpa using hg)]
   simp
  ·have hget:H.get b=some (.cells xs true g):=k3.own (b,.cells xs true g) (by simp)
   have hmc:mm*sz≤xs.length:=by rw [hl];exact Nat.mul_le_mul_right _ hc
   have hall:getCells xs 0 (mm*sz)=some (xs.take (mm*sz)):=getCells_head hmc
   have hovt:okCells (xs.take (mm*sz))=true:=by
    simp only [okCells,List.all_eq_true] at hov ⊢
    exact fun x hx=>hov x (List.mem_of_mem_take hx)
   have hlt:(xs.take (mm*sz)).length=mm*sz:=by rw [List.length_take];exact Nat.min_eq_left hmc
   have k3':St0 H Z ((b,.cells xs true g)::(r++φ)):=by simpa using k3
   by_cases hroom:mm+kk≤cp
   ·have hfit:mm*sz+new.length≤xs.length:=by
     rw [hlen,hl,←Nat.add_mul];exact Nat.mul_le_mul_right _ hroom
    refine main (.slice (some ⟨b,0,none⟩) (mm+kk) cp) (H.put b (some (.cells (xs.take (mm*sz)++(new++xs.drop (mm*sz+new.length))) true g))) [(b,.cells (xs.take (mm*sz)++(new++xs.drop (mm*sz+new.length))) true g)] ?_ (.inr (.inr ⟨b,g,cp,_,rfl,hroom,?_,?_,hg,?_,rfl⟩)) (St0.put k3')
    ·simp only [aappendK]
     rw [if_pos hroom,if_neg hk,if_pos hok]
     simp only [Heap.write,hget,setCells,Nat.zero_add,if_pos hfit,Option.map_some,Option.bind_eq_bind,Option.bind_some]
    ·simp only [List.length_append,hlt,List.length_drop];omega
    ·rw [Nat.add_mul,←hlen,List.take_append,List.take_of_length_le (by rw [hlt];omega),hlt,Nat.add_sub_cancel_left,List.take_append,List.take_of_length_le (Nat.le_refl _)]
     simp
    ·refine okCells_append hovt (okCells_append hok ?_)
     simp only [okCells,List.all_eq_true] at hov ⊢
     exact fun x hx=>hov x (List.mem_of_mem_drop hx)
   ·have cnd2:0 < sz∧by_*(mm+kk)≤140737488355328∧mm+kk≤140737488355328∧okCells new=true:=⟨hsz',hb,hb',hok⟩
    rcases hg with rfl|rfl
    ·refine main (.slice (some ⟨H.next,0,none⟩) (mm+kk) (mm+kk)) (H.push (.cells (xs.take (mm*sz)++new) true sz)) [(H.next,.cells (xs.take (mm*sz)++new) true sz)] ?_ (fresh _ _ hovt hlt) ?_
     ·simp only [aappendK]
      rw [if_neg hroom,if_pos cnd2,hget]
      simp only [hall,Option.bind_eq_bind,Option.bind_some]
      rw [if_pos hovt,if_pos (by simp)]
     ·have:=(k3'.push (.cells (xs.take (mm*sz)++new) true sz))
      refine (St0.drop (σ:=[(b,.cells xs true 0)]) (this.perm ?_))
      exact List.Perm.swap _ _ _
    ·refine main (.slice (some ⟨H.next,0,none⟩) (mm+kk) (mm+kk)) ((H.put b none).push (.cells (xs.take (mm*g)++new) true g)) [(H.next,.cells (xs.take (mm*g)++new) true g)] ?_ (fresh _ _ hovt hlt) ?_
     ·simp only [aappendK]
      rw [if_neg hroom,if_pos cnd2,hget]
      simp only [hall,Option.bind_eq_bind,Option.bind_some]
      rw [if_pos hovt,if_neg (by rw [hl];omega),if_pos (by simp)]
     ·exact (St0.kill k3').push _
end
end Go.Ev
namespace Go.Ev
inductive TT where
 | nil
 | node (o:Option TI) (l r:TT)
def TT.get:TT→Nat→Option TI
 | .nil,_=>none
 | .node o l r,b=>bif Nat.beq b 0 then o else bif Nat.beq (Nat.mod b 2) 1 then l.get (Nat.div b 2) else r.get (Nat.sub (Nat.div b 2) 1)
def TT.All (T:Tab):TT→Nat→Nat→Prop
 | .nil,_,_=>True
 | .node o l r,p,s=>(o=none∨T p=o)∧l.All T (p+s) (2*s)∧r.All T (p+2*s) (2*s)
theorem TT.get_all {T:Tab}:∀ (t:TT) (p s:Nat),t.All T p s→∀ b i,t.get b=some i→T (p+s*b)=some i
 | .nil,p,s,h,b,i,e=>by cases e
 | .node o l r,p,s,h,b,i,e=>by
  obtain ⟨h0,hl,hr⟩:=h
  simp only [TT.get,cond_eq_ite,Nat.beq_eq] at e
  split at e
  ·rename_i hb
   rw [hb,Nat.mul_zero,Nat.add_zero]
   rcases h0 with h0|h0
   ·rw [h0] at e;cases e
   ·rw [h0,e]
  ·rename_i hb
   split at e
   ·rename_i h1
    have:=TT.get_all l _ _ hl _ _ e
    have h2:b=2*(b / 2)+1:=by have h1':b % 2=1:=h1;omega
    have e2:p+s*b=p+s+2*s*(b.div 2):=by
     show _=p+s+2*s*(b / 2)
     conv=>lhs;rw [h2]
     rw [Nat.mul_add,Nat.mul_one,←Nat.mul_assoc,Nat.mul_comm s 2];omega
    rw [e2];exact this
   ·rename_i h1
    have:=TT.get_all r _ _ hr _ _ e
    have h2:b=2*(b / 2 - 1)+2:=by have h1':¬ b % 2=1:=h1;omega
    have e2:p+s*b=p+2*s+2*s*((b.div 2).sub 1):=by
     show _=p+2*s+2*s*(b / 2 - 1)
     conv=>lhs;rw [h2]
     rw [Nat.mul_add,←Nat.mul_assoc,Nat.mul_comm s 2];omega
    rw [e2];exact this
theorem TT.ok {T:Tab} {t:TT} (h:t.All T 0 1):∀ b i,t.get b=some i→T b=some i:=fun b i e=>by
 have:=TT.get_all t 0 1 h b i e
 simpa using this
def fiOf (f:Func):Option FI:=match f.body with
 | some c=>some ⟨c,f.results.toList,f.ntmps⟩
 | none=>none
theorem Cz.fn {M:Mach} {Z:Zone} {A:List SA} {g:FuncId} {x y:Array Value} {args all:List Value} {Q:Value→Zone→List SA→Prop} {f:Func} {code:Code} {rs:List ResultVar} {nt:Nat} (hF:M.F g all.length=fiOf f) (hO:M.O g=none) (hf:fiOf f=some ⟨code,rs,nt⟩) (ha:x.toList++args++y.toList=all) (m:Nat) (hm:all.length+(nt - all.length)=m)
  (h:Wk M g none m (Qf M rs Q) [.c code] (enumL 0 all) Z A):Cz M (.func (.func g) x y) args Z A Q :=
 Cz.enter (hF.trans hf) hO ha (by rw [hm];exact h)
end Go.Ev
namespace Go.Ev
section
variable {M:Mach} {fn:FuncId} {rd:Option Nat} {n:Nat} {Q:PQ} {k:List KI} {L:Lo} {Z:Zone} {A:List SA}
end
section
variable {M:Mach} {L:Lo} {Z:Zone} {A:List SA}
theorem Rd.lenOl {x:Operand} {t e:TypeId} {sz' by_:Nat} {z:List Value} {cm:Bool} {ats:Array TypeId} {as:Array Operand} {sz m:Nat} {v:Value} {vs:List Value} {B:List SA} (p:Rem A (ol sz v m vs) B) (hx:evL L x=some v) (ha:as.toList=[x]) (ht:ats.toList=[t]) (hi:M.T t=some ⟨.slice e,sz',by_,z,cm⟩) :
  Rd M (.call ⟨.builtin .len,as,ats⟩) L Z A (.int .i64 m):=by
 intro env H φ h1 h2
 obtain ⟨s,u,q1,q2,q3⟩:=h2.rem p
 obtain ⟨a,c,rfl⟩:=ol.form q1
 exact Rd.len (M:=M) (L:=L) (Z:=Z) (A:=A) hx ha ht hi env H φ h1 h2
end
end Go.Ev
namespace Go.Ev
section
variable {M:Mach} {fn:FuncId} {rd:Option Nat} {n:Nat} {Q:PQ} {k:List KI} {L:Lo} {Z:Zone} {A:List SA}
variable {ops:Array Oper} {dr:Bool} {pl:List Ro} {ps:List Pn} {i m d:Nat} {ty:TypeId} {pos:String} {af:Array Edge} {g:Option (Nat×Bool)}
theorem pnd_no {op:Op} (h:isRead op=false) (v:Value):pnd dr i op L v ps=ps:=by simp [pnd,h]
theorem Wk.p {op:Op} {v:Value} (hr:isRead op=false) (hk:okind M.T op=.V) (h:Rd M op L Z A v) (hw:wantL ops L g=some true) (hd:Nat.blt d n=true)
  (c:Wk M fn rd n Q (.r ops dr pl ps::k) ((d,v)::L) Z A):Wk M fn rd n Q (.r ops dr (⟨i,m,⟨some d,op,ty,pos,af,g⟩⟩::pl) ps::k) L Z A :=
 Wk.v hw hk hd h (by rw [pnd_no hr];exact c)
theorem Wk.bin {op:BinOp} {t yt:TypeId} {x y:Operand} {a b v:Value} (hx:evL L x=some a) (hy:evL L y=some b) (hr:abin M.T op t x y a b=some v) (hw:wantL ops L g=some true) (hd:Nat.blt d n=true) (c:Wk M fn rd n Q (.r ops dr pl ps::k) ((d,v)::L) Z A) :
  Wk M fn rd n Q (.r ops dr (⟨i,m,⟨some d,.binOp op t x y yt,ty,pos,af,g⟩⟩::pl) ps::k) L Z A:=Wk.p rfl rfl (.bin hx hy hr) hw hd c
theorem Wk.add {t yt:TypeId} {x y:Operand} {a b:Int} (hx:evL L x=some (.int .i64 a)) (hy:evL L y=some (.int .i64 b)) (hr:-9223372036854775808≤a+b∧a+b≤9223372036854775807) (hw:wantL ops L g=some true) (hd:Nat.blt d n=true) (c:Wk M fn rd n Q (.r ops dr pl ps::k) ((d,.int .i64 (a+b))::L) Z A) :
  Wk M fn rd n Q (.r ops dr (⟨i,m,⟨some d,.binOp .add t x y yt,ty,pos,af,g⟩⟩::pl) ps::k) L Z A:=Wk.p rfl rfl (.add hx hy hr) hw hd c
theorem Wk.sub {t yt:TypeId} {x y:Operand} {a b:Int} (hx:evL L x=some (.int .i64 a)) (hy:evL L y=some (.int .i64 b)) (hr:-9223372036854775808≤a - b∧a - b≤9223372036854775807) (hw:wantL ops L g=some true) (hd:Nat.blt d n=true) (c:Wk M fn rd n Q (.r ops dr pl ps::k) ((d,.int .i64 (a - b))::L) Z A) :
  Wk M fn rd n Q (.r ops dr (⟨i,m,⟨some d,.binOp .sub t x y yt,ty,pos,af,g⟩⟩::pl) ps::k) L Z A:=Wk.p rfl rfl (.sub hx hy hr) hw hd c
theorem Wk.mul {t yt:TypeId} {x y:Operand} {a b:Int} (hx:evL L x=some (.int .i64 a)) (hy:evL L y=some (.int .i64 b)) (hr:-9223372036854775808≤a*b∧a*b≤9223372036854775807) (hw:wantL ops L g=some true) (hd:Nat.blt d n=true) (c:Wk M fn rd n Q (.r ops dr pl ps::k) ((d,.int .i64 (a*b))::L) Z A) :
  Wk M fn rd n Q (.r ops dr (⟨i,m,⟨some d,.binOp .mul t x y yt,ty,pos,af,g⟩⟩::pl) ps::k) L Z A:=Wk.p rfl rfl (.mul hx hy hr) hw hd c
theorem Wk.quo {t yt:TypeId} {x y:Operand} {a b:Int} (hx:evL L x=some (.int .i64 a)) (hy:evL L y=some (.int .i64 b)) (hr:0≤a∧a≤9223372036854775807∧1≤b) (hw:wantL ops L g=some true) (hd:Nat.blt d n=true) (c:Wk M fn rd n Q (.r ops dr pl ps::k) ((d,.int .i64 (a / b))::L) Z A) :
  Wk M fn rd n Q (.r ops dr (⟨i,m,⟨some d,.binOp .quo t x y yt,ty,pos,af,g⟩⟩::pl) ps::k) L Z A:=Wk.p rfl rfl (.quo hx hy hr.1 hr.2.1 hr.2.2) hw hd c
theorem Wk.rem {t yt:TypeId} {x y:Operand} {a b:Int} (hx:evL L x=some (.int .i64 a)) (hy:evL L y=some (.int .i64 b)) (hr:0≤a∧1≤b) (hw:wantL ops L g=some true) (hd:Nat.blt d n=true) (c:Wk M fn rd n Q (.r ops dr pl ps::k) ((d,.int .i64 (a % b))::L) Z A) :
  Wk M fn rd n Q (.r ops dr (⟨i,m,⟨some d,.binOp .rem t x y yt,ty,pos,af,g⟩⟩::pl) ps::k) L Z A:=Wk.p rfl rfl (.rem hx hy hr.1 hr.2) hw hd c
theorem Wk.field {s:TypeId} {x:Operand} {j:Nat} {fs:Array Field} {sz by_:Nat} {z:List Value} {cm:Bool} {f:Field} {i':TI} {cs:Array Value} {v:Value} (hi:M.T s=some ⟨.struct fs,sz,by_,z,cm⟩) (hf:fs[j]?=some f) (ht:M.T f.type=some i') (hx:evL L x=some (.agg cs)) (hv:Go.Ev.apart i' cs f.offset=some v)
  (hw:wantL ops L g=some true) (hd:Nat.blt d n=true) (c:Wk M fn rd n Q (.r ops dr pl ps::k) ((d,v)::L) Z A) :
  Wk M fn rd n Q (.r ops dr (⟨i,m,⟨some d,.field s x j,ty,pos,af,g⟩⟩::pl) ps::k) L Z A:=Wk.p rfl rfl (.field hi hf ht hx hv) hw hd c
theorem Wk.conv {s t:TypeId} {x:Operand} {q kk:IntKind} {i':TI} {sz by_:Nat} {z:List Value} {cm:Bool} {a a':Int} (hs:M.T s=some i') (ht:M.T t=some ⟨.int kk,sz,by_,z,cm⟩) (hx:evL L x=some (.int q a)) (ha:kk.wrap a=a') (hk:okind M.T (.convert s t x)=.V)
  (hw:wantL ops L g=some true) (hd:Nat.blt d n=true) (c:Wk M fn rd n Q (.r ops dr pl ps::k) ((d,.int kk a')::L) Z A) :
  Wk M fn rd n Q (.r ops dr (⟨i,m,⟨some d,.convert s t x,ty,pos,af,g⟩⟩::pl) ps::k) L Z A:=Wk.vp hw hk hd (fun env H h=>by have:=Rd.conv (M:=M) (Z:=fun _=>none) (A:=[]) hs ht hx ha;simp only [aval,apure,aconv,hs,ht,h.ev hx,Option.bind_eq_bind,Option.bind_some,ha]) (by simp [veq,veq1]) c
theorem Wk.len {x:Operand} {t e:TypeId} {sz by_:Nat} {z:List Value} {cm:Bool} {a:Option Addr} {mm cp:Nat} {ats:Array TypeId} {as:Array Operand} (hx:evL L x=some (.slice a mm cp)) (ha:as.toList=[x]) (ht:ats.toList=[t]) (hi:M.T t=some ⟨.slice e,sz,by_,z,cm⟩)
  (hw:wantL ops L g=some true) (hd:Nat.blt d n=true) (c:Wk M fn rd n Q (.r ops dr pl ps::k) ((d,.int .i64 mm)::L) Z A) :
  Wk M fn rd n Q (.r ops dr (⟨i,m,⟨some d,.call ⟨.builtin .len,as,ats⟩,ty,pos,af,g⟩⟩::pl) ps::k) L Z A:=Wk.vp hw rfl hd (fun env H h=>by simp only [aval,apure,ha,ht,pureBuiltin,hi,h.ev hx,Option.bind_eq_bind,Option.bind_some,goInt]) (by simp [veq,veq1]) c
theorem Wk.lenSl {x:Operand} {t e:TypeId} {sz' by_:Nat} {z:List Value} {cm:Bool} {sz:Nat} {v:Value} {mm:Nat} {vs:List Value} {ats:Array TypeId} {as:Array Operand} (hx:evL L x=some v) (h:Sl Z sz v mm vs) (ha:as.toList=[x]) (ht:ats.toList=[t]) (hi:M.T t=some ⟨.slice e,sz',by_,z,cm⟩)
  (hw:wantL ops L g=some true) (hd:Nat.blt d n=true) (c:Wk M fn rd n Q (.r ops dr pl ps::k) ((d,.int .i64 mm)::L) Z A) :
  Wk M fn rd n Q (.r ops dr (⟨i,m,⟨some d,.call ⟨.builtin .len,as,ats⟩,ty,pos,af,g⟩⟩::pl) ps::k) L Z A:=by
 obtain ⟨a,cp,rfl⟩:=h.form
 exact Wk.len hx ha ht hi hw hd c
theorem Wk.lenOl {x:Operand} {t e:TypeId} {sz' by_:Nat} {z:List Value} {cm:Bool} {sz:Nat} {v:Value} {mm:Nat} {vs:List Value} {B:List SA} {ats:Array TypeId} {as:Array Operand} (hx:evL L x=some v) (p:Rem A (ol sz v mm vs) B) (ha:as.toList=[x]) (ht:ats.toList=[t]) (hi:M.T t=some ⟨.slice e,sz',by_,z,cm⟩)
  (hw:wantL ops L g=some true) (hd:Nat.blt d n=true) (c:Wk M fn rd n Q (.r ops dr pl ps::k) ((d,.int .i64 mm)::L) Z A) :
  Wk M fn rd n Q (.r ops dr (⟨i,m,⟨some d,.call ⟨.builtin .len,as,ats⟩,ty,pos,af,g⟩⟩::pl) ps::k) L Z A:=by
 refine Wk.knowr p (fun s h=>ol.form h) ?_
 rintro ⟨a,cp,rfl⟩
 exact Wk.len hx ha ht hi hw hd c
theorem Wk.lenStr {x:Operand} {t:TypeId} {sz by_:Nat} {z:List Value} {cm:Bool} {s:ByteArray} {ats:Array TypeId} {as:Array Operand} (hx:evL L x=some (.string s)) (ha:as.toList=[x]) (ht:ats.toList=[t]) (hi:M.T t=some ⟨.string,sz,by_,z,cm⟩)
  (hw:wantL ops L g=some true) (hd:Nat.blt d n=true) (c:Wk M fn rd n Q (.r ops dr pl ps::k) ((d,.int .i64 s.size)::L) Z A) :
  Wk M fn rd n Q (.r ops dr (⟨i,m,⟨some d,.call ⟨.builtin .len,as,ats⟩,ty,pos,af,g⟩⟩::pl) ps::k) L Z A:=Wk.vp hw rfl hd (fun env H h=>by simp only [aval,apure,ha,ht,pureBuiltin,hi,h.ev hx,Option.bind_eq_bind,Option.bind_some,goInt]) (by simp [veq,veq1]) c
theorem Wk.loadL {t:TypeId} {x:Operand} {i':TI} {b off gg:Nat} {wr:Bool} {xs cs:List Value} {v:Value} (hi:M.T t=some i') (hx:evL L x=some (.pointer (some ⟨b,off,none⟩))) (hb:Has Z A b (.cells xs wr gg)) (hg:getL xs off (bif isAggD i'.d then i'.size else 1)=some cs) (ho:ofCells i' cs=some v)
  (hw:wantL ops L g=some true) (hd:Nat.blt d n=true) (c:Wk M fn rd n Q (.r ops dr pl (pnd dr i (.load t x) L v ps)::k) ((d,v)::L) Z A) :
  Wk M fn rd n Q (.r ops dr (⟨i,m,⟨some d,.load t x,ty,pos,af,g⟩⟩::pl) ps::k) L Z A:=Wk.v hw rfl hd (.loadL hi hx hb hg ho) c
theorem Wk.loadP0 {t:TypeId} {x:Operand} {i':TI} {b off:Nat} {xs cs:List Value} {v:Value} (hi:M.T t=some i') (hx:evL L x=some (.pointer (some ⟨b,off,none⟩))) (hb:Pz Z b off xs) (hg:getL xs 0 (bif isAggD i'.d then i'.size else 1)=some cs) (ho:ofCells i' cs=some v)
  (hw:wantL ops L g=some true) (hd:Nat.blt d n=true) (c:Wk M fn rd n Q (.r ops dr pl (pnd dr i (.load t x) L v ps)::k) ((d,v)::L) Z A) :
  Wk M fn rd n Q (.r ops dr (⟨i,m,⟨some d,.load t x,ty,pos,af,g⟩⟩::pl) ps::k) L Z A:=Wk.v hw rfl hd (.loadP (o:=0) hi hx hb hg ho) c
theorem Wk.min {x y:Operand} {q q':IntKind} {a b:Int} {ats:Array TypeId} {as:Array Operand} (hx:evL L x=some (.int q a)) (hy:evL L y=some (.int q' b)) (ha:as.toList=[x,y])
  (hw:wantL ops L g=some true) (hd:Nat.blt d n=true) (c:Wk M fn rd n Q (.r ops dr pl ps::k) ((d,.int q (if b < a then b else a))::L) Z A) :
  Wk M fn rd n Q (.r ops dr (⟨i,m,⟨some d,.call ⟨.builtin .min,as,ats⟩,ty,pos,af,g⟩⟩::pl) ps::k) L Z A:=Wk.vp hw rfl hd (fun env H h=>by simp only [aval,apure,ha,pureBuiltin,h.ev hx,h.ev hy,Option.bind_eq_bind,Option.bind_some]) (by simp [veq,veq1]) c
theorem Wk.max {x y:Operand} {q q':IntKind} {a b:Int} {ats:Array TypeId} {as:Array Operand} (hx:evL L x=some (.int q a)) (hy:evL L y=some (.int q' b)) (ha:as.toList=[x,y])
  (hw:wantL ops L g=some true) (hd:Nat.blt d n=true) (c:Wk M fn rd n Q (.r ops dr pl ps::k) ((d,.int q (if b > a then b else a))::L) Z A) :
  Wk M fn rd n Q (.r ops dr (⟨i,m,⟨some d,.call ⟨.builtin .max,as,ats⟩,ty,pos,af,g⟩⟩::pl) ps::k) L Z A:=Wk.vp hw rfl hd (fun env H h=>by simp only [aval,apure,ha,pureBuiltin,h.ev hx,h.ev hy,Option.bind_eq_bind,Option.bind_some]) (by simp [veq,veq1]) c
theorem Wk.call {f:Operand} {args:Array Operand} {tys:Array TypeId} {fv:Value} {as:List Value} {A1 A2:List SA} {Q1:Value→Zone→List SA→Prop} (hf:evL L f=some fv) (ha:evsL L args.toList=some as) (p:Spl A A1 A2) (spec:Cz M fv as Z A1 Q1) (hn:keepP m ps=[])
  (hw:wantL ops L g=some true) (hd:Nat.blt d n=true) (c:∀ v Z' A',Ext Z Z'→Q1 v Z' A'→Wk M fn rd n Q (.r ops dr pl []::k) ((d,v)::L) Z' (A'++A2)) :
  Wk M fn rd n Q (.r ops dr (⟨i,m,⟨some d,.call ⟨.value f,args,tys⟩,ty,pos,af,g⟩⟩::pl) ps::k) L Z A :=
 Wk.e hw rfl hd (Ef.call hf ha p spec fun v Z' A' hz hq=>⟨by rw [hn];exact PnAll.nil,by rw [hn];exact c v Z' A' hz hq⟩)
theorem Wk.append {t u e:TypeId} {s x:Operand} {as:Array Operand} {ats:Array TypeId} {v w:Value} {tz tb sz by_ mm kk:Nat} {tzz z:List Value} {tc cm:Bool} {de:TypeDesc} {iu:TI} {vs new:List Value} {B:List SA}
  (ha:as.toList=[s,x]) (hat:ats.toList=[t,u]) (ht:M.T t=some ⟨.slice e,tz,tb,tzz,tc⟩) (hu:M.T u=some iu) (hnI:notInt iu.d=true) (he:M.T e=some ⟨de,sz,by_,z,cm⟩)
  (hs:evL L s=some v) (hx:evL L x=some w) (p:Rem A (ol sz v mm vs) B) (src:Src Z B sz w kk new) (hsz:Nat.blt 0 sz=true) (hok:okCells new=true) (hlen:new.length=kk*sz) (hb:by_*(mm+kk)≤140737488355328) (hb':mm+kk≤140737488355328) (hn:keepP m ps=[])
  (hw:wantL ops L g=some true) (hd:Nat.blt d n=true) (c:∀ v',Wk M fn rd n Q (.r ops dr pl []::k) ((d,v')::L) Z (ol sz v' (mm+kk) (vs++new)::B)) :
  Wk M fn rd n Q (.r ops dr (⟨i,m,⟨some d,.call ⟨.builtin .append,as,ats⟩,ty,pos,af,g⟩⟩::pl) ps::k) L Z A :=
 Wk.e hw rfl hd (Ef.append ha hat ht hu hnI he hs hx p src hsz hok hlen hb hb' fun v'=>⟨by rw [hn];exact PnAll.nil,by rw [hn];exact c v'⟩)
theorem Wk.store {t:TypeId} {a x:Operand} {b off gg:Nat} {v:Value} {de:TypeDesc} {sz by_:Nat} {z:List Value} {cm:Bool} {vs vs':List Value} {B:List SA} (hi:M.T t=some ⟨de,sz,by_,z,cm⟩) (ha:evL L a=some (.pointer (some ⟨b,off,none⟩))) (hx:evL L x=some v)
  (hs:Nat.beq (cellsL v).length sz=true) (hok:okCells (cellsL v)=true) (hu:Upd A (pt b (.cells vs true gg)) (pt b (.cells vs' true gg)) B) (hc:putAt vs off (cellsL v)=some vs') (hn:keepP m ps=[])
  (hw:wantL ops L g=some true) (c:Wk M fn rd n Q (.r ops dr pl []::k) L Z B) :
  Wk M fn rd n Q (.r ops dr (⟨i,m,⟨none,.store t a x,ty,pos,af,g⟩⟩::pl) ps::k) L Z A :=
 Wk.e0 hw rfl (Ef.store hi ha hx (by rw [cellsL_size];exact hs) (by rw [cellsL_eq];exact hok) hu (by rw [cellsL_eq,←putAt_eq];exact hc) ⟨by rw [hn];exact PnAll.nil,by rw [hn];exact c⟩)
end
end Go.Ev
namespace Go.Ev
def Kp (L:Lo):Lo→Prop
 | []=>True
 | (t,v)::r=>lk L t=some v∧Kp L r
theorem Kp.all {L:Lo}:∀ {L':Lo},Kp L L'→∀ p∈L',lk L p.1=some p.2
 | [],h,p,hp=>by cases hp
 | (t,v)::r,h,p,hp=>by
  rcases List.mem_cons.1 hp with rfl|hp
  ·exact h.1
  ·exact Kp.all h.2 p hp
section
variable {M:Mach} {fn:FuncId} {rd:Option Nat} {n:Nat} {Q:PQ} {k:List KI} {L:Lo} {Z:Zone} {A:List SA}
variable {ops:Array Oper} {dr:Bool} {pl:List Ro} {ps:List Pn}
theorem Wk.kp {c:Code} {L':Lo} (h:Kp L L') (g:Wk M fn rd n Q (.c c::k) L' Z A):Wk M fn rd n Q (.c c::k) L Z A:=Wk.keep L' h.all (Sub.refl _) g
end
theorem All2.getElem {α β:Type} {R:α→β→Prop} {x:List α} {y:List β} (h:All2 R x y) {i:Nat} (hi:i < y.length):∃ a,x[i]?=some a∧R a y[i]:=by
 have hx:i < x.length:=by rw [h.length];exact hi
 obtain ⟨b,e,r⟩:=h.get i x[i] (by simp [hx])
 rw [List.getElem?_eq_getElem hi] at e
 cases e
 exact ⟨x[i],by simp [hx],r⟩
theorem All2.mono {α β:Type} {R S:α→β→Prop} {x:List α} {y:List β} (h:All2 R x y) (k:∀ a b,R a b→S a b):All2 S x y:=h.imp k
theorem All2.snoc {α β:Type} {R:α→β→Prop} {x:List α} {y:List β} {a:α} {b:β} (h:All2 R x y) (r:R a b):All2 R (x++[a]) (y++[b]):=h.append (.cons r .nil)
theorem asNatI {q:IntKind} {n:Int} {k:Nat} (h:n=(k:Int)):asNat (some (.int q n))=some (some k):=by
 subst h
 simp [asNat]
end Go.Ev
namespace Go.Ev
theorem ol.some {sz:Nat} {v:Value} {m:Nat} {vs:List Value} {Z:Zone} {s:List Cel} (h:(ol sz v m vs).p Z s) (hm:0 < m):∃ b c,v=.slice (some b) m c:=by
 rcases h with ⟨rfl,rfl,rfl,_⟩|⟨_,_,_,_,_,rfl,_,_,_,_,rfl,rfl,_⟩|⟨b,g,c,xs,rfl,h,_⟩
 ·omega
 ·omega
 ·exact ⟨_,_,rfl⟩
section
variable {M:Mach} {L:Lo} {Z:Zone} {A:List SA}
end
end Go.Ev
namespace Go.Ev
theorem calls_of_Cz {P:Program} {M:Mach} (tok:TabOK P M.T) (fok:FOK P M.F) (hmix:P.follows .mixedOrders=true) (hO:OOK M.T M.F M.O) {g:FuncId} {args cargs:List Value} {Z:Zone} {Q:Value→Zone→List SA→Prop}
  (h:Cz M (.func (.func g) #[] #[]) args Z [] Q) (hg:M.O g=none) {ρ:Ren} {H:Heap} {w:World} (R:Rel ρ H w) (st:St H Z [] []) (own:∀ i,¬ Own ρ H i) (ra:LRel ρ args cargs) :
  Calls P g cargs.toArray w fun e w'=>∃ v cv ρ' Z' A',e=.returned cv∧VRel ρ' v cv∧RowKit.Below w.heap.size w w'∧Q v Z' A':=by
 obtain ⟨n,v,H',Z',A',h1,h2,h3,h4⟩:=h H [] st
 cases n with
 | zero=>cases h1
 | succ n =>
  simp only [Mach.C,evalO,hg] at h1
  have hf:callFn M.T M.F (evalO M.T M.F M.O n) n g args H=some (v,H'):=by simpa using h1
  intro cs
  obtain ⟨ρ',w',cv,⟨fr,p1,p2,p3⟩,c2,c3,c4⟩:=callFn_steps tok fok (evalO_sound tok fok hmix hO n) hmix hf ra R cs
  exact ⟨.returned cv,w',fr,⟨v,cv,ρ',Z',A',rfl,c2,c3.below own,h4⟩,p1,p2,p3⟩
def oneRen (l:Loc):Ren:=fun b=>if b=0 then some l else none
def oneHeap (o:AObj):Heap:=Heap.empty.push o
theorem oneHeap_get (o:AObj) (b:Nat):(oneHeap o).get b=if b=0 then some o else none:=by
 unfold oneHeap
 rw [Heap.get_push]
 rfl
theorem St.zone (H:Heap) (hw:∀ b,H.next≤b→H.get b=none):St H H.get [] [] :=
 ⟨[],.nil,{ wf:=hw,sub:=fun _ _ h=>h,own:=by intro p hp;simp at hp,sep:=by intro p hp;simp at hp,nodup:=by simp }⟩
theorem Rel.row {W:World} {cb off:Nat} {C:Array Value} {et:TypeId} {fz:Nat×Nat} {k:IntKind} {zs:List Int} (hC:W.heap[cb]?=some (.cells C et fz)) (hs:off+zs.length≤C.size) (hv:∀ i,i < zs.length→C[off+i]?=some (.int k (zs.getD i 0))) :
  Rel (oneRen ⟨cb,off,zs.length,zs.length,0⟩) (oneHeap (.cells (zs.map (.int k)) false 0)) W:=by
 have hget:=oneHeap_get (.cells (zs.map (.int k)) false 0)
 refine ⟨fun b hb=>?_,fun b l hl=>?_,fun b l hl=>?_,fun b l o hl ho=>?_,fun b b' l l' o o' hne h1 h2 h3 h4=>?_⟩
 ·rw [hget,if_neg (by have:(oneHeap (.cells (zs.map (.int k)) false 0)).next=1:=rfl;omega)]
 ·simp only [oneRen] at hl;split at hl
  ·subst_vars;exact Nat.zero_lt_one
  ·cases hl
 ·simp only [oneRen] at hl;split at hl
  ·cases hl;exact lt_of_get hC
  ·cases hl
 ·simp only [oneRen] at hl;split at hl
  ·rename_i e
   cases hl
   rw [hget,if_pos e] at ho
   cases ho
   refine ⟨by simp,rfl,Nat.le_refl _,C,et,fz,hC,hs,fun i v hi=>?_,fun h=>by cases h⟩
   have hlt:i < zs.length:=by have:=List.getElem?_eq_some_iff.1 hi;simpa using this.1
   refine ⟨_,hv i hlt,?_⟩
   simp only [List.getElem?_map,List.getElem?_eq_getElem hlt,Option.map_some,Option.some.injEq] at hi
   subst hi
   have:zs.getD i 0=zs[i]:=by simp [List.getD_eq_getElem?_getD,hlt]
   rw [this]
   exact .int _ _
  ·cases hl
 ·simp only [oneRen] at h1 h2
  split at h1
  ·split at h2
   ·subst_vars;exact absurd rfl hne
   ·cases h2
  ·cases h1
end Go.Ev
