/- RV -/
import Derived.Test.YtegbiibfmabnbaaGreatRJ
import Derived.Test.YtegbiibfmabnbaaGreatPL
set_option linter.unusedVariables false
set_option linter.unusedSimpArgs false
set_option maxHeartbeats 4000000
set_option maxRecDepth 100000
namespace Go.Proofs.J
open Go.Ev Go
structure Wo where
 sz:Int
 rm:Int
 ac:List Int
 th:List Int
structure Wo.In (w:Wo):Prop where
 sz:0≤w.sz∧w.sz≤255
 rm:0≤w.rm∧w.rm≤255
 ac:∀ x∈w.ac,0≤x∧x≤255
 th:∀ x∈w.th,0≤x∧x≤255
def WoR (Z:Zone) (cs:List Value) (w:Wo):Prop:=∃ v1 v2,cs=[.int .u8 w.sz,.int .u8 w.rm,v1,v2]∧Sl Z 1 v1 w.ac.length (by8 w.ac)∧Sl Z 1 v2 w.th.length (by8 w.th)
theorem WoR.mono {Z Z':Zone} {cs:List Value} {w:Wo} (e:Ext Z Z') (h:WoR Z cs w):WoR Z' cs w:=let ⟨a,b,h1,h2,h3⟩:=h;⟨a,b,h1,h2.mono e,h3.mono e⟩
def acts:Nat→List Int→List Act
 | _,[]=>[]
 | i,b::r=>(if b % 5 < 3 then ⟨true,i+1⟩ else ⟨false,0⟩)::acts (i+1) r
def Wo.dq (w:Wo) (f:Bool) (a t s:Nat):Dq:=⟨w.sz % 4+1,w.rm % 8+1,f,acts 0 (w.ac.take a),(w.th.take t).map fun b=>b % ((s:Int)+1)⟩
theorem acts_snoc:∀ (i:Nat) (l:List Int) (b:Int),acts i (l++[b])=acts i l++[if b % 5 < 3 then ⟨true,(i:Int)+l.length+1⟩ else ⟨false,0⟩]
 | i,[],b=>by simp [acts]
 | i,c::l,b=>by
  rw [List.cons_append,acts,acts,acts_snoc (i+1) l b,List.cons_append]
  have e:((i+1:Nat):Int)+l.length+1=(i:Int)+(c::l).length+1:=by simp only [List.length_cons];omega
  rw [e]
theorem acts_len:∀ (i:Nat) (l:List Int),(acts i l).length=l.length
 | _,[]=>rfl
 | i,b::l=>by rw [acts,List.length_cons,acts_len (i+1) l,List.length_cons]
theorem workDeque {Z:Zone} {cs:List Value} {w:Wo} (h:WoR Z cs w) (k:w.In) {f:Bool} {a t s:Nat} (ha:a≤1000) (ht:t≤1000) (hs:s≤1000) :
  Cz M (.func (.func 34) #[] #[]) [.agg ⟨cs⟩,.bool f,.int .i64 a,.int .i64 t,.int .i64 s] Z [] (fun v' Z' A'=>(∃ cs',v'=.agg ⟨cs'⟩∧DqR Z' cs' (w.dq f a t s))∧A'=[]):=by
 obtain ⟨v1,v2,rfl,s1,s2⟩:=h
 obtain ⟨a1,c1,rfl⟩:=s1.form
 obtain ⟨a2,c2,rfl⟩:=s2.form
 refine Cz.fn (f:=Tryz.f34) (by kernel_rfl) rfl rfl rfl _ rfl ?_
 repeat first|refine go ?_|with_reducible intro _
 have k1:=k.sz
 have k2:=k.rm
 refine Wk.conv rfl rfl rfl (Go.Ev.wrap_small (by omega) (by omega)) rfl rfl rfl ?_
 repeat first|refine go ?_|with_reducible intro _
 refine Wk.conv rfl rfl rfl (Go.Ev.wrap_small (by omega) (by omega)) rfl rfl rfl ?_
 repeat first|refine go ?_|with_reducible intro _
 rename_i b5 b10 b11
 refine Wk.olNil 2 ?_
 refine Wk.loop (fun mm L Z' A'=>∃ (j:Nat) (vo:Value),j≤w.ac.length∧j≤a∧mm=w.ac.length - j∧Z=Z'∧A'=[ol 2 vo j ((acts 0 (w.ac.take j)).flatMap actC),pt b11 (.cells [.int .i64 (w.sz % 4+1),.int .i64 (w.rm % 8+1),.bool f,vo,.slice none 0 0] true 0),pt b10 (.cells [.int .i64 0,.int .i64 0,.bool false,.slice none 0 0,.slice none 0 0] true 0),pt b5 (.cells [.int .u8 w.sz,.int .u8 w.rm,.slice a1 w.ac.length c1,.slice a2 w.th.length c2] true 0)]∧Kp L [(2,.int .i64 a),(3,.int .i64 t),(4,.int .i64 s),(5,.pointer (some ⟨b5,0,none⟩)),(10,.pointer (some ⟨b10,0,none⟩)),(11,.pointer (some ⟨b11,0,none⟩)),(12,.int .i64 j)]) w.ac.length ⟨0,.slice none 0 0,Nat.zero_le _,Nat.zero_le _,rfl,rfl,rfl,(by repeat (first|exact trivial|refine And.intro rfl ?_|refine And.intro (kpI rfl (by omega)) ?_))⟩ ?_
 rintro mm L Z1 A' - ⟨j,vo,hj,hja,rfl,rfl,rfl,hk⟩
 refine Wk.kp hk ?_
 clear hk
 refine Wk.know .head (fun s h=>ol.form (v:=vo) h) ?_
 rintro ⟨ao,co,rfl⟩
 repeat first|refine go ?_|with_reducible intro _
 first|refine Wk.cut (fun L Z' A'=>Z=Z'∧Sub A' [ol 2 (.slice ao j co) j ((acts 0 (w.ac.take j)).flatMap actC),pt b11 (.cells [.int .i64 (w.sz % 4+1),.int .i64 (w.rm % 8+1),.bool f,.slice ao j co,.slice none 0 0] true 0),pt b10 (.cells [.int .i64 0,.int .i64 0,.bool false,.slice none 0 0,.slice none 0 0] true 0),pt b5 (.cells [.int .u8 w.sz,.int .u8 w.rm,.slice a1 w.ac.length c1,.slice a2 w.th.length c2] true 0)]∧Kp L [(36,.bool (decide (j < w.ac.length∧j < a))),(2,.int .i64 a),(3,.int .i64 t),(4,.int .i64 s),(5,.pointer (some ⟨b5,0,none⟩)),(10,.pointer (some ⟨b10,0,none⟩)),(11,.pointer (some ⟨b11,0,none⟩)),(12,.int .i64 j)]) ?_ ?_|refine Wk.cutr (fun L Z' A'=>Z=Z'∧Sub A' [ol 2 (.slice ao j co) j ((acts 0 (w.ac.take j)).flatMap actC),pt b11 (.cells [.int .i64 (w.sz % 4+1),.int .i64 (w.rm % 8+1),.bool f,.slice ao j co,.slice none 0 0] true 0),pt b10 (.cells [.int .i64 0,.int .i64 0,.bool false,.slice none 0 0,.slice none 0 0] true 0),pt b5 (.cells [.int .u8 w.sz,.int .u8 w.rm,.slice a1 w.ac.length c1,.slice a2 w.th.length c2] true 0)]∧Kp L [(36,.bool (decide (j < w.ac.length∧j < a))),(2,.int .i64 a),(3,.int .i64 t),(4,.int .i64 s),(5,.pointer (some ⟨b5,0,none⟩)),(10,.pointer (some ⟨b10,0,none⟩)),(11,.pointer (some ⟨b11,0,none⟩)),(12,.int .i64 j)]) ?_ ?_
 ·refine Wk.caser 32 rfl (fun hc=>?_) (fun hc=>?_)
  ·repeat first|refine go ?_|with_reducible intro _
   refine Wk.inv ⟨rfl,(by repeat (first|exact Sub.none _|exact Sub.refl _|refine Sub.keep ?_|refine Sub.drop ?_)),⟨eqBp (by simp at hc ⊢;omega),rfl,rfl,rfl,rfl,rfl,rfl,rfl,trivial⟩⟩
  ·repeat first|refine go ?_|with_reducible intro _
   refine Wk.inv ⟨rfl,(by repeat (first|exact Sub.none _|exact Sub.refl _|refine Sub.keep ?_|refine Sub.drop ?_)),⟨eqBp (by simp at hc ⊢;omega),rfl,rfl,rfl,rfl,rfl,rfl,rfl,trivial⟩⟩
 rintro L Z' A' - ⟨rfl,hsub,hk⟩
 refine Wk.drop hsub ?_
 refine Wk.kp hk ?_
 clear hk hsub
 repeat first|refine go ?_|with_reducible intro _
 refine Wk.cond rfl (fun hc=>?_) (fun hc=>?_)
 ·have hlt:j < w.ac.length:=by simp at hc;omega
  have hla:j < a:=by simp at hc;omega
  clear hc
  have hw:=k.ac _ (List.getElem_mem hlt)
  have gb:getCells (by8 w.ac) (j*1) 1=some [.int .u8 w.ac[j]]:=getCells_map hlt
  have hl5:(w.ac.take j).length=j:=by rw [List.length_take];omega
  repeat first|refine go ?_|with_reducible intro _
  refine Wk.bin (v:=.int .u8 (w.ac[j] % 5)) rfl rfl (by simp [abin,intBin,Int.tmod_eq_emod_of_nonneg hw.1]) rfl rfl ?_
  repeat first|refine go ?_|with_reducible intro _
  refine Wk.cond rfl (fun hc=>?_) (fun hc=>?_)
  ·have hq:w.ac[j] % 5 < 3:=by simpa using hc
   have hact:(acts 0 (w.ac.take (j+1))).flatMap actC=(acts 0 (w.ac.take j)).flatMap actC++[.bool true,.int .i64 ((j:Int)+1)]:=by
    rw [List.take_succ_eq_append_getElem hlt,acts_snoc,hl5,if_pos hq,List.flatMap_append]
    simp [actC]
   clear hc
   repeat first|refine go ?_|with_reducible intro _
   refine Wk.bs (cs:=[.bool true,.int .i64 ((j:Int)+1)]) rfl rfl rfl rfl rfl rfl rfl fun b53=>?_
   refine Wk.append (kk:=1) (new:=[.bool true,.int .i64 ((j:Int)+1)]) rfl rfl rfl rfl rfl rfl rfl rfl (by repeat (first|exact Rem.head|apply Rem.tail)) (Src.lit (by first|exact Or.inl (by assumption)|(refine Or.inr ?_;repeat (first|exact List.Mem.head _|refine List.Mem.tail _ ?_))) rfl) rfl rfl rfl (by omega) (by omega) rfl rfl rfl fun v54=>?_
   refine Wk.dropr (.keep (.drop (.drop (Sub.refl _)))) ?_
   refine Wk.knowr .head (fun s h=>ol.form (v:=v54) h) ?_
   rintro ⟨a54,c54,rfl⟩
   repeat first|refine go ?_|with_reducible intro _
   refine Wk.inv ⟨_,by omega,j+1,.slice a54 (j+1) c54,by omega,by omega,rfl,rfl,by rw [hact],(by repeat (first|exact trivial|refine And.intro rfl ?_|refine And.intro (kpI rfl (by omega)) ?_))⟩
  ·have hq:¬ w.ac[j] % 5 < 3:=by simpa using hc
   have hact:(acts 0 (w.ac.take (j+1))).flatMap actC=(acts 0 (w.ac.take j)).flatMap actC++[.bool false,.int .i64 0]:=by
    rw [List.take_succ_eq_append_getElem hlt,acts_snoc,hl5,if_neg hq,List.flatMap_append]
    simp [actC]
   clear hc
   repeat first|refine go ?_|with_reducible intro _
   refine Wk.bs (cs:=[.bool false,.int .i64 0]) rfl rfl rfl rfl rfl rfl rfl fun b53=>?_
   refine Wk.append (kk:=1) (new:=[.bool false,.int .i64 0]) rfl rfl rfl rfl rfl rfl rfl rfl (by repeat (first|exact Rem.head|apply Rem.tail)) (Src.lit (by first|exact Or.inl (by assumption)|(refine Or.inr ?_;repeat (first|exact List.Mem.head _|refine List.Mem.tail _ ?_))) rfl) rfl rfl rfl (by omega) (by omega) rfl rfl rfl fun v54=>?_
   refine Wk.dropr (.keep (.drop (.drop (Sub.refl _)))) ?_
   refine Wk.knowr .head (fun s h=>ol.form (v:=v54) h) ?_
   rintro ⟨a54,c54,rfl⟩
   repeat first|refine go ?_|with_reducible intro _
   refine Wk.inv ⟨_,by omega,j+1,.slice a54 (j+1) c54,by omega,by omega,rfl,rfl,by rw [hact],(by repeat (first|exact trivial|refine And.intro rfl ?_|refine And.intro (kpI rfl (by omega)) ?_))⟩
 have hje:w.ac.take j=w.ac.take a:=by
  have:j=w.ac.length∨j=a:=by simp at hc;omega
  rcases this with q|q
  ·rw [q,List.take_length,List.take_of_length_le (by omega)]
  ·rw [q]
 have hjl:j=(w.ac.take a).length:=by rw [←hje,List.length_take];omega
 clear hc
 rw [hje]
 first|apply Wk.olFreezer (v:=(.slice ao j co))|apply Wk.olFreeze (v:=(.slice ao j co))
 case p=>repeat (first|exact Rem.head|apply Rem.tail)
 intro Z1 x1 ho
 replace s2:=s2.mono x1
 repeat first|refine go ?_|with_reducible intro _
 refine Wk.olNil 1 ?_
 refine Wk.loop (fun mm L Z' A'=>∃ (i:Nat) (vt:Value),i≤w.th.length∧i≤t∧mm=w.th.length - i∧Z1=Z'∧A'=[ol 1 vt i (nums ((w.th.take i).map fun b=>b % ((s:Int)+1))),pt b11 (.cells [.int .i64 (w.sz % 4+1),.int .i64 (w.rm % 8+1),.bool f,.slice ao j co,vt] true 0),pt b10 (.cells [.int .i64 0,.int .i64 0,.bool false,.slice none 0 0,.slice none 0 0] true 0),pt b5 (.cells [.int .u8 w.sz,.int .u8 w.rm,.slice a1 w.ac.length c1,.slice a2 w.th.length c2] true 0)]∧Kp L [(3,.int .i64 t),(4,.int .i64 s),(5,.pointer (some ⟨b5,0,none⟩)),(10,.pointer (some ⟨b10,0,none⟩)),(11,.pointer (some ⟨b11,0,none⟩)),(14,.int .i64 i)]) w.th.length ⟨0,.slice none 0 0,Nat.zero_le _,Nat.zero_le _,rfl,rfl,rfl,(by repeat (first|exact trivial|refine And.intro rfl ?_|refine And.intro (kpI rfl (by omega)) ?_))⟩ ?_
 rintro mm L Z' A' - ⟨i,vt,hi,hit,rfl,rfl,rfl,hk⟩
 refine Wk.kp hk ?_
 clear hk
 refine Wk.know .head (fun s h=>ol.form (v:=vt) h) ?_
 rintro ⟨at_,ct,rfl⟩
 repeat first|refine go ?_|with_reducible intro _
 refine Wk.cutr (fun L Z' A'=>Z1=Z'∧Sub A' [ol 1 (.slice at_ i ct) i (nums ((w.th.take i).map fun b=>b % ((s:Int)+1))),pt b11 (.cells [.int .i64 (w.sz % 4+1),.int .i64 (w.rm % 8+1),.bool f,.slice ao j co,.slice at_ i ct] true 0),pt b10 (.cells [.int .i64 0,.int .i64 0,.bool false,.slice none 0 0,.slice none 0 0] true 0),pt b5 (.cells [.int .u8 w.sz,.int .u8 w.rm,.slice a1 w.ac.length c1,.slice a2 w.th.length c2] true 0)]∧Kp L [(65,.bool (decide (i < w.th.length∧i < t))),(3,.int .i64 t),(4,.int .i64 s),(5,.pointer (some ⟨b5,0,none⟩)),(10,.pointer (some ⟨b10,0,none⟩)),(11,.pointer (some ⟨b11,0,none⟩)),(14,.int .i64 i)]) ?_ ?_
 ·refine Wk.caser 61 rfl (fun hc=>?_) (fun hc=>?_)
  ·repeat first|refine go ?_|with_reducible intro _
   refine Wk.inv ⟨rfl,(by repeat (first|exact Sub.none _|exact Sub.refl _|refine Sub.keep ?_|refine Sub.drop ?_)),⟨eqBp (by simp at hc ⊢;omega),rfl,rfl,rfl,rfl,rfl,rfl,trivial⟩⟩
  ·repeat first|refine go ?_|with_reducible intro _
   refine Wk.inv ⟨rfl,(by repeat (first|exact Sub.none _|exact Sub.refl _|refine Sub.keep ?_|refine Sub.drop ?_)),⟨eqBp (by simp at hc ⊢;omega),rfl,rfl,rfl,rfl,rfl,rfl,trivial⟩⟩
 rintro L Z' A' - ⟨rfl,hsub,hk⟩
 refine Wk.drop hsub ?_
 refine Wk.kp hk ?_
 clear hk hsub
 repeat first|refine go ?_|with_reducible intro _
 refine Wk.cond rfl (fun hc=>?_) (fun hc=>?_)
 ·have hlt:i < w.th.length:=by simp at hc;omega
  have hla:i < t:=by simp at hc;omega
  clear hc
  have hw:=k.th _ (List.getElem_mem hlt)
  have gb:getCells (by8 w.th) (i*1) 1=some [.int .u8 w.th[i]]:=getCells_map hlt
  have hnew:nums ((w.th.take (i+1)).map fun b=>b % ((s:Int)+1))=nums ((w.th.take i).map fun b=>b % ((s:Int)+1))++[.int .i64 (w.th[i] % ((s:Int)+1))]:=by rw [List.take_succ_eq_append_getElem hlt,List.map_append,nums_append];rfl
  repeat first|refine go ?_|with_reducible intro _
  refine Wk.drawr (ms:=[0,1,0,4,0,28,60,124,0,256,1020,2044,4095,8191,16383]) (l:=[0,1,2,3,4,5,6,7,8,9,10,11,12,13,14]) (by kernel_rfl) (by kernel_rfl) (by kernel_rfl) rfl ?_
  repeat first|refine go ?_|with_reducible intro _
  refine Wk.conv rfl rfl rfl (Go.Ev.wrap_small (by omega) (by omega)) rfl rfl rfl ?_
  repeat first|refine go ?_|with_reducible intro _
  refine Wk.bs (cs:=[.int .i64 (w.th[i] % ((s:Int)+1))]) rfl rfl rfl rfl rfl rfl rfl fun b79=>?_
  refine Wk.appendD (kk:=1) (new:=[.int .i64 (w.th[i] % ((s:Int)+1))]) rfl rfl rfl rfl rfl rfl rfl rfl (.tail .head) (Src.lit (by first|exact Or.inl (by assumption)|(refine Or.inr ?_;repeat (first|exact List.Mem.head _|refine List.Mem.tail _ ?_))) rfl) rfl rfl rfl (by omega) (by omega) rfl rfl fun v80=>⟨?_,?_⟩
  ·(repeat (first|exact PnAll.done|refine PnAll.two ?_|refine PnAll.skip rfl ?_|refine PnAll.keep (Rd.loadL rfl rfl (by first|exact Or.inl (by assumption)|(refine Or.inr ?_;repeat (first|exact List.Mem.head _|refine List.Mem.tail _ ?_))) rfl rfl) (by first|exact veq_slice _ _ _|exact veq_int _ _|exact Sl.veq (by assumption)|simp [veq,veqL,veq1,ba_self]) ?_|refine PnAll.keep (by apply Rd.loadP (o:=0);exact rfl;exact rfl;(first|assumption|(refine Pz.mono ?_ (by assumption);assumption));exact rfl;exact rfl) (by first|exact veq_slice _ _ _|exact veq_int _ _|exact Sl.veq (by assumption)|simp [veq,veqL,veq1,ba_self]) ?_))
  refine Wk.dropr (.keep (.drop (Sub.refl _))) ?_
  refine Wk.knowr .head (fun s h=>ol.form (v:=v80) h) ?_
  rintro ⟨a80,c80,rfl⟩
  repeat first|refine go ?_|with_reducible intro _
  refine Wk.store rfl rfl rfl rfl rfl (by repeat (first|exact Upd.head|apply Upd.tail)) rfl (by kernel_rfl) rfl ?_
  repeat first|refine go ?_|with_reducible intro _
  refine Wk.inv ⟨_,by omega,i+1,.slice a80 (i+1) c80,by omega,by omega,rfl,rfl,by rw [hnew],(by repeat (first|exact trivial|refine And.intro rfl ?_|refine And.intro (kpI rfl (by omega)) ?_))⟩
 have hie:w.th.take i=w.th.take t:=by
  have:i=w.th.length∨i=t:=by simp at hc;omega
  rcases this with q|q
  ·rw [q,List.take_length,List.take_of_length_le (by omega)]
  ·rw [q]
 have hil:i=(w.th.take t).length:=by rw [←hie,List.length_take];omega
 clear hc
 rw [hie]
 first|apply Wk.olFreezer (v:=(.slice at_ i ct))|apply Wk.olFreeze (v:=(.slice at_ i ct))
 case p=>repeat (first|exact Rem.head|apply Rem.tail)
 intro Z2 x2 htt
 repeat first|refine go ?_|with_reducible intro _
 refine Wk.ret ⟨_,Rs.cell rfl rfl (by first|exact Or.inl (by assumption)|(refine Or.inr ?_;repeat (first|exact List.Mem.head _|refine List.Mem.tail _ ?_))) rfl rfl Rs.nil,_,Sub.none _,⟨_,rfl,_,_,rfl,?_,?_⟩,rfl⟩
 ·have e:(w.dq f a t s).owner.length=j:=by show (acts 0 (w.ac.take a)).length=j;rw [acts_len,←hjl]
  rw [e]
  exact ho.mono x2
 ·have e:(w.dq f a t s).thieves.length=i:=by show ((w.th.take t).map _).length=i;rw [List.length_map,←hil]
  rw [e]
  exact htt
end Go.Proofs.J
namespace Go.Proofs.J
open Go.Ev Go
theorem ordF_len:∀ (bs:List Nat) (left:List Int),(ordF bs left).length≤bs.length
 | [],left=>by simp [ordF]
 | b::r,left=>by
  rw [ordF]
  split
  ·have:=ordF_len r (left.set (b % left.length) (left.getD (b % left.length) 0 - 1))
   simp only [List.length_cons];omega
  ·have:=ordF_len r left
   simp only [List.length_cons];omega
def by20 (bs:List Int):List Nat:=(bs.take 20).map Int.toNat
theorem order_ {Z:Zone} {cs:List Value} {vb:Value} {d:Dq} {bs:List Int} (h:DqR Z cs d) (sb:Sl Z 1 vb bs.length (by8 bs)) (hb:∀ x∈bs,0≤x∧x≤255) (hd:d.Ok) :
  Cz M (.func (.func 38) #[] #[]) [.agg ⟨cs⟩,vb] Z [] (fun v' Z' A'=>Sl Z' 1 v' (ordD d (by20 bs)).length (nums (ordD d (by20 bs)))∧A'=[]):=by
 obtain ⟨p1,p2,p3,p4,rfl,so,st⟩:=h.form
 obtain ⟨ab,cb,rfl⟩:=sb.form
 have l1:=hd.lim.1
 have l2:=hd.lim.2.1
 have l3:=hd.lim.2.2
 have g4:=hd.rng.2.2.2
 clear h
 refine Cz.fn (f:=Tryz.f38) (by kernel_rfl) rfl rfl rfl _ rfl ?_
 repeat first|refine go ?_|with_reducible intro _
 refine Wk.bs (cs:=[.int .i64 d.owner.length]) rfl rfl rfl rfl rfl rfl rfl fun b12=>?_
 repeat first|refine go ?_|with_reducible intro _
 refine Wk.alterr (x:=pt b12 _) (C:=[ol 1 (.slice (some ⟨b12,0,none⟩) 1 1) 1 [.int .i64 d.owner.length]]) (by repeat (first|exact Rem.head|apply Rem.tail)) (fun s h=>ol_of_pt (m:=1) (vs:=[.int .i64 d.owner.length]) (g:=0) rfl (.inl rfl) rfl h) ?_
 refine Wk.append rfl rfl rfl rfl rfl rfl rfl rfl Rem.head (Src.sl st) rfl (ok_nums _) (by simp) (by omega) (by omega) rfl rfl rfl fun v16=>?_
 refine Wk.knowr .head (fun s h=>ol.form (v:=v16) h) ?_
 rintro ⟨al,cl,rfl⟩
 rename_i b2
 refine Wk.dropr (B:=[ol 1 (.slice al (1+d.thieves.length) cl) (1+d.thieves.length) (nums ((d.owner.length:Int)::d.thieves)),pt b2 (.cells [.int .i64 d.size,.int .i64 d.room,.bool d.fence,.slice p1 d.owner.length p2,.slice p3 d.thieves.length p4] true 0)]) (Sub.refl _) ?_
 refine Wk.olOpenr (sz:=1) (v:=.slice al (1+d.thieves.length) cl) (.head) (by omega) fun bl=>?_
 refine Wk.knowr .head (fun s h=>olp.form h) ?_
 rintro ⟨cW,heq,-⟩
 cases heq
 repeat first|refine go ?_|with_reducible intro _
 refine Wk.bs rfl rfl rfl rfl rfl rfl rfl fun b17=>?_
 refine Wk.alterr (x:=pt b17 _) (C:=[ol 1 (.slice (some ⟨b17,0,none⟩) 0 0) 0 []]) (by repeat (first|exact Rem.head|apply Rem.tail)) (fun s h=>ol_of_pt (m:=0) (vs:=[]) (g:=0) rfl (.inl rfl) rfl h) ?_
 repeat first|refine go ?_|with_reducible intro _
 generalize hm:1+d.thieves.length=m
 have hm0:0 < m:=by omega
 have hm4:m≤4:=by omega
 refine Wk.loop (fun mm L Z' A'=>∃ (i:Nat) (left out:List Int) (vo:Value),i≤bs.length∧i≤20∧out.length≤i∧left.length=m∧(∀ x∈left,0≤x∧x≤8)∧ordD d (by20 bs)=out++ordF (((bs.take 20).drop i).map Int.toNat) left∧mm=20 - i∧Z=Z'∧A'=[ol 1 vo out.length (nums out),olp bl 1 (.slice (some ⟨bl,0,none⟩) m cl) m (nums left),pt b2 (.cells [.int .i64 d.size,.int .i64 d.room,.bool d.fence,.slice p1 d.owner.length p2,.slice p3 d.thieves.length p4] true 0)]∧Kp L [(1,.slice ab bs.length cb),(2,.pointer (some ⟨b2,0,none⟩)),(5,.slice (some ⟨bl,0,none⟩) m cl),(6,vo),(7,.int .i64 i)]) 20 ⟨0,_,[],_,Nat.zero_le _,Nat.zero_le _,Nat.le_refl _,?_,?_,?_,rfl,rfl,rfl,(by repeat (first|exact trivial|refine And.intro rfl ?_|refine And.intro (kpI rfl (by omega)) ?_))⟩ ?_
 ·simp;omega
 ·intro x hx
  rcases List.mem_cons.1 hx with q|q
  ·rw [q];omega
  ·have:=l3 x q;have:=g4 x q;omega
 ·rfl
 rintro mm L Z' A' - ⟨i,left,out,vo,hi,hi20,hout,hlm,hlv,hord,rfl,rfl,rfl,hk⟩
 refine Wk.kp hk ?_
 clear hk
 refine Wk.know .head (fun s h=>ol.form (v:=vo) h) ?_
 rintro ⟨ao,co,rfl⟩
 repeat first|refine go ?_|with_reducible intro _
 first|refine Wk.cut (fun L Z' A'=>Z=Z'∧Sub A' [ol 1 (.slice ao out.length co) out.length (nums out),olp bl 1 (.slice (some ⟨bl,0,none⟩) m cl) m (nums left),pt b2 (.cells [.int .i64 d.size,.int .i64 d.room,.bool d.fence,.slice p1 d.owner.length p2,.slice p3 d.thieves.length p4] true 0)]∧Kp L [(25,.bool (decide (i < bs.length∧i < 20))),(1,.slice ab bs.length cb),(2,.pointer (some ⟨b2,0,none⟩)),(5,.slice (some ⟨bl,0,none⟩) m cl),(6,.slice ao out.length co),(7,.int .i64 i)]) ?_ ?_|refine Wk.cutr (fun L Z' A'=>Z=Z'∧Sub A' [ol 1 (.slice ao out.length co) out.length (nums out),olp bl 1 (.slice (some ⟨bl,0,none⟩) m cl) m (nums left),pt b2 (.cells [.int .i64 d.size,.int .i64 d.room,.bool d.fence,.slice p1 d.owner.length p2,.slice p3 d.thieves.length p4] true 0)]∧Kp L [(25,.bool (decide (i < bs.length∧i < 20))),(1,.slice ab bs.length cb),(2,.pointer (some ⟨b2,0,none⟩)),(5,.slice (some ⟨bl,0,none⟩) m cl),(6,.slice ao out.length co),(7,.int .i64 i)]) ?_ ?_
 ·refine Wk.caser 22 rfl (fun hc=>?_) (fun hc=>?_)
  ·repeat first|refine go ?_|with_reducible intro _
   refine Wk.inv ⟨rfl,(by repeat (first|exact Sub.none _|exact Sub.refl _|refine Sub.keep ?_|refine Sub.drop ?_)),⟨eqBp (by simp at hc ⊢;omega),rfl,rfl,rfl,rfl,rfl,trivial⟩⟩
  ·repeat first|refine go ?_|with_reducible intro _
   refine Wk.inv ⟨rfl,(by repeat (first|exact Sub.none _|exact Sub.refl _|refine Sub.keep ?_|refine Sub.drop ?_)),⟨eqBp (by simp at hc ⊢;omega),rfl,rfl,rfl,rfl,rfl,trivial⟩⟩
 rintro L Z' A' - ⟨rfl,hsub,hk⟩
 refine Wk.drop hsub ?_
 refine Wk.kp hk ?_
 clear hk hsub
 repeat first|refine go ?_|with_reducible intro _
 refine Wk.cond rfl (fun hc=>?_) (fun hc=>?_)
 ·have hlt:i < bs.length:=by simp at hc;omega
  have hla:i < 20:=by simp at hc;omega
  clear hc
  have hw:=hb _ (List.getElem_mem hlt)
  obtain ⟨q,hq⟩:∃ q:Nat,bs[i]=(q:Int):=⟨bs[i].toNat,by omega⟩
  have gb:getCells (by8 bs) (i*1) 1=some [.int .u8 (q:Int)]:=by rw [←hq];exact getCells_map hlt
  have hdr:((bs.take 20).drop i).map Int.toNat=q::((bs.take 20).drop (i+1)).map Int.toNat:=by
   have hl20:i < (bs.take 20).length:=by rw [List.length_take];omega
   rw [List.drop_eq_getElem_cons hl20,List.map_cons,List.getElem_take,hq,Int.toNat_natCast]
  have hn:q % m < m:=Nat.mod_lt _ hm0
  rw [hdr,ordF,hlm] at hord
  repeat first|refine go ?_|with_reducible intro _
  refine Wk.conv rfl rfl rfl (Go.Ev.wrap_small (by omega) (by omega)) rfl rfl rfl ?_
  repeat first|refine go ?_|with_reducible intro _
  rw [←Int.natCast_emod q m]
  generalize q % m=n at hn hord ⊢
  have hnl:n < left.length:=by omega
  have hgl:left.getD n 0=left[n]:=by simp [hnl]
  have hv:=hlv _ (List.getElem_mem hnl)
  rw [hgl] at hord
  refine Wk.iaV n rfl rfl rfl rfl rfl rfl rfl hn ?_
  refine Wk.loadOlp (cs:=[_]) rfl rfl (by repeat (first|exact Rem.head|apply Rem.tail)) (nums_get (i:=n) (by omega) hnl) rfl rfl rfl ?_
  repeat first|refine go ?_|with_reducible intro _
  refine Wk.cond rfl (fun hc=>?_) (fun hc=>?_)
  ·have hp:0 < left[n]:=by simpa using hc
   rw [if_pos hp] at hord
   clear hc
   repeat first|refine go ?_|with_reducible intro _
   refine Wk.iaV n rfl rfl rfl rfl rfl rfl rfl hn ?_
   refine Wk.loadOlp (cs:=[_]) rfl rfl (by repeat (first|exact Rem.head|apply Rem.tail)) (nums_get (i:=n) (by omega) hnl) rfl rfl rfl ?_
   repeat first|refine go ?_|with_reducible intro _
   refine Wk.iaV n rfl rfl rfl rfl rfl rfl rfl hn ?_
   refine Wk.storeOlp rfl rfl rfl rfl rfl (by repeat (first|exact Rem.head|apply Rem.tail)) (nums_set (i:=n) (by omega) hnl) (by kernel_rfl) rfl ?_
   repeat first|refine go ?_|with_reducible intro _
   refine Wk.bs (cs:=[.int .i64 (n:Int)]) rfl rfl rfl rfl rfl rfl rfl fun b49=>?_
   refine Wk.append (kk:=1) (new:=[.int .i64 (n:Int)]) rfl rfl rfl rfl rfl rfl rfl rfl (by repeat (first|exact Rem.head|apply Rem.tail)) (Src.lit (by first|exact Or.inl (by assumption)|(refine Or.inr ?_;repeat (first|exact List.Mem.head _|refine List.Mem.tail _ ?_))) rfl) rfl rfl rfl (by omega) (by omega) rfl rfl rfl fun v50=>?_
   refine Wk.dropr (B:=[ol 1 v50 (out.length+1) (nums out++[.int .i64 (n:Int)]),olp bl 1 (.slice (some ⟨bl,0,none⟩) m cl) m (nums (left.set n (left[n] - 1))),pt b2 (.cells [.int .i64 d.size,.int .i64 d.room,.bool d.fence,.slice p1 d.owner.length p2,.slice p3 d.thieves.length p4] true 0)]) (by repeat (first|exact Sub.refl _|apply Sub.keep|apply Sub.drop)) ?_
   repeat first|refine go ?_|with_reducible intro _
   refine Wk.inv ⟨_,by omega,i+1,left.set n (left[n] - 1),out++[(n:Int)],v50,hlt,hla,by simp;omega,by simpa using hlm,fun x hx=>?_,by rw [hord,List.append_assoc];rfl,rfl,rfl,by rw [List.length_append,nums_append];rfl,(by repeat (first|exact trivial|refine And.intro rfl ?_|refine And.intro (kpI rfl (by omega)) ?_))⟩
   rcases List.mem_or_eq_of_mem_set hx with r|r
   ·exact hlv x r
   ·rw [r];omega
  ·have hp:¬ 0 < left[n]:=by simpa using hc
   rw [if_neg hp] at hord
   repeat first|refine go ?_|with_reducible intro _
   refine Wk.inv ⟨_,by omega,i+1,left,out,.slice ao out.length co,hlt,hla,by omega,hlm,hlv,hord,rfl,rfl,rfl,(by repeat (first|exact trivial|refine And.intro rfl ?_|refine And.intro (kpI rfl (by omega)) ?_))⟩
 have hnil:((bs.take 20).drop i)=[]:=by
  rw [List.drop_eq_nil_iff,List.length_take];simp at hc;omega
 rw [hnil,List.map_nil,ordF,List.append_nil] at hord
 repeat first|refine go ?_|with_reducible intro _
 first|apply Wk.olFreezer (v:=(.slice ao out.length co))|apply Wk.olFreeze (v:=(.slice ao out.length co))
 case p=>repeat (first|exact Rem.head|apply Rem.tail)
 intro Z1 x1 ho
 refine Wk.ret ⟨_,Rs.tmp rfl Rs.nil,_,Sub.none _,by rw [hord];exact ho,rfl⟩
end Go.Proofs.J
namespace Go.Proofs.J
open Go.Ev Go
theorem fit_ {Z:Zone} {cs ct:List Value} {d:Dq} {e:De} (h:DqR Z cs d) (k:DeR Z ct e) (hl:e.ow.length=d.owner.length) (ho:e.ow.length≤1000) :
  Cz M (.func (.func 39) #[] #[]) [.agg ⟨cs⟩,.agg ⟨ct⟩] Z [] (fun v' Z' A'=>(∃ ct',v'=.agg ⟨ct'⟩∧DeR Z' ct' e)∧A'=[]):=by
 obtain ⟨p1,p2,p3,p4,rfl,so,st⟩:=h.form
 obtain ⟨a1,cw1,a2,c2,a3,c3,us,rfl,s1,s2,s3,s4⟩:=k.form
 clear h k
 refine Cz.fn (f:=Tryz.f39) (by kernel_rfl) rfl rfl rfl _ rfl ?_
 repeat first|refine go ?_|with_reducible intro _
 refine Wk.sliceSlR (l:=0) (h:=e.ow.length) (nh:=some e.ow.length) s1 rfl rfl rfl rfl rfl rfl rfl rfl rfl (asNatI (by omega)) rfl ⟨rfl,rfl,by omega,by omega,trivial⟩ fun v14 s14 r14=>?_
 have h14:Sl Z 1 v14 e.ow.length (nums e.ow):=by
  have q:((nums e.ow).drop (0*1)).take ((e.ow.length - 0)*1)=nums e.ow:=by rw [Nat.zero_mul,List.drop_zero,Nat.sub_zero,Nat.mul_one];exact List.take_of_length_le (by simp)
  rw [q] at s14
  exact s14
 obtain ⟨a14,c14,rfl⟩:=h14.form
 repeat first|refine go ?_|with_reducible intro _
 refine Wk.ret ⟨_,Rs.cell rfl rfl (by first|exact Or.inl (by assumption)|(refine Or.inr ?_;repeat (first|exact List.Mem.head _|refine List.Mem.tail _ ?_))) rfl rfl Rs.nil,_,Sub.none _,⟨_,rfl,_,_,_,us,rfl,h14,⟨s2,s3⟩,s4⟩,rfl⟩
end Go.Proofs.J
namespace Go.Proofs.J
open Go.Ev Go
theorem sums_ {Z:Zone} {cs ct:List Value} {d:Dq} {e:De} (h:DqR Z cs d) (k:DeR Z ct e) (hd:d.Ok) (sd:SoundP d e) (hlf:e.lf.length≤1000) :
  Cz M (.func (.func 36) #[] #[]) [.agg ⟨cs⟩,.agg ⟨ct⟩] Z [] (fun v' Z' A'=>v'=.bool true∧Z=Z'∧A'=[]):=by
 obtain ⟨p1,p2,p3,p4,rfl,so,st⟩:=h.form
 obtain ⟨a1,cw1,a2,c2,a3,c3,us,rfl,s1,s2,s3,s4⟩:=k.form
 clear h k
 have t1:=sd.tr.l1
 have t2:=sd.tr.l2
 have l1:=hd.lim.1
 have l2:=hd.lim.2.1
 refine Cz.fn (f:=Tryz.f36) (by kernel_rfl) rfl rfl rfl _ rfl ?_
 repeat first|refine go ?_|with_reducible intro _
 rename_i b2 b3
 refine Wk.loop (fun mm L Z' A'=>∃ (i:Nat),i≤e.ow.length∧mm=e.ow.length - i∧Z=Z'∧Sub A' [pt b3 (.cells [.slice a1 e.ow.length cw1,.slice a2 e.th.length c2,.slice a3 e.lf.length c3] true 0),pt b2 (.cells [.int .i64 d.size,.int .i64 d.room,.bool d.fence,.slice p1 d.owner.length p2,.slice p3 d.thieves.length p4] true 0)]∧Kp L [(2,.pointer (some ⟨b2,0,none⟩)),(3,.pointer (some ⟨b3,0,none⟩)),(5,.int .i64 (sW ((plcs d e i).map (·.1)) - sW (pops d e i))),(6,.int .i64 i)]) e.ow.length ⟨0,Nat.zero_le _,rfl,rfl,Sub.refl _,(by repeat (first|exact trivial|refine And.intro rfl ?_|refine And.intro (kpI rfl (by omega)) ?_))⟩ ?_
 rintro mm L Z' A' - ⟨i,hi,rfl,rfl,hsub,hk⟩
 refine Wk.drop hsub ?_
 refine Wk.kp hk ?_
 clear hk hsub
 have b1:=sW_bd (plcs_item hd (e:=e) i) (n:=8) (by have:=plcs_le (d:=d) (e:=e) i;omega)
 have b2':=sW_bd (pops_item (d:=d) (e:=e) i) (n:=8) (by have:=pops_le (d:=d) (e:=e) i;omega)
 repeat first|refine go ?_|with_reducible intro _
 refine Wk.cond rfl (fun hc=>?_) (fun hc=>?_)
 ·have hlt:i < e.ow.length:=by simp at hc;omega
  have hlo:i < d.owner.length:=by omega
  clear hc
  have an:=sd.tr.an i hlo hlt
  have ga:=actL_get hlo
  have gx:getCells (nums e.ow) (i*1) 1=some [.int .i64 e.ow[i]]:=getCells_map hlt
  have hac:d.ac i=d.owner[i]:=by unfold Dq.ac;simp [hlo]
  have hgd:e.ow.getD i 0=e.ow[i]:=by simp [hlt]
  have nP:(plcs d e (i+1)).map (·.1)=(plcs d e i).map (·.1)++(if d.owner[i].push=true∧e.ow[i]=d.owner[i].n then [d.owner[i].n] else []):=by
   rw [plcs,List.map_append,hac,hgd]
   congr 1
   split<;>rfl
  have nO:pops d e (i+1)=pops d e i++(if d.owner[i].push=false∧Item e.ow[i] then [e.ow[i]] else []):=by rw [pops,hac,hgd]
  have hit:d.owner[i].push=true→Item d.owner[i].n:=fun q=>hd.rng.2.2.1 _ (mem_pushed.2 ⟨d.owner[i],List.getElem_mem hlo,q,rfl⟩)
  obtain ⟨p,n,hA⟩:∃ p n,d.owner[i]=⟨p,n⟩:=⟨_,_,rfl⟩
  rw [hA] at ga an nP nO hit
  generalize e.ow[i]=x at gx an nP nO
  unfold Ans at an
  cases p with
  | true =>
   have hn:Item n:=hit rfl
   have hn':1≤n∧n≤1000:=hn
   simp only [if_true] at an
   simp only [true_and,Bool.true_eq_false,false_and,if_false,List.append_nil] at nP nO
   repeat first|refine go ?_|with_reducible intro _
   refine Wk.cond rfl (fun hc=>?_) (fun hc=>?_)
   ·have c1:x≠-2:=by simpa using hc
    have c2:x=n:=by omega
    subst c2
    rw [if_pos rfl] at nP
    have hx:sW ((plcs d e (i+1)).map (·.1)) - sW (pops d e (i+1))=sW ((plcs d e i).map (·.1)) - sW (pops d e i)+(1000000+x):=by rw [nP,nO,sW_app,sW,sW];omega
    clear hc
    repeat first|refine go ?_|with_reducible intro _
    refine Wk.inv ⟨_,by omega,i+1,hlt,rfl,rfl,(by repeat (first|exact Sub.none _|exact Sub.refl _|refine Sub.keep ?_|refine Sub.drop ?_)),rfl,rfl,by rw [hx];rfl,rfl,trivial⟩
   ·have c1:x=-2:=by simpa using hc
    rw [if_neg (by omega),List.append_nil] at nP
    clear hc
    repeat first|refine go ?_|with_reducible intro _
    refine Wk.inv ⟨_,by omega,i+1,hlt,rfl,rfl,(by repeat (first|exact Sub.none _|exact Sub.refl _|refine Sub.keep ?_|refine Sub.drop ?_)),rfl,rfl,by rw [nP,nO];rfl,rfl,trivial⟩
  | false =>
   simp only [Bool.false_eq_true,if_false] at an
   simp only [Bool.false_eq_true,false_and,if_false,true_and,List.append_nil] at nP nO
   repeat first|refine go ?_|with_reducible intro _
   refine Wk.cond rfl (fun hc=>?_) (fun hc=>?_)
   ·have c1:x≠0:=by simpa using hc
    have c2:Item x:=by rcases an with q|q;exact q;exact absurd q c1
    have c3:1≤x∧x≤1000:=c2
    rw [if_pos c2] at nO
    have hx:sW ((plcs d e (i+1)).map (·.1)) - sW (pops d e (i+1))=sW ((plcs d e i).map (·.1)) - sW (pops d e i) - (1000000+x):=by rw [nP,nO,sW_app,sW,sW];omega
    clear hc
    repeat first|refine go ?_|with_reducible intro _
    refine Wk.inv ⟨_,by omega,i+1,hlt,rfl,rfl,(by repeat (first|exact Sub.none _|exact Sub.refl _|refine Sub.keep ?_|refine Sub.drop ?_)),rfl,rfl,by rw [hx];rfl,rfl,trivial⟩
   ·have c1:x=0:=by simpa using hc
    have c2:¬ Item x:=by unfold Item;omega
    rw [if_neg c2,List.append_nil] at nO
    clear hc
    repeat first|refine go ?_|with_reducible intro _
    refine Wk.inv ⟨_,by omega,i+1,hlt,rfl,rfl,(by repeat (first|exact Sub.none _|exact Sub.refl _|refine Sub.keep ?_|refine Sub.drop ?_)),rfl,rfl,by rw [nP,nO];rfl,rfl,trivial⟩
 have hie:i=d.owner.length:=by simp at hc;omega
 subst hie
 clear hc
 have hS:=sound_sum hd sd
 have hSb0:-100000000≤sW ((plcs d e d.owner.length).map (·.1)) - sW (pops d e d.owner.length)∧sW ((plcs d e d.owner.length).map (·.1)) - sW (pops d e d.owner.length)≤100000000:=by omega
 clear b1 b2'
 generalize sW ((plcs d e d.owner.length).map (·.1)) - sW (pops d e d.owner.length)=S at hS hSb0 ⊢
 have hSb:-100000000≤S∧S≤100000000:=hSb0
 repeat first|refine go ?_|with_reducible intro _
 refine Wk.loop (fun mm L Z' A'=>∃ (j:Nat),j≤e.th.length∧mm=e.th.length - j∧Z=Z'∧Sub A' [pt b3 (.cells [.slice a1 e.ow.length cw1,.slice a2 e.th.length c2,.slice a3 e.lf.length c3] true 0)]∧Kp L [(3,.pointer (some ⟨b3,0,none⟩)),(5,.int .i64 (S - sW ((e.th.take j).flatMap its))),(7,.int .i64 j)]) e.th.length ⟨0,Nat.zero_le _,rfl,rfl,(by repeat (first|exact Sub.none _|exact Sub.refl _|refine Sub.keep ?_|refine Sub.drop ?_)),rfl,by simp [sW];rfl,rfl,trivial⟩ ?_
 rintro mm L Z' A' - ⟨j,hj,rfl,rfl,hsub,hk⟩
 refine Wk.drop hsub ?_
 refine Wk.kp hk ?_
 clear hk hsub
 have row4:∀ l∈e.th,l.length≤4:=fun l hl=>by
  obtain ⟨m,hm,rfl⟩:=List.getElem_of_mem hl
  have:=(sd.tr.st m (by omega) hm).1
  have:=hd.lim.2.2 _ (List.getElem_mem (l:=d.thieves) (n:=m) (by omega))
  omega
 have b3':=sW_bd (fl_item (th:=e.th.take j)) (n:=12) (by have:=fl_le (th:=e.th.take j) fun l hl=>row4 l (List.mem_of_mem_take hl);rw [List.length_take] at this;omega)
 repeat first|refine go ?_|with_reducible intro _
 refine Wk.cond rfl (fun hc=>?_) (fun hc=>?_)
 ·have hlt:j < e.th.length:=by simp at hc;omega
  clear hc
  obtain ⟨au,cu,gu,su⟩:=row_get s3 hlt
  have r4:=row4 _ (List.getElem_mem hlt)
  have rI:=(sd.tr.st j (by omega) hlt).2
  repeat first|refine go ?_|with_reducible intro _
  refine Wk.loop (fun mm L Z' A'=>∃ (i:Nat),i≤e.th[j].length∧mm=e.th[j].length - i∧Z=Z'∧Sub A' [pt b3 (.cells [.slice a1 e.ow.length cw1,.slice a2 e.th.length c2,.slice a3 e.lf.length c3] true 0)]∧Kp L [(3,.pointer (some ⟨b3,0,none⟩)),(5,.int .i64 (S - sW ((e.th.take j).flatMap its) - sW (its (e.th[j].take i)))),(7,.int .i64 j),(8,.int .i64 i)]) e.th[j].length ⟨0,Nat.zero_le _,rfl,rfl,(by repeat (first|exact Sub.none _|exact Sub.refl _|refine Sub.keep ?_|refine Sub.drop ?_)),rfl,by simp [sW,its];rfl,rfl,rfl,trivial⟩ ?_
  rintro mm L Z' A' - ⟨i,hi,rfl,rfl,hsub,hk⟩
  refine Wk.drop hsub ?_
  refine Wk.kp hk ?_
  clear hk hsub
  have b4':=sW_bd (its_item (l:=e.th[j].take i)) (n:=4) (by have:=its_le (e.th[j].take i);rw [List.length_take] at this;omega)
  repeat first|refine go ?_|with_reducible intro _
  refine Wk.cond rfl (fun hc=>?_) (fun hc=>?_)
  ·have hli:i < e.th[j].length:=by simp at hc;omega
   clear hc
   have gx:getCells (nums e.th[j]) (i*1) 1=some [.int .i64 e.th[j][i]]:=getCells_map hli
   have an:=rI _ (List.getElem_mem hli)
   have nI:its (e.th[j].take (i+1))=its (e.th[j].take i)++(if Item e.th[j][i] then [e.th[j][i]] else []):=by rw [List.take_succ_eq_append_getElem hli,its_snoc]
   generalize e.th[j][i]=x at gx an nI
   repeat first|refine go ?_|with_reducible intro _
   refine Wk.cond rfl (fun hc=>?_) (fun hc=>?_)
   ·have c1:0 < x:=by simpa using hc
    have c2:Item x:=by rcases an with q|q|q;exact q;omega;omega
    have c3':1≤x∧x≤1000:=c2
    rw [if_pos c2] at nI
    have hx:S - sW ((e.th.take j).flatMap its) - sW (its (e.th[j].take (i+1)))=S - sW ((e.th.take j).flatMap its) - sW (its (e.th[j].take i)) - (1000000+x):=by rw [nI,sW_app,sW,sW];omega
    clear hc
    repeat first|refine go ?_|with_reducible intro _
    refine Wk.inv ⟨_,by omega,i+1,hli,rfl,rfl,(by repeat (first|exact Sub.none _|exact Sub.refl _|refine Sub.keep ?_|refine Sub.drop ?_)),rfl,by rw [hx];rfl,rfl,rfl,trivial⟩
   ·have c1:¬ 0 < x:=by simpa using hc
    have c2:¬ Item x:=by unfold Item;omega
    rw [if_neg c2,List.append_nil] at nI
    clear hc
    repeat first|refine go ?_|with_reducible intro _
    refine Wk.inv ⟨_,by omega,i+1,hli,rfl,rfl,(by repeat (first|exact Sub.none _|exact Sub.refl _|refine Sub.keep ?_|refine Sub.drop ?_)),rfl,by rw [nI];rfl,rfl,rfl,trivial⟩
  have hin:i=e.th[j].length:=by simp at hc;omega
  subst hin
  rw [List.take_length] at b4' ⊢
  clear hc
  have hx:S - sW ((e.th.take (j+1)).flatMap its)=S - sW ((e.th.take j).flatMap its) - sW (its e.th[j]):=by
   rw [List.take_succ_eq_append_getElem hlt,List.flatMap_append,sW_app];simp;omega
  repeat first|refine go ?_|with_reducible intro _
  refine Wk.inv ⟨_,by omega,j+1,hlt,rfl,rfl,(by repeat (first|exact Sub.none _|exact Sub.refl _|refine Sub.keep ?_|refine Sub.drop ?_)),rfl,by rw [hx];rfl,rfl,trivial⟩
 have hje:j=e.th.length:=by simp at hc;omega
 subst hje
 rw [List.take_length] at b3' ⊢
 clear hc
 repeat first|refine go ?_|with_reducible intro _
 generalize sW (e.th.flatMap its)=T at hS b3' ⊢
 refine Wk.loop (fun mm L Z' A'=>∃ (i:Nat),i≤e.lf.length∧mm=e.lf.length - i∧Z=Z'∧Sub A' [pt b3 (.cells [.slice a1 e.ow.length cw1,.slice a2 e.th.length c2,.slice a3 e.lf.length c3] true 0)]∧Kp L [(3,.pointer (some ⟨b3,0,none⟩)),(5,.int .i64 (S - T - sW (e.lf.take i))),(9,.int .i64 i)]) e.lf.length ⟨0,Nat.zero_le _,rfl,rfl,(by repeat (first|exact Sub.none _|exact Sub.refl _|refine Sub.keep ?_|refine Sub.drop ?_)),rfl,by simp [sW];rfl,rfl,trivial⟩ ?_
 rintro mm L Z' A' - ⟨i,hi,rfl,rfl,hsub,hk⟩
 refine Wk.drop hsub ?_
 refine Wk.kp hk ?_
 clear hk hsub
 have b4':=sW_bd (l:=e.lf.take i) (fun x hx=>sd.lf x (List.mem_of_mem_take hx)) (n:=1000) (by rw [List.length_take];omega)
 repeat first|refine go ?_|with_reducible intro _
 refine Wk.cond rfl (fun hc=>?_) (fun hc=>?_)
 ·have hli:i < e.lf.length:=by simp at hc;omega
  clear hc
  have gx:getCells (nums e.lf) (i*1) 1=some [.int .i64 e.lf[i]]:=getCells_map hli
  have an:=sd.lf _ (List.getElem_mem hli)
  have nI:e.lf.take (i+1)=e.lf.take i++[e.lf[i]]:=List.take_succ_eq_append_getElem hli
  generalize e.lf[i]=x at gx an nI
  have an':1≤x∧x≤1000:=an
  have hx:S - T - sW (e.lf.take (i+1))=S - T - sW (e.lf.take i) - (1000000+x):=by rw [nI,sW_app,sW,sW];omega
  repeat first|refine go ?_|with_reducible intro _
  refine Wk.inv ⟨_,by omega,i+1,hli,rfl,rfl,(by repeat (first|exact Sub.none _|exact Sub.refl _|refine Sub.keep ?_|refine Sub.drop ?_)),rfl,by rw [hx];rfl,rfl,trivial⟩
 have hin:i=e.lf.length:=by simp at hc;omega
 subst hin
 rw [List.take_length] at b4' ⊢
 clear hc
 have hz:S - T - sW e.lf=0:=by omega
 rw [hz]
 repeat first|refine go ?_|with_reducible intro _
 refine Wk.ret ⟨_,Rs.tmp rfl Rs.nil,_,Sub.none _,rfl,rfl,rfl⟩
end Go.Proofs.J
namespace Go.Proofs.J
open Go.Ev Go
theorem acts_mem:∀ {i:Nat} {l:List Int} {a:Act},a∈acts i l→(a.push=true∧(i:Int)+1≤a.n∧a.n≤i+l.length)∨(a.push=false∧a.n=0)
 | i,[],a,h=>by simp [acts] at h
 | i,b::r,a,h=>by
  rw [acts] at h
  rcases List.mem_cons.1 h with q|q
  ·split at q
   ·subst q;left;refine ⟨rfl,?_,?_⟩<;>simp only [List.length_cons]<;>omega
   ·subst q;exact .inr ⟨rfl,rfl⟩
  ·rcases acts_mem q with ⟨h1,h2,h3⟩|r
   ·left;refine ⟨h1,by omega,by simp only [List.length_cons];omega⟩
   ·exact .inr r
theorem acts_onc:∀ (i:Nat) (l:List Int),(pushedOf (acts i l)).Nodup
 | i,[]=>by simp [acts,pushedOf]
 | i,b::r=>by
  have ih:=acts_onc (i+1) r
  rw [acts]
  by_cases hb:b % 5 < 3
  ·rw [if_pos hb,pushedOf,if_pos rfl]
   refine List.nodup_cons.2 ⟨fun hm=>?_,ih⟩
   obtain ⟨a,ha,h1,h2⟩:=mem_pushed.1 hm
   rcases acts_mem ha with ⟨_,h4,_⟩|⟨h4,_⟩
   ·have h2':a.n=(i:Int)+1:=h2
    omega
   ·rw [h4] at h1;simp at h1
  ·rw [if_neg hb,pushedOf,if_neg (by simp)]
   exact ih
theorem wdq_ok {w:Wo} (k:w.In) (f:Bool):(w.dq f 8 3 4).Ok:=by
 have k1:=k.sz
 have k2:=k.rm
 have hl8:(w.ac.take 8).length≤8:=by rw [List.length_take];omega
 have ht:∀ n∈(w.dq f 8 3 4).thieves,0≤n∧n≤4:=fun n hn=>by
  obtain ⟨b,_,rfl⟩:=List.mem_map.1 hn
  have e:((4:Nat):Int)+1=5:=rfl
  simp only [e]
  omega
 refine ⟨⟨?_,?_,fun n hn=>(ht n hn).2⟩,⟨?_,?_,fun n hn=>?_,fun n hn=>(ht n hn).1⟩,fun a ha=>?_,acts_onc 0 _⟩
 ·show (acts 0 (w.ac.take 8)).length≤8
  rw [acts_len];exact hl8
 ·show ((w.th.take 3).map _).length≤3
  rw [List.length_map,List.length_take];omega
 ·show 1≤w.sz % 4+1∧w.sz % 4+1≤4
  omega
 ·show 1≤w.rm % 8+1∧w.rm % 8+1≤8
  omega
 ·obtain ⟨a,ha,h1,rfl⟩:=mem_pushed.1 hn
  rcases acts_mem ha with ⟨_,h3,h4⟩|⟨h3,_⟩
  ·unfold Item;omega
  ·rw [h3] at h1;simp at h1
 ·rcases acts_mem ha with ⟨h,_⟩|⟨_,h⟩
  ·exact .inl h
  ·exact .inr h
theorem keptL_id {l:List Int} (h:∀ n∈l,Item n∨n=0):keptL l=l:=List.filter_eq_self.2 fun n hn=>by
 have:n≠-1:=by rcases h n hn with q|q;(unfold Item at q;omega);omega
 simpa using this
theorem expl_of {d:Dq} {e:De} (s:SoundP d e) (x:(Ln.z d).Ex d e) (h:∀ l∈e.th,∀ n∈l,Item n∨n=0):ExplP d e:=by
 have e1:e.kp=e:=by
  unfold De.kp
  have:e.th.map keptL=e.th:=by
   conv=>rhs;rw [←List.map_id e.th]
   exact List.map_congr_left fun l hl=>keptL_id (h l hl)
  rw [this]
 have e2:d.kp e=d:=by
  unfold Dq.kp
  have:(e.th.map fun l=>((keptL l).length:Int))=d.thieves:=by
   apply List.ext_getElem
   ·simp [s.tr.l2]
   ·intro i h1 h2
    have hi:i < e.th.length:=by simpa using h1
    rw [List.getElem_map,keptL_id (h _ (List.getElem_mem hi))]
    exact (s.tr.st i h2 hi).1
  rw [this]
 exact ⟨s.tr.l1,s.tr.l2,fun i h k=>(s.tr.st i h k).1,by rw [e1,e2];exact x⟩
theorem each_all {d:Dq} (hd:d.Ok) (bs:List Nat):serE d (ordD d bs)=0∧SoundP d (serD d (ordD d bs))∧ExplP d (serD d (ordD d bs)):=by
 obtain ⟨y,hy⟩:=ordD_ser hd bs
 have he:=DqE_ok hd
 obtain ⟨h1,h2,h3⟩:=ser_all hd hy
 have e:serD d (ordD d bs)=(Ln.finT d (d.thieves.length+1) y).e:=by unfold serD;rw [if_neg (fun q=>q he),hy];rfl
 rw [e]
 refine ⟨?_,h1,expl_of h1 h2 h3⟩
 unfold serE
 rw [if_neg (fun q=>q he),if_neg (by rw [hy];simp)]
theorem DequeEach {Z:Zone} {cs:List Value} {vb:Value} {w:Wo} {bs:List Int} (h:WoR Z cs w) (k:w.In) (sb:Sl Z 1 vb bs.length (by8 bs)) (hb:∀ x∈bs,0≤x∧x≤255) :
  Cz M (.func (.func 9) #[] #[]) [.agg ⟨cs⟩,vb] Z [] (fun v' _ _=>v'=.bool true):=by
 have hW:=h
 obtain ⟨v1,v2,rfl,s1,s2⟩:=h
 obtain ⟨a1,c1,rfl⟩:=s1.form
 obtain ⟨a2,c2,rfl⟩:=s2.form
 obtain ⟨ab,cb,rfl⟩:=sb.form
 clear s1 s2
 refine Cz.fn (f:=Tryz.f9) (by kernel_rfl) rfl rfl rfl _ rfl ?_
 repeat first|refine go ?_|with_reducible intro _
 rename_i b2
 refine Wk.call rfl rfl (Spl.none _) (workDeque hW k (a:=8) (t:=3) (s:=4) (by decide) (by decide) (by decide)) rfl rfl rfl ?_
 rintro v' Z1 A' hz1 ⟨⟨cs1,rfl,hD⟩,rfl⟩
 replace sb:=sb.mono hz1
 have hd:=wdq_ok k ((bs.length:Int) % 2==0)
 generalize w.dq ((bs.length:Int) % 2==0) 8 3 4=d at hD hd
 clear hW k
 obtain ⟨q1,q2,q3,q4,rfl,_,_⟩:=id hD.form
 have l1:=hd.lim.1
 have l2:=hd.lim.2.1
 have he:=DqE_ok hd
 have hol:=ordF_len (by20 bs) ((d.owner.length:Int)::d.thieves)
 have h20:(by20 bs).length≤20:=by unfold by20;rw [List.length_map,List.length_take];omega
 obtain ⟨hS0,hSd,hEx⟩:=each_all hd (by20 bs)
 have hlen:(ordD d (by20 bs)).length≤1000:=by unfold ordD;omega
 repeat first|refine go ?_|with_reducible intro _
 refine Wk.drawr (ms:=[0,1,0,0,15,31,63,127,127,0,767,2047]) (l:=[0,2,3,9,1,4,5,6,7,8,10,11]) (by kernel_rfl) (by kernel_rfl) (by kernel_rfl) rfl ?_
 repeat first|refine go ?_|with_reducible intro _
 refine Wk.callD rfl rfl (Spl.none _) (copyDq hD (by omega) (by omega)) rfl rfl fun v' Z2 A' hz2 hq=>?_
 obtain ⟨⟨cs2,rfl,h2⟩,rfl⟩:=hq
 refine ⟨?_,?_⟩
 ·(repeat (first|exact PnAll.done|refine PnAll.two ?_|refine PnAll.skip rfl ?_|refine PnAll.keep (Rd.loadL rfl rfl (by first|exact Or.inl (by assumption)|(refine Or.inr ?_;repeat (first|exact List.Mem.head _|refine List.Mem.tail _ ?_))) rfl rfl) (by first|exact veq_slice _ _ _|exact veq_int _ _|exact Sl.veq (by assumption)|simp [veq,veqL,veq1,ba_self]) ?_|refine PnAll.keep (by apply Rd.loadP (o:=0);exact rfl;exact rfl;(first|assumption|(refine Pz.mono ?_ (by assumption);assumption));exact rfl;exact rfl) (by first|exact veq_slice _ _ _|exact veq_int _ _|exact Sl.veq (by assumption)|simp [veq,veqL,veq1,ba_self]) ?_))
 replace hD:=hD.mono hz2
 replace sb:=sb.mono hz2
 obtain ⟨x1,x2,x3,x4,rfl,_,_⟩:=id h2.form
 repeat first|refine go ?_|with_reducible intro _
 refine Wk.callD rfl rfl (Spl.none _) (order_ hD sb hb hd) rfl rfl fun v' Z3 A' hz3 hq=>?_
 obtain ⟨hO,rfl⟩:=hq
 refine ⟨?_,?_⟩
 ·(repeat (first|exact PnAll.done|refine PnAll.two ?_|refine PnAll.skip rfl ?_|refine PnAll.keep (Rd.loadL rfl rfl (by first|exact Or.inl (by assumption)|(refine Or.inr ?_;repeat (first|exact List.Mem.head _|refine List.Mem.tail _ ?_))) rfl rfl) (by first|exact veq_slice _ _ _|exact veq_int _ _|exact Sl.veq (by assumption)|simp [veq,veqL,veq1,ba_self]) ?_|refine PnAll.keep (by apply Rd.loadP (o:=0);exact rfl;exact rfl;(first|assumption|(refine Pz.mono ?_ (by assumption);assumption));exact rfl;exact rfl) (by first|exact veq_slice _ _ _|exact veq_int _ _|exact Sl.veq (by assumption)|simp [veq,veqL,veq1,ba_self]) ?_))
 replace hD:=hD.mono hz3
 replace h2:=h2.mono hz3
 obtain ⟨ao,co,rfl⟩:=hO.form
 repeat first|refine go ?_|with_reducible intro _
 refine Wk.callD rfl rfl (Spl.none _) (serial_ h2 hO (by omega) (by omega) hlen) rfl rfl fun v' Z4 A' hz4 hq=>?_
 obtain ⟨⟨ct,rfl,hE⟩,rfl⟩:=hq
 refine ⟨?_,?_⟩
 ·(repeat (first|exact PnAll.done|refine PnAll.two ?_|refine PnAll.skip rfl ?_|refine PnAll.keep (Rd.loadL rfl rfl (by first|exact Or.inl (by assumption)|(refine Or.inr ?_;repeat (first|exact List.Mem.head _|refine List.Mem.tail _ ?_))) rfl rfl) (by first|exact veq_slice _ _ _|exact veq_int _ _|exact Sl.veq (by assumption)|simp [veq,veqL,veq1,ba_self]) ?_|refine PnAll.keep (by apply Rd.loadP (o:=0);exact rfl;exact rfl;(first|assumption|(refine Pz.mono ?_ (by assumption);assumption));exact rfl;exact rfl) (by first|exact veq_slice _ _ _|exact veq_int _ _|exact Sl.veq (by assumption)|simp [veq,veqL,veq1,ba_self]) ?_))
 replace hD:=hD.mono hz4
 clear h2 hO
 rw [hS0]
 generalize serD d (ordD d (by20 bs))=e at hE hSd hEx
 have t1:=hSd.tr.l1
 have t2:=hSd.tr.l2
 have row4:∀ l∈e.th,l.length≤4:=fun l hl=>by
  obtain ⟨m,hm,rfl⟩:=List.getElem_of_mem hl
  have:=(hSd.tr.st m (by omega) hm).1
  have:=hd.lim.2.2 _ (List.getElem_mem (l:=d.thieves) (n:=m) (by omega))
  omega
 have t4:∀ l∈e.th,l.length≤1000:=fun l hl=>by have:=row4 l hl;omega
 have t3:e.lf.length≤8:=by
  have h1:=hSd.ln
  have h2:(Pq d e).length≤d.owner.length:=plcs_le _
  have h3:its e.lf=e.lf:=List.filter_eq_self.2 fun n hn=>by simpa using hSd.lf n hn
  unfold allQ at h1
  rw [List.flatMap_append,List.length_append,List.length_append] at h1
  have h4:[e.lf].flatMap its=e.lf:=by simp [h3]
  rw [h4] at h1
  omega
 have sm:e.Sm:=⟨by omega,⟨by omega,fun l hl=>by have:=row4 l hl;omega⟩,by omega⟩
 obtain ⟨y1,y2,y3,y4,y5,y6,us2,rfl,_,_,_,_⟩:=id hE.form
 repeat first|refine go ?_|with_reducible intro _
 refine Wk.storeD rfl rfl rfl rfl rfl (by repeat (first|exact Upd.head|apply Upd.tail)) rfl rfl ⟨?_,?_⟩
 ·(repeat (first|exact PnAll.done|refine PnAll.two ?_|refine PnAll.skip rfl ?_|refine PnAll.keep (Rd.loadL rfl rfl (by first|exact Or.inl (by assumption)|(refine Or.inr ?_;repeat (first|exact List.Mem.head _|refine List.Mem.tail _ ?_))) rfl rfl) (by first|exact veq_slice _ _ _|exact veq_int _ _|exact Sl.veq (by assumption)|simp [veq,veqL,veq1,ba_self]) ?_|refine PnAll.keep (by apply Rd.loadP (o:=0);exact rfl;exact rfl;(first|assumption|(refine Pz.mono ?_ (by assumption);assumption));exact rfl;exact rfl) (by first|exact veq_slice _ _ _|exact veq_int _ _|exact Sl.veq (by assumption)|simp [veq,veqL,veq1,ba_self]) ?_))
 repeat first|refine go ?_|with_reducible intro _
 refine Wk.drawr (ms:=[0,1,0,7,15,31,63,63,127,511]) (l:=[0,2,1,3,4,5,6,7,8,9]) (by kernel_rfl) (by kernel_rfl) (by kernel_rfl) rfl ?_
 repeat first|refine go ?_|with_reducible intro _
 refine Wk.callD rfl rfl (Spl.none _) (copyDq hD (by omega) (by omega)) rfl rfl fun v' Z5 A' hz5 hq=>?_
 obtain ⟨⟨cs3,rfl,h1⟩,rfl⟩:=hq
 refine ⟨?_,?_⟩
 ·(repeat (first|exact PnAll.done|refine PnAll.two ?_|refine PnAll.skip rfl ?_|refine PnAll.keep (Rd.loadL rfl rfl (by first|exact Or.inl (by assumption)|(refine Or.inr ?_;repeat (first|exact List.Mem.head _|refine List.Mem.tail _ ?_))) rfl rfl) (by first|exact veq_slice _ _ _|exact veq_int _ _|exact Sl.veq (by assumption)|simp [veq,veqL,veq1,ba_self]) ?_|refine PnAll.keep (by apply Rd.loadP (o:=0);exact rfl;exact rfl;(first|assumption|(refine Pz.mono ?_ (by assumption);assumption));exact rfl;exact rfl) (by first|exact veq_slice _ _ _|exact veq_int _ _|exact Sl.veq (by assumption)|simp [veq,veqL,veq1,ba_self]) ?_))
 replace hD:=hD.mono hz5
 replace hE:=hE.mono hz5
 obtain ⟨x1,x2,x3,x4,rfl,_,_⟩:=id h1.form
 repeat first|refine go ?_|with_reducible intro _
 refine Wk.callD rfl rfl (Spl.none _) (copyEnd hE (by omega) (by omega) (by omega) t4) rfl rfl fun v' Z6 A' hz6 hq=>?_
 obtain ⟨⟨cs4,rfl,h2⟩,rfl⟩:=hq
 refine ⟨?_,?_⟩
 ·(repeat (first|exact PnAll.done|refine PnAll.two ?_|refine PnAll.skip rfl ?_|refine PnAll.keep (Rd.loadL rfl rfl (by first|exact Or.inl (by assumption)|(refine Or.inr ?_;repeat (first|exact List.Mem.head _|refine List.Mem.tail _ ?_))) rfl rfl) (by first|exact veq_slice _ _ _|exact veq_int _ _|exact Sl.veq (by assumption)|simp [veq,veqL,veq1,ba_self]) ?_|refine PnAll.keep (by apply Rd.loadP (o:=0);exact rfl;exact rfl;(first|assumption|(refine Pz.mono ?_ (by assumption);assumption));exact rfl;exact rfl) (by first|exact veq_slice _ _ _|exact veq_int _ _|exact Sl.veq (by assumption)|simp [veq,veqL,veq1,ba_self]) ?_))
 replace hD:=hD.mono hz6
 replace hE:=hE.mono hz6
 replace h1:=h1.mono hz6
 obtain ⟨x1,x2,x3,x4,x5,x6,us3,rfl,_,_,_,_⟩:=id h2.form
 repeat first|refine go ?_|with_reducible intro _
 refine Wk.callD rfl rfl (Spl.none _) (Sound_ h1 h2 (by omega) (by omega) (by omega) t4 (by omega) (by omega)) rfl rfl fun v' Z7 A' hz7 hq=>?_
 obtain ⟨⟨f3,rfl,hf⟩,rfl⟩:=hq
 refine ⟨?_,?_⟩
 ·(repeat (first|exact PnAll.done|refine PnAll.two ?_|refine PnAll.skip rfl ?_|refine PnAll.keep (Rd.loadL rfl rfl (by first|exact Or.inl (by assumption)|(refine Or.inr ?_;repeat (first|exact List.Mem.head _|refine List.Mem.tail _ ?_))) rfl rfl) (by first|exact veq_slice _ _ _|exact veq_int _ _|exact Sl.veq (by assumption)|simp [veq,veqL,veq1,ba_self]) ?_|refine PnAll.keep (by apply Rd.loadP (o:=0);exact rfl;exact rfl;(first|assumption|(refine Pz.mono ?_ (by assumption);assumption));exact rfl;exact rfl) (by first|exact veq_slice _ _ _|exact veq_int _ _|exact Sl.veq (by assumption)|simp [veq,veqL,veq1,ba_self]) ?_))
 obtain rfl:f3=true:=hf.2 ⟨he,hSd⟩
 clear hf
 replace hD:=hD.mono hz7
 replace hE:=hE.mono hz7
 clear h1 h2
 rw [he]
 repeat first|refine go ?_|with_reducible intro _
 refine Wk.drawr (ms:=[0,1,0,7,15,31,63,63,127,511]) (l:=[0,2,1,3,4,5,6,7,8,9]) (by kernel_rfl) (by kernel_rfl) (by kernel_rfl) rfl ?_
 repeat first|refine go ?_|with_reducible intro _
 refine Wk.callD rfl rfl (Spl.none _) (copyDq hD (by omega) (by omega)) rfl rfl fun v' Z8 A' hz8 hq=>?_
 obtain ⟨⟨cs3,rfl,h1⟩,rfl⟩:=hq
 refine ⟨?_,?_⟩
 ·(repeat (first|exact PnAll.done|refine PnAll.two ?_|refine PnAll.skip rfl ?_|refine PnAll.keep (Rd.loadL rfl rfl (by first|exact Or.inl (by assumption)|(refine Or.inr ?_;repeat (first|exact List.Mem.head _|refine List.Mem.tail _ ?_))) rfl rfl) (by first|exact veq_slice _ _ _|exact veq_int _ _|exact Sl.veq (by assumption)|simp [veq,veqL,veq1,ba_self]) ?_|refine PnAll.keep (by apply Rd.loadP (o:=0);exact rfl;exact rfl;(first|assumption|(refine Pz.mono ?_ (by assumption);assumption));exact rfl;exact rfl) (by first|exact veq_slice _ _ _|exact veq_int _ _|exact Sl.veq (by assumption)|simp [veq,veqL,veq1,ba_self]) ?_))
 replace hD:=hD.mono hz8
 replace hE:=hE.mono hz8
 obtain ⟨x1,x2,x3,x4,rfl,_,_⟩:=id h1.form
 repeat first|refine go ?_|with_reducible intro _
 refine Wk.callD rfl rfl (Spl.none _) (copyEnd hE (by omega) (by omega) (by omega) t4) rfl rfl fun v' Z9 A' hz9 hq=>?_
 obtain ⟨⟨cs4,rfl,h2⟩,rfl⟩:=hq
 refine ⟨?_,?_⟩
 ·(repeat (first|exact PnAll.done|refine PnAll.two ?_|refine PnAll.skip rfl ?_|refine PnAll.keep (Rd.loadL rfl rfl (by first|exact Or.inl (by assumption)|(refine Or.inr ?_;repeat (first|exact List.Mem.head _|refine List.Mem.tail _ ?_))) rfl rfl) (by first|exact veq_slice _ _ _|exact veq_int _ _|exact Sl.veq (by assumption)|simp [veq,veqL,veq1,ba_self]) ?_|refine PnAll.keep (by apply Rd.loadP (o:=0);exact rfl;exact rfl;(first|assumption|(refine Pz.mono ?_ (by assumption);assumption));exact rfl;exact rfl) (by first|exact veq_slice _ _ _|exact veq_int _ _|exact Sl.veq (by assumption)|simp [veq,veqL,veq1,ba_self]) ?_))
 replace hD:=hD.mono hz9
 replace hE:=hE.mono hz9
 replace h1:=h1.mono hz9
 obtain ⟨x1,x2,x3,x4,x5,x6,us3,rfl,_,_,_,_⟩:=id h2.form
 repeat first|refine go ?_|with_reducible intro _
 refine Wk.callD rfl rfl (Spl.none _) (Explained_ h1 h2 (by omega) (by omega) sm) rfl rfl fun v' Z10 A' hz10 hq=>?_
 obtain ⟨⟨f4,rfl,hf⟩,rfl⟩:=hq
 refine ⟨?_,?_⟩
 ·(repeat (first|exact PnAll.done|refine PnAll.two ?_|refine PnAll.skip rfl ?_|refine PnAll.keep (Rd.loadL rfl rfl (by first|exact Or.inl (by assumption)|(refine Or.inr ?_;repeat (first|exact List.Mem.head _|refine List.Mem.tail _ ?_))) rfl rfl) (by first|exact veq_slice _ _ _|exact veq_int _ _|exact Sl.veq (by assumption)|simp [veq,veqL,veq1,ba_self]) ?_|refine PnAll.keep (by apply Rd.loadP (o:=0);exact rfl;exact rfl;(first|assumption|(refine Pz.mono ?_ (by assumption);assumption));exact rfl;exact rfl) (by first|exact veq_slice _ _ _|exact veq_int _ _|exact Sl.veq (by assumption)|simp [veq,veqL,veq1,ba_self]) ?_))
 obtain rfl:f4=true:=hf.2 ⟨he,hEx⟩
 clear hf
 replace hD:=hD.mono hz10
 replace hE:=hE.mono hz10
 clear h1 h2
 rw [he]
 repeat first|refine go ?_|with_reducible intro _
 refine Wk.drawr (ms:=[0,1,3,7,15,31,63,127,255,511,1023,2047,4095,8191,16383,32767,65535,131071,131071,131071,917503,2097151,4194303,8388607,16777215,33554431,67108863]) (l:=[0,1,2,3,4,5,6,7,8,9,10,11,12,13,14,15,16,17,18,19,20,21,22,23,24,25,26]) (by kernel_rfl) (by kernel_rfl) (by kernel_rfl) rfl ?_
 repeat first|refine go ?_|with_reducible intro _
 refine Wk.callD rfl rfl (Spl.none _) (fit_ hD hE t1 (by omega)) rfl rfl fun v' Z11 A' hz11 hq=>?_
 obtain ⟨⟨cs5,rfl,hE2⟩,rfl⟩:=hq
 refine ⟨?_,?_⟩
 ·(repeat (first|exact PnAll.done|refine PnAll.two ?_|refine PnAll.skip rfl ?_|refine PnAll.keep (Rd.loadL rfl rfl (by first|exact Or.inl (by assumption)|(refine Or.inr ?_;repeat (first|exact List.Mem.head _|refine List.Mem.tail _ ?_))) rfl rfl) (by first|exact veq_slice _ _ _|exact veq_int _ _|exact Sl.veq (by assumption)|simp [veq,veqL,veq1,ba_self]) ?_|refine PnAll.keep (by apply Rd.loadP (o:=0);exact rfl;exact rfl;(first|assumption|(refine Pz.mono ?_ (by assumption);assumption));exact rfl;exact rfl) (by first|exact veq_slice _ _ _|exact veq_int _ _|exact Sl.veq (by assumption)|simp [veq,veqL,veq1,ba_self]) ?_))
 replace hD:=hD.mono hz11
 obtain ⟨x1,x2,x3,x4,x5,x6,us5,rfl,_,_,_,_⟩:=id hE2.form
 repeat first|refine go ?_|with_reducible intro _
 refine Wk.callD rfl rfl (Spl.none _) (sums_ hD hE2 hd hSd (by omega)) rfl rfl fun v' Z12 A' hz12 hq=>?_
 obtain ⟨rfl,rfl,rfl⟩:=hq
 refine ⟨?_,?_⟩
 ·(repeat (first|exact PnAll.done|refine PnAll.two ?_|refine PnAll.skip rfl ?_|refine PnAll.keep (Rd.loadL rfl rfl (by first|exact Or.inl (by assumption)|(refine Or.inr ?_;repeat (first|exact List.Mem.head _|refine List.Mem.tail _ ?_))) rfl rfl) (by first|exact veq_slice _ _ _|exact veq_int _ _|exact Sl.veq (by assumption)|simp [veq,veqL,veq1,ba_self]) ?_|refine PnAll.keep (by apply Rd.loadP (o:=0);exact rfl;exact rfl;(first|assumption|(refine Pz.mono ?_ (by assumption);assumption));exact rfl;exact rfl) (by first|exact veq_slice _ _ _|exact veq_int _ _|exact Sl.veq (by assumption)|simp [veq,veqL,veq1,ba_self]) ?_))
 repeat first|refine go ?_|with_reducible intro _
 refine Wk.callD rfl rfl (Spl.none _) (Cz.ora rfl) rfl rfl fun v' Z13 A' hz13 hq=>?_
 obtain ⟨rfl,rfl,rfl⟩:=hq
 refine ⟨?_,?_⟩
 ·(repeat (first|exact PnAll.done|refine PnAll.two ?_|refine PnAll.skip rfl ?_|refine PnAll.keep (Rd.loadL rfl rfl (by first|exact Or.inl (by assumption)|(refine Or.inr ?_;repeat (first|exact List.Mem.head _|refine List.Mem.tail _ ?_))) rfl rfl) (by first|exact veq_slice _ _ _|exact veq_int _ _|exact Sl.veq (by assumption)|simp [veq,veqL,veq1,ba_self]) ?_|refine PnAll.keep (by apply Rd.loadP (o:=0);exact rfl;exact rfl;(first|assumption|(refine Pz.mono ?_ (by assumption);assumption));exact rfl;exact rfl) (by first|exact veq_slice _ _ _|exact veq_int _ _|exact Sl.veq (by assumption)|simp [veq,veqL,veq1,ba_self]) ?_))
 repeat first|refine go ?_|with_reducible intro _
 exact Wk.ret ⟨_,Rs.tmp rfl Rs.nil,_,Sub.none _,rfl⟩
end Go.Proofs.J
namespace Go.Proofs.J
open Go Go.Ev
theorem wf_u8 {n:Int} (h:(Lit.int .u8 n).wf=true):0≤n∧n≤255:=by
 simp [Lit.wf,IntKind.min,IntKind.max,IntKind.signed,IntKind.bits] at h
 exact h
theorem wt_by8 {Z:Zone} {d:Nat} {cs:List Value} (h:Wt Tryz.prog Z d 62 cs):∃ v xs,cs=[v]∧Sl Z 1 v xs.length (by8 xs)∧∀ x∈xs,0≤x∧x≤255:=by
 cases d with
 | zero=>exact h.elim
 | succ d =>
  simp only [Wt,Tryz.underlying62,c5] at h
  obtain ⟨v,m,vs,rfl,hs,_,hw⟩:=h
  have hl:=hs.length
  obtain ⟨l,hl2⟩:=list_of (R:=fun x a=>x=Value.int .u8 a∧(0≤a∧a≤255)) vs fun i hi=>by
   have:=hw i (by omega)
   cases d with
   | zero=>exact this.elim
   | succ d =>
    simp only [Wt,Tryz.underlying5] at this
    obtain ⟨n,e,k⟩:=this
    exact ⟨_,n,drop1 e,rfl,wf_u8 k⟩
  have e:=ints_of (hl2.mono fun a b h=>h.1)
  have hb:∀ x∈l,0≤x∧x≤255:=by
   clear hs hw hl e
   induction hl2 with
   | nil=>simp
   | cons h _ ih=>intro x hx;rcases List.mem_cons.1 hx with rfl|hx;exact h.2;exact ih x hx
  subst e
  refine ⟨v,l,rfl,?_,hb⟩
  have:m=l.length:=by simp at hl;omega
  subst this
  exact hs
theorem wtv_by8 {Z:Zone} {v:Value} (h:WtV Tryz.prog Z 62 v):∃ xs:List Int,Sl Z 1 v xs.length (by8 xs)∧∀ x∈xs,0≤x∧x≤255:=by
 obtain ⟨⟨d,w⟩,s⟩:=h
 obtain ⟨v',xs,e,hR,hb⟩:=wt_by8 w
 rw [Tryz.underlying62] at s
 have s':cellsL v=[v]:=s
 rw [s'] at e
 have:v'=v:=(List.cons.inj e).1.symm
 subst this
 exact ⟨xs,hR,hb⟩
theorem cW1:Tryz.prog.cellsOf 64=4:=by kernel_rfl
theorem len4 {l:List Value} (h:l.length=4):∃ a b c d,l=[a,b,c,d]:=by
 match l,h with
 | [a,b,c,d],_=>exact ⟨a,b,c,d,rfl⟩
theorem wt_u8r {Z:Zone} {d:Nat} {v:Value} (h:Wt Tryz.prog Z d 5 [v]):∃ n,v=.int .u8 n∧(0≤n∧n≤255):=by
 cases d with
 | zero=>exact h.elim
 | succ d =>
  simp only [Wt,Tryz.underlying5] at h
  obtain ⟨n,e,k⟩:=h
  cases e;exact ⟨_,rfl,wf_u8 k⟩
theorem wt_work {Z:Zone} {d:Nat} {cs:List Value} (h:Wt Tryz.prog Z d 64 cs):∃ w,WoR Z cs w∧w.In:=by
 cases d with
 | zero=>exact h.elim
 | succ d =>
  simp only [Wt,Tryz.underlying64,cW1] at h
  obtain ⟨hlen,hf⟩:=h
  obtain ⟨a,b,c,e,rfl⟩:=len4 hlen
  have f0:=hf _ (List.Mem.head _)
  have f1:=hf _ (List.Mem.tail _ (List.Mem.head _))
  have f2:=hf _ (List.Mem.tail _ (List.Mem.tail _ (List.Mem.head _)))
  have f3:=hf _ (List.Mem.tail _ (List.Mem.tail _ (List.Mem.tail _ (List.Mem.head _))))
  simp only [c5,c73,List.drop_zero,List.drop_succ_cons,List.take_succ_cons,List.take_zero] at f0 f1 f2 f3
  obtain ⟨n1,rfl,g1⟩:=wt_u8r f0
  obtain ⟨n2,rfl,g2⟩:=wt_u8r f1
  obtain ⟨v,l,e3,h3,g3⟩:=wt_by8 f2
  obtain ⟨w,m,e4,h4,g4⟩:=wt_by8 f3
  cases e3;cases e4
  exact ⟨⟨n1,n2,l,m⟩,⟨_,_,rfl,h3,h4⟩,⟨g1,g2,g3,g4⟩⟩
theorem each_law (Z:Zone) (xs:List Value) (h:All2 (fun a t=>WtV Tryz.prog Z t a) xs [64,62]):Cz M (.func (.func 9) #[] #[]) xs Z [] (fun v _ _=>v=.bool true):=by
 cases h with
 | cons h1 h =>
  cases h with
  | cons h2 h =>
   cases h
   obtain ⟨⟨d,w1⟩,s1⟩:=h1
   rw [Tryz.underlying64] at s1
   obtain ⟨⟨cs⟩,rfl⟩:=s1
   obtain ⟨w,hw,hi⟩:=wt_work w1
   obtain ⟨bs,hb,hb2⟩:=wtv_by8 h2
   exact DequeEach hw hi hb hb2
end Go.Proofs.J
