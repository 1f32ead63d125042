/- FA -/
import Derived.Test.YtlmmgebealakkaaGreatDoorEA
import Derived.Test.YtlmmgebealakkaaGreatDoorPL
import Derived.Test.YtlmmgebealakkaaGreatDoorEvF
import Derived.Test.YtlmmgebealakkaaGreatDoorOK
set_option linter.unusedVariables false
set_option maxHeartbeats 4000000
set_option maxRecDepth 100000
set_option linter.unusedSimpArgs false
namespace Go.Proofs.J
open Go.Ev Go
theorem by8_snoc (l:List Int) (c:Int):by8 l++[.int .u8 c]=by8 (l++[c]):=by simp [by8]
theorem len_snoc (l:List Int) (c:Int):l.length+1=(l++[c]).length:=by simp
theorem ecount {Z:Zone} {vb:Value} {xs:List Int} (n:Nat) (hn:n≤1000000000000) (hx:xs.length+(countB n).length≤1000000000) :
  Cz M (.func (.func 118) #[] #[]) [vb,.int .i64 n] Z [ol 1 vb xs.length (by8 xs)] (fun v' Z' A'=>Z=Z'∧A'=[ol 1 v' (xs++countB n).length (by8 (xs++countB n))]):=by
 refine Cz.fn (f:=Tryz.f118) Ev.cM rfl rfl rfl _ rfl ?_
 repeat first|refine go ?_|with_reducible intro _
 refine Wk.loop (fun mm L Z' A'=>∃ (v0:Value) (ys:List Int) (q:Nat),q≤n∧q≤mm∧Z=Z'∧A'=[ol 1 v0 ys.length (by8 ys)]∧ys++countB q=xs++countB n∧Kp L [(0,v0),(1,.int .i64 q)]) n ⟨vb,xs,n,Nat.le_refl _,Nat.le_refl _,rfl,rfl,rfl,Ev.kM⟩ ?_
 rintro mm L Z' A' - ⟨v0,ys,q,hq,hmm,rfl,rfl,he,hk⟩
 refine Wk.kp hk ?_
 clear hk
 have hlen:ys.length+(countB q).length≤1000000000:=by
  have:=congrArg List.length he
  simp only [List.length_append] at this
  omega
 have hpos:1≤(countB q).length:=by
  have:=countB_ne q
  cases h:countB q with
  | nil=>exact absurd h this
  | cons a l=>simp
 have eq:=countB.eq_1 q
 repeat first|refine go ?_|with_reducible intro _
 refine Wk.cond rfl (fun hc=>?_) (fun hc=>?_)
 ·have h128:¬ q < 128:=by simp at hc;omega
  clear hc
  rw [if_neg h128] at eq
  repeat first|refine go ?_|with_reducible intro _
  refine Wk.bs (cs:=[.int .u8 (((q:Int) % 128+128) % 256)]) rfl rfl rfl rfl rfl rfl rfl fun b70=>?_
  refine Wk.append (kk:=1) (new:=[.int .u8 (((q:Int) % 128+128) % 256)]) rfl rfl rfl rfl rfl rfl rfl rfl Ev.rM (Src.lit Ev.hM rfl) rfl rfl rfl Ev.wM Ev.wM rfl rfl rfl fun v71=>?_
  refine Wk.dropr (B:=_::_) (.keep (.drop (Sub.refl _))) ?_
  rw [by8_snoc,len_snoc _ (((q:Int) % 128+128) % 256)]
  repeat first|refine go ?_|with_reducible intro _
  refine Wk.inv ⟨mm - 1,by omega,v71,_,q / 128,by omega,by omega,rfl,rfl,?_,Ev.kM⟩
  rw [←he,eq,List.append_assoc]
  congr 1
  rw [List.cons_append,List.nil_append]
  congr 1
  omega
 ·have h128:q < 128:=by simp at hc;omega
  clear hc
  rw [if_pos h128] at eq
  repeat first|refine go ?_|with_reducible intro _
  refine Wk.bs (cs:=[.int .u8 ((q:Int) % 256)]) rfl rfl rfl rfl rfl rfl rfl fun b70=>?_
  refine Wk.append (kk:=1) (new:=[.int .u8 ((q:Int) % 256)]) rfl rfl rfl rfl rfl rfl rfl rfl Ev.rM (Src.lit Ev.hM rfl) rfl rfl rfl Ev.wM Ev.wM rfl rfl rfl fun v71=>?_
  refine Wk.dropr (B:=_::_) (.keep (.drop (Sub.refl _))) ?_
  rw [by8_snoc,len_snoc _ ((q:Int) % 256)]
  repeat first|refine go ?_|with_reducible intro _
  refine Wk.ret ⟨_,Rs.tmp rfl Rs.nil,_,Sub.refl _,rfl,?_⟩
  rw [←he,eq,show ((q:Int) % 256)=q by omega]
  rfl
theorem enumber {Z:Zone} {vb:Value} {xs:List Int} (n:Int) (hn:NumOk n) (hx:xs.length+(numB n).length≤1000000000) :
  Cz M (.func (.func 117) #[] #[]) [vb,.int .i64 n] Z [ol 1 vb xs.length (by8 xs)] (fun v' Z' A'=>Z=Z'∧A'=[ol 1 v' (xs++numB n).length (by8 (xs++numB n))]):=by
 obtain ⟨h1,h2⟩:=hn
 refine Cz.fn (f:=Tryz.f117) Ev.cM rfl rfl rfl _ rfl ?_
 repeat first|refine go ?_|with_reducible intro _
 refine Wk.cond rfl (fun hc=>?_) (fun hc=>?_)
 ·have hneg:n < 0:=by simpa using hc
  clear hc
  have ez:zig n=(-2*n - 1).toNat:=by unfold zig;rw [if_pos hneg]
  repeat first|refine go ?_|with_reducible intro _
  refine Wk.tellr 10 (.int .i64 (zig n:Nat)) rfl (by rw [ez];congr 1;omega) ?_
  refine Wk.call rfl rfl (Spl.all _) (ecount (zig n) Ev.wM hx) rfl rfl rfl ?_
  rintro v' Z' A' hz ⟨rfl,rfl⟩
  repeat first|refine go ?_|with_reducible intro _
  refine Wk.ret ⟨_,Rs.tmp rfl Rs.nil,_,Sub.refl _,rfl,rfl⟩
 ·have hneg:¬ n < 0:=by simpa using hc
  clear hc
  have ez:zig n=(2*n).toNat:=by unfold zig;rw [if_neg hneg]
  repeat first|refine go ?_|with_reducible intro _
  refine Wk.tellr 14 (.int .i64 (zig n:Nat)) rfl (by rw [ez];congr 1;omega) ?_
  refine Wk.call rfl rfl (Spl.all _) (ecount (zig n) Ev.wM hx) rfl rfl rfl ?_
  rintro v' Z' A' hz ⟨rfl,rfl⟩
  repeat first|refine go ?_|with_reducible intro _
  refine Wk.ret ⟨_,Rs.tmp rfl Rs.nil,_,Sub.refl _,rfl,rfl⟩
end Go.Proofs.J
namespace Go.Proofs.J
open Go.Ev Go
abbrev nE:List El:=[]
theorem packKs_nil:packKs [] (([]:List El))=[]:=by simp [packKs]
theorem epack {ts:List Tbl} (hmax:∀ (t:Tbl) (m:Nat) {s:ByteArray},Tof ts s t→m < t.elems.length→m≤1000000000000):∀ (d:Nat) {s:Shp} {e:El} {Z:Zone} {cs:List Value} {vb:Value} {xs:List Int},IsW ts d s e→¬ e.Great→ElR Z e cs→xs.length+(packE e).length≤1000000000 →
  Cz M (.func (.func 79) #[] #[]) [vb,.agg ⟨cs⟩] Z [ol 1 vb xs.length (by8 xs)] (fun v' Z' A'=>Z=Z'∧A'=[ol 1 v' (xs++packE e).length (by8 (xs++packE e))])
 | 0,s,e,Z,cs,vb,xs,h,_,_,_=>absurd h (by simp [IsW])
 | d+1,s,e,Z,cs,vb,xs,h,hg,he,hb=>by
  cases e with
  | mk k n ks l =>
  simp only [ElR] at he
  obtain ⟨vk,vl,us,rfl,hk,hl,hL⟩:=he
  obtain ⟨a1,c1,rfl⟩:=hk.form
  obtain ⟨a2,c2,rfl⟩:=hl.form
  rw [El.Great_iff,not_or] at hg
  simp only [El.keys,El.kids] at hg
  by_cases nb:El.mk k n ks l=El.bot
  ·cases nb
   have hp:packE (El.mk 0 0 [] [])=[0]:=packE_0
   rw [hp] at hb ⊢
   simp only [List.length_cons,List.length_nil] at hb
   refine Cz.fn (f:=Tryz.f79) Ev.cM rfl rfl rfl _ rfl ?_
   repeat first|refine go ?_|with_reducible intro _
   rename_i b3
   refine Wk.bs (cs:=[.int .u8 (0)]) rfl rfl rfl rfl rfl rfl rfl fun b70=>?_
   refine Wk.append (kk:=1) (new:=[.int .u8 (0)]) rfl rfl rfl rfl rfl rfl rfl rfl Ev.rM (Src.lit Ev.hM rfl) rfl rfl rfl Ev.wM Ev.wM rfl rfl rfl fun v11=>?_
   refine Wk.dropr (B:=_::_) (.keep (.drop (Sub.refl _))) ?_
   rw [by8_snoc,len_snoc _ (0)]
   repeat first|refine go ?_|with_reducible intro _
   refine Wk.loop (fun mm L Z' A'=>Z=Z'∧A'=[ol 1 v11 (List.length (xs++[0])) (by8 (xs++[0])),pt b3 (.cells [.int .u8 0,.int .i64 0,.slice a1 0 c1,.slice a2 (List.length nE) c2] true 0)]∧Kp L [(0,v11),(3,.pointer (some ⟨b3,0,none⟩)),(35,.slice a1 0 c1),(36,.int .i64 0),(37,.int .i64 0)]) 0 ⟨rfl,rfl,Ev.kM⟩ ?_
   rintro mm L Z' A' - ⟨rfl,rfl,hk⟩
   refine Wk.kp hk ?_
   clear hk
   repeat first|refine go ?_|with_reducible intro _
   refine Wk.ret ⟨_,Rs.tmp rfl Rs.nil,_,.keep (Sub.none _),rfl,rfl⟩
  rcases h.kinds nb with q|q|q|q|q|q|q
  ·cases h.inv1 nb q
   have hp:packE (El.mk 1 0 [] [])=[1]:=packE_1
   rw [hp] at hb ⊢
   simp only [List.length_cons,List.length_nil] at hb
   refine Cz.fn (f:=Tryz.f79) Ev.cM rfl rfl rfl _ rfl ?_
   repeat first|refine go ?_|with_reducible intro _
   rename_i b3
   refine Wk.bs (cs:=[.int .u8 (1)]) rfl rfl rfl rfl rfl rfl rfl fun b70=>?_
   refine Wk.append (kk:=1) (new:=[.int .u8 (1)]) rfl rfl rfl rfl rfl rfl rfl rfl Ev.rM (Src.lit Ev.hM rfl) rfl rfl rfl Ev.wM Ev.wM rfl rfl rfl fun v11=>?_
   refine Wk.dropr (B:=_::_) (.keep (.drop (Sub.refl _))) ?_
   rw [by8_snoc,len_snoc _ (1)]
   repeat first|refine go ?_|with_reducible intro _
   refine Wk.loop (fun mm L Z' A'=>Z=Z'∧A'=[ol 1 v11 (List.length (xs++[1])) (by8 (xs++[1])),pt b3 (.cells [.int .u8 1,.int .i64 0,.slice a1 0 c1,.slice a2 (List.length nE) c2] true 0)]∧Kp L [(0,v11),(3,.pointer (some ⟨b3,0,none⟩)),(35,.slice a1 0 c1),(36,.int .i64 0),(37,.int .i64 0)]) 0 ⟨rfl,rfl,Ev.kM⟩ ?_
   rintro mm L Z' A' - ⟨rfl,rfl,hk⟩
   refine Wk.kp hk ?_
   clear hk
   repeat first|refine go ?_|with_reducible intro _
   refine Wk.ret ⟨_,Rs.tmp rfl Rs.nil,_,.keep (Sub.none _),rfl,rfl⟩
  ·obtain ⟨m,hm,e⟩:=h.inv2 nb q
   cases e
   have hp:packE (El.mk 2 n [] [])=2::numB n:=packE_2
   rw [hp] at hb ⊢
   simp only [List.length_cons] at hb
   refine Cz.fn (f:=Tryz.f79) Ev.cM rfl rfl rfl _ rfl ?_
   repeat first|refine go ?_|with_reducible intro _
   rename_i b3
   refine Wk.bs (cs:=[.int .u8 (2)]) rfl rfl rfl rfl rfl rfl rfl fun b70=>?_
   refine Wk.append (kk:=1) (new:=[.int .u8 (2)]) rfl rfl rfl rfl rfl rfl rfl rfl Ev.rM (Src.lit Ev.hM rfl) rfl rfl rfl Ev.wM Ev.wM rfl rfl rfl fun v11=>?_
   refine Wk.dropr (B:=_::_) (.keep (.drop (Sub.refl _))) ?_
   rw [by8_snoc,len_snoc _ (2)]
   repeat first|refine go ?_|with_reducible intro _
   refine Wk.call rfl rfl (by first|exact Spl.l .nil|exact Spl.l (Spl.r .nil)|exact Spl.r (Spl.l .nil)|exact Spl.l (Spl.r (Spl.r .nil))|exact Spl.r (Spl.l (Spl.r .nil))|exact Spl.r (Spl.r (Spl.l .nil))) (enumber n hm (by simp;omega)) rfl rfl rfl ?_
   rintro v' Z' A' hz ⟨rfl,rfl⟩
   repeat first|refine go ?_|with_reducible intro _
   refine Wk.ret ⟨_,Rs.tmp rfl Rs.nil,_,.keep (Sub.none _),rfl,by rw [show xs++2::numB n=xs++[2]++numB n by simp];rfl⟩
  ·rcases h.inv4 nb q with ⟨m,hm,e⟩|e
   ·cases e
    have hp:packE (El.mk 2 n [] [])=2::numB n:=packE_2
    rw [hp] at hb ⊢
    simp only [List.length_cons] at hb
    refine Cz.fn (f:=Tryz.f79) Ev.cM rfl rfl rfl _ rfl ?_
    repeat first|refine go ?_|with_reducible intro _
    rename_i b3
    refine Wk.bs (cs:=[.int .u8 (2)]) rfl rfl rfl rfl rfl rfl rfl fun b70=>?_
    refine Wk.append (kk:=1) (new:=[.int .u8 (2)]) rfl rfl rfl rfl rfl rfl rfl rfl Ev.rM (Src.lit Ev.hM rfl) rfl rfl rfl Ev.wM Ev.wM rfl rfl rfl fun v11=>?_
    refine Wk.dropr (B:=_::_) (.keep (.drop (Sub.refl _))) ?_
    rw [by8_snoc,len_snoc _ (2)]
    repeat first|refine go ?_|with_reducible intro _
    refine Wk.call rfl rfl (by first|exact Spl.l .nil|exact Spl.l (Spl.r .nil)|exact Spl.r (Spl.l .nil)|exact Spl.l (Spl.r (Spl.r .nil))|exact Spl.r (Spl.l (Spl.r .nil))|exact Spl.r (Spl.r (Spl.l .nil))) (enumber n hm (by simp;omega)) rfl rfl rfl ?_
    rintro v' Z' A' hz ⟨rfl,rfl⟩
    repeat first|refine go ?_|with_reducible intro _
    refine Wk.ret ⟨_,Rs.tmp rfl Rs.nil,_,.keep (Sub.none _),rfl,by rw [show xs++2::numB n=xs++[2]++numB n by simp];rfl⟩
   ·cases e
    have hp:packE (El.mk 3 0 [] [])=[3]:=packE_3
    rw [hp] at hb ⊢
    simp only [List.length_cons,List.length_nil] at hb
    refine Cz.fn (f:=Tryz.f79) Ev.cM rfl rfl rfl _ rfl ?_
    repeat first|refine go ?_|with_reducible intro _
    rename_i b3
    refine Wk.bs (cs:=[.int .u8 (3)]) rfl rfl rfl rfl rfl rfl rfl fun b70=>?_
    refine Wk.append (kk:=1) (new:=[.int .u8 (3)]) rfl rfl rfl rfl rfl rfl rfl rfl Ev.rM (Src.lit Ev.hM rfl) rfl rfl rfl Ev.wM Ev.wM rfl rfl rfl fun v11=>?_
    refine Wk.dropr (B:=_::_) (.keep (.drop (Sub.refl _))) ?_
    rw [by8_snoc,len_snoc _ (3)]
    repeat first|refine go ?_|with_reducible intro _
    refine Wk.loop (fun mm L Z' A'=>Z=Z'∧A'=[ol 1 v11 (List.length (xs++[3])) (by8 (xs++[3])),pt b3 (.cells [.int .u8 3,.int .i64 0,.slice a1 0 c1,.slice a2 (List.length nE) c2] true 0)]∧Kp L [(0,v11),(3,.pointer (some ⟨b3,0,none⟩)),(35,.slice a1 0 c1),(36,.int .i64 0),(37,.int .i64 0)]) 0 ⟨rfl,rfl,Ev.kM⟩ ?_
    rintro mm L Z' A' - ⟨rfl,rfl,hk⟩
    refine Wk.kp hk ?_
    clear hk
    repeat first|refine go ?_|with_reducible intro _
    refine Wk.ret ⟨_,Rs.tmp rfl Rs.nil,_,.keep (Sub.none _),rfl,rfl⟩
  ·obtain ⟨t,m,ht,m1,m2,e⟩:=h.inv5 nb q
   cases e
   have hp:packE (El.mk 4 (m:Nat) [] [])=4::countB m:=by rw [packE_4,Int.toNat_natCast]
   rw [hp] at hb ⊢
   simp only [List.length_cons] at hb
   have hm12:m≤1000000000000:=hmax t m ht m2
   refine Cz.fn (f:=Tryz.f79) Ev.cM rfl rfl rfl _ rfl ?_
   repeat first|refine go ?_|with_reducible intro _
   rename_i b3
   refine Wk.bs (cs:=[.int .u8 (4)]) rfl rfl rfl rfl rfl rfl rfl fun b70=>?_
   refine Wk.append (kk:=1) (new:=[.int .u8 (4)]) rfl rfl rfl rfl rfl rfl rfl rfl Ev.rM (Src.lit Ev.hM rfl) rfl rfl rfl Ev.wM Ev.wM rfl rfl rfl fun v11=>?_
   refine Wk.dropr (B:=_::_) (.keep (.drop (Sub.refl _))) ?_
   rw [by8_snoc,len_snoc _ (4)]
   repeat first|refine go ?_|with_reducible intro _
   refine Wk.call rfl rfl (by first|exact Spl.l .nil|exact Spl.l (Spl.r .nil)|exact Spl.r (Spl.l .nil)|exact Spl.l (Spl.r (Spl.r .nil))|exact Spl.r (Spl.l (Spl.r .nil))|exact Spl.r (Spl.r (Spl.l .nil))) (ecount m hm12 (by simp;omega)) rfl rfl rfl ?_
   rintro v' Z' A' hz ⟨rfl,rfl⟩
   repeat first|refine go ?_|with_reducible intro _
   refine Wk.ret ⟨_,Rs.tmp rfl Rs.nil,_,.keep (Sub.none _),rfl,by rw [show xs++4::countB m=xs++[4]++countB m by simp];rfl⟩
  ·obtain ⟨ks',hks,e⟩:=h.inv3 nb q
   cases e
   have hp:packE (El.mk 5 0 ks [])=5::(countB ks.length++ks.flatMap numB):=packE_5
   rw [hp] at hb ⊢
   have hnum:=hks.num
   simp only [List.length_cons,List.length_append] at hb
   refine Cz.fn (f:=Tryz.f79) Ev.cM rfl rfl rfl _ rfl ?_
   repeat first|refine go ?_|with_reducible intro _
   rename_i b3
   refine Wk.bs (cs:=[.int .u8 (5)]) rfl rfl rfl rfl rfl rfl rfl fun b70=>?_
   refine Wk.append (kk:=1) (new:=[.int .u8 (5)]) rfl rfl rfl rfl rfl rfl rfl rfl Ev.rM (Src.lit Ev.hM rfl) rfl rfl rfl Ev.wM Ev.wM rfl rfl rfl fun v11=>?_
   refine Wk.dropr (B:=_::_) (.keep (.drop (Sub.refl _))) ?_
   rw [by8_snoc,len_snoc _ (5)]
   repeat first|refine go ?_|with_reducible intro _
   refine Wk.call rfl rfl (by first|exact Spl.l .nil|exact Spl.l (Spl.r .nil)|exact Spl.r (Spl.l .nil)|exact Spl.l (Spl.r (Spl.r .nil))|exact Spl.r (Spl.l (Spl.r .nil))|exact Spl.r (Spl.r (Spl.l .nil))) (ecount ks.length Ev.wM (by simp;omega)) rfl rfl rfl ?_
   rintro v12 Z' A' hz ⟨rfl,rfl⟩
   repeat first|refine go ?_|with_reducible intro _
   refine Wk.loop (fun mm L Z' A'=>∃ (j:Nat) (v9:Value) (ys:List Int),j≤List.length ks∧mm=List.length ks - j∧Z=Z'∧Sub A' [ol 1 v9 ys.length (by8 ys),pt b3 (.cells [.int .u8 5,.int .i64 0,.slice a1 (List.length ks) c1,.slice a2 (List.length nE) c2] true 0)]∧ys=(xs++[5]++countB ks.length)++(List.take j ks).flatMap numB∧Kp L [(0,v9),(3,.pointer (some ⟨b3,0,none⟩)),(35,.slice a1 (List.length ks) c1),(36,.int .i64 (List.length ks)),(37,.int .i64 j)]) (List.length ks) ⟨0,v12,_,Nat.zero_le _,rfl,rfl,Sub.refl _,by simp,Ev.kM⟩ ?_
   rintro mm L Z' A' - ⟨j,v9,ys,hj,rfl,rfl,hsub,hys,hk⟩
   refine Wk.drop hsub ?_
   refine Wk.kp hk ?_
   clear hk hsub
   have hbd:ys.length≤1000000000 - ((List.drop j ks).flatMap numB).length∧((List.drop j ks).flatMap numB).length≤1000000000:=by
    have e0:((List.take j ks).flatMap numB).length+((List.drop j ks).flatMap numB).length=(List.flatMap numB ks).length:=by rw [←List.length_append,←List.flatMap_append,List.take_append_drop]
    rw [hys,List.length_append]
    simp only [List.length_append,List.length_cons,List.length_nil] at hb ⊢
    omega
   repeat first|refine go ?_|with_reducible intro _
   refine Wk.cond rfl (fun hc=>?_) (fun hc=>?_)
   ·have hlt:j < List.length ks:=by simp at hc;omega
    clear hc
    have ed:List.drop j ks=(ks)[j]::List.drop (j+1) ks:=List.drop_eq_getElem_cons hlt
    have hgk:getCells (List.map (Value.int .i64) ks) (j*1) 1=some [.int .i64 (ks)[j]]:=getCells_map hlt
    rw [ed,List.flatMap_cons,List.length_append] at hbd
    repeat first|refine go ?_|with_reducible intro _
    refine Wk.call rfl rfl (by first|exact Spl.l .nil|exact Spl.l (Spl.r .nil)|exact Spl.r (Spl.l .nil)|exact Spl.l (Spl.r (Spl.r .nil))|exact Spl.r (Spl.l (Spl.r .nil))|exact Spl.r (Spl.r (Spl.l .nil))) (enumber (ks)[j] (hnum _ (List.getElem_mem hlt)) Ev.wM) rfl rfl rfl ?_
    rintro v' Z' A' hz ⟨rfl,rfl⟩
    repeat first|refine go ?_|with_reducible intro _
    refine Wk.inv ⟨_,by omega,j+1,_,_,hlt,rfl,rfl,Sub.refl _,?_,Ev.kM⟩
    rw [hys,List.take_succ_eq_append_getElem hlt,List.flatMap_append,List.append_assoc]
    simp
   have hje:j=List.length ks:=by simp at hc;omega
   subst hje
   clear hc
   rw [List.take_length] at hys
   repeat first|refine go ?_|with_reducible intro _
   refine Wk.ret ⟨_,Rs.tmp rfl Rs.nil,_,.keep (Sub.none _),rfl,by rw [show xs++5::(countB ks.length++ks.flatMap numB)=ys by rw [hys];simp];rfl⟩
  ·obtain ⟨k0,ks',l',hk0,hks,hlk,hx,e⟩:=h.inv6 nb q
   cases e
   have hp:packE (El.mk 6 0 ks l)=6::(countB ks.length++packKs ks l):=packE_6
   rw [hp] at hb ⊢
   have hnum:=hks.num
   simp only [List.length_cons,List.length_append] at hb
   refine Cz.fn (f:=Tryz.f79) Ev.cM rfl rfl rfl _ rfl ?_
   repeat first|refine go ?_|with_reducible intro _
   rename_i b3
   refine Wk.bs (cs:=[.int .u8 (6)]) rfl rfl rfl rfl rfl rfl rfl fun b70=>?_
   refine Wk.append (kk:=1) (new:=[.int .u8 (6)]) rfl rfl rfl rfl rfl rfl rfl rfl Ev.rM (Src.lit Ev.hM rfl) rfl rfl rfl Ev.wM Ev.wM rfl rfl rfl fun v11=>?_
   refine Wk.dropr (B:=_::_) (.keep (.drop (Sub.refl _))) ?_
   rw [by8_snoc,len_snoc _ (6)]
   repeat first|refine go ?_|with_reducible intro _
   refine Wk.call rfl rfl (by first|exact Spl.l .nil|exact Spl.l (Spl.r .nil)|exact Spl.r (Spl.l .nil)|exact Spl.l (Spl.r (Spl.r .nil))|exact Spl.r (Spl.l (Spl.r .nil))|exact Spl.r (Spl.r (Spl.l .nil))) (ecount ks.length Ev.wM (by simp;omega)) rfl rfl rfl ?_
   rintro v12 Z' A' hz ⟨rfl,rfl⟩
   repeat first|refine go ?_|with_reducible intro _
   refine Wk.loop (fun mm L Z' A'=>∃ (j:Nat) (v9:Value) (ys:List Int),j≤ks.length∧mm=ks.length - j∧Z=Z'∧Sub A' [ol 1 v9 ys.length (by8 ys),pt b3 (.cells [.int .u8 6,.int .i64 0,.slice a1 ks.length c1,.slice a2 l.length c2] true 0)]∧ys++packKs (ks.drop j) (l.drop j)=xs++[6]++(countB ks.length++packKs ks l)∧Kp L [(0,v9),(3,.pointer (some ⟨b3,0,none⟩)),(35,.slice a1 ks.length c1),(36,.int .i64 ks.length),(37,.int .i64 j)]) ks.length ⟨0,v12,_,Nat.zero_le _,rfl,rfl,Sub.refl _,by simp,Ev.kM⟩ ?_
   rintro mm L Z' A' - ⟨j,v9,ys,hj,rfl,rfl,hsub,hys,hk⟩
   refine Wk.drop hsub ?_
   refine Wk.kp hk ?_
   clear hk hsub
   have hbd:ys.length+(packKs (ks.drop j) (l.drop j)).length≤1000000000:=by
    have:=congrArg List.length hys
    simp only [List.length_append,List.length_cons,List.length_nil] at this
    omega
   repeat first|refine go ?_|with_reducible intro _
   refine Wk.cond rfl (fun hc=>?_) (fun hc=>?_)
   ·have hlt:j < ks.length:=by simp at hc;omega
    have hlt2:j < l.length:=by omega
    clear hc
    have ed:ks.drop j=ks[j]::ks.drop (j+1):=List.drop_eq_getElem_cons hlt
    have ed2:l.drop j=l[j]::l.drop (j+1):=List.drop_eq_getElem_cons hlt2
    have hgk:getCells (ks.map (Value.int .i64)) (j*1) 1=some [.int .i64 ks[j]]:=getCells_map hlt
    obtain ⟨kk,nn,x1,m1,y1,x2,m2,y2,gi,qi⟩:=hL.get j hlt2
    rw [ed,ed2,packKs] at hbd hys
    simp only [List.length_append] at hbd
    repeat first|refine go ?_|with_reducible intro _
    refine Wk.call rfl rfl (by first|exact Spl.l .nil|exact Spl.l (Spl.r .nil)|exact Spl.r (Spl.l .nil)|exact Spl.l (Spl.r (Spl.r .nil))|exact Spl.r (Spl.l (Spl.r .nil))|exact Spl.r (Spl.r (Spl.l .nil))) (enumber ks[j] (hnum _ (List.getElem_mem hlt)) Ev.wM) rfl rfl rfl ?_
    rintro v' Z' A' hz ⟨rfl,rfl⟩
    repeat first|refine go ?_|with_reducible intro _
    refine Wk.call rfl rfl (by first|exact Spl.l .nil|exact Spl.l (Spl.r .nil)|exact Spl.r (Spl.l .nil)|exact Spl.l (Spl.r (Spl.r .nil))|exact Spl.r (Spl.l (Spl.r .nil))|exact Spl.r (Spl.r (Spl.l .nil))) (epack hmax d (hx _ (List.getElem_mem hlt2)).2 (fun g=>hg.2 ⟨_,List.getElem_mem hlt2,g⟩) qi (by simp only [List.length_append];omega)) rfl rfl rfl ?_
    rintro v' Z' A' hz ⟨rfl,rfl⟩
    repeat first|refine go ?_|with_reducible intro _
    refine Wk.inv ⟨_,by omega,j+1,_,_,hlt,rfl,rfl,Sub.refl _,?_,Ev.kM⟩
    rw [←hys]
    simp
   have hje:j=ks.length:=by simp at hc;omega
   subst hje
   clear hc
   rw [List.drop_length,show l.drop ks.length=[] from List.drop_eq_nil_of_le Ev.wM,packKs_nil,List.append_nil] at hys
   repeat first|refine go ?_|with_reducible intro _
   refine Wk.ret ⟨_,Rs.tmp rfl Rs.nil,_,.keep (Sub.none _),rfl,by rw [show xs++6::(countB ks.length++packKs ks l)=ys by rw [hys];simp];rfl⟩
  ·obtain ⟨k0,k1,x,y,hk0,hk1,hx,hy,hn,e⟩:=h.inv7 nb q
   cases e
   have hp:packE (El.mk 7 0 [] [x,y])=7::(packE x++packE y):=packE_7
   rw [hp] at hb ⊢
   simp only [List.length_cons,List.length_append] at hb
   obtain ⟨kx,nx,x1,m1,y1,x2,m2,y2,gx,qx⟩:=hL.get 0 (by simp)
   obtain ⟨ky,ny,x3,m3,y3,x4,m4,y4,gy,qy⟩:=hL.get 1 (by simp)
   have h0:0 < [x,y].length:=by simp
   have h1:1 < [x,y].length:=by simp
   refine Cz.fn (f:=Tryz.f79) Ev.cM rfl rfl rfl _ rfl ?_
   repeat first|refine go ?_|with_reducible intro _
   rename_i b3
   refine Wk.bs (cs:=[.int .u8 (7)]) rfl rfl rfl rfl rfl rfl rfl fun b70=>?_
   refine Wk.append (kk:=1) (new:=[.int .u8 (7)]) rfl rfl rfl rfl rfl rfl rfl rfl Ev.rM (Src.lit Ev.hM rfl) rfl rfl rfl Ev.wM Ev.wM rfl rfl rfl fun v11=>?_
   refine Wk.dropr (B:=_::_) (.keep (.drop (Sub.refl _))) ?_
   rw [by8_snoc,len_snoc _ (7)]
   repeat first|refine go ?_|with_reducible intro _
   refine Wk.loop (fun mm L Z' A'=>Z=Z'∧A'=[ol 1 v11 (List.length (xs++[7])) (by8 (xs++[7])),pt b3 (.cells [.int .u8 7,.int .i64 0,.slice a1 0 c1,.slice a2 (List.length [x,y]) c2] true 0)]∧Kp L [(0,v11),(3,.pointer (some ⟨b3,0,none⟩)),(35,.slice a1 0 c1),(36,.int .i64 0),(37,.int .i64 0)]) 0 ⟨rfl,rfl,Ev.kM⟩ ?_
   rintro mm L Z' A' - ⟨rfl,rfl,hk⟩
   refine Wk.kp hk ?_
   clear hk
   repeat first|refine go ?_|with_reducible intro _
   refine Wk.drawr (ms:=[0,0,2,6,14,31,0,64,192,448,1023,2047]) (l:=[0,1,2,3,4,6,7,8,9,5,10,11]) Ev.cM Ev.cM Ev.cM rfl ?_
   repeat first|refine go ?_|with_reducible intro _
   refine Wk.callD rfl rfl (Spl.l (Spl.r .nil)) (epack hmax d (xs:=xs++[7]) hx (fun g=>hg.2 ⟨x,by simp,g⟩) qx (by simp only [List.length_append,List.length_cons,List.length_nil];omega)) rfl rfl fun v' Z' A' hz hq=>?_
   obtain ⟨rfl,rfl⟩:=hq
   refine ⟨?_,?_⟩
   ·exact Ev.pM2
   repeat first|refine go ?_|with_reducible intro _
   refine Wk.callD rfl rfl (Spl.l (Spl.r .nil)) (epack hmax d (xs:=xs++[7]++packE x) hy (fun g=>hg.2 ⟨y,by simp,g⟩) qy (by simp only [List.length_append,List.length_cons,List.length_nil];omega)) rfl rfl fun v' Z' A' hz hq=>?_
   obtain ⟨rfl,rfl⟩:=hq
   refine ⟨?_,?_⟩
   ·exact Ev.pM2
   repeat first|refine go ?_|with_reducible intro _
   refine Wk.ret ⟨_,Rs.tmp rfl Rs.nil,_,.keep (Sub.none _),rfl,by rw [show xs++7::(packE x++packE y)=xs++[7]++packE x++packE y by simp];rfl⟩
end Go.Proofs.J
namespace Go.Proofs.J
open Go.Ev Go
def PB:Nat→Nat
 | 0=>0
 | d+1=>20+40*(20+PB d)
theorem countB_len:∀ (k n:Nat),n < 128 ^ k→(countB n).length≤k+1:=by
 intro k
 induction k with
 | zero =>
  intro n h
  rw [countB,if_pos (by simp at h;omega)];simp
 | succ k ih =>
  intro n h
  rw [countB]
  split
  ·simp
  ·simp only [List.length_cons]
   have:=ih (n / 128) (by rw [Nat.pow_succ] at h;omega)
   omega
theorem numB_len {n:Int} (h:NumOk n):(numB n).length≤6:=by
 obtain ⟨h1,h2⟩:=h
 refine countB_len 5 (zig n) ?_
 show zig n < 34359738368
 unfold zig
 split<;>omega
theorem flat_len:∀ {l:List Int},(∀ k∈l,NumOk k)→(l.flatMap numB).length≤6*l.length
 | [],_=>by simp
 | x::l,h=>by
  have:=numB_len (h x (List.mem_cons_self ..))
  have:=flat_len fun k hk=>h k (List.mem_cons_of_mem x hk)
  simp only [List.flatMap_cons,List.length_append,List.length_cons]
  omega
theorem pack_len {ts:List Tbl} (hmax:∀ (t:Tbl) (m:Nat) {s:ByteArray},Tof ts s t→m < t.elems.length→m≤1000000000):∀ {d:Nat} {s:Shp} {e:El},IsW ts d s e→¬ e.Great→(packE e).length≤PB d
 | 0,s,e,h,_=>absurd h (by simp [IsW])
 | d+1,s,e,h,g=>by
  rw [El.Great_iff,not_or] at g
  unfold PB
  by_cases nb:e=El.bot
  ·subst nb;rw [packE_0];simp;omega
  rcases h.kinds nb with q|q|q|q|q|q|q
  ·rw [h.inv1 nb q,packE_1];simp;omega
  ·obtain ⟨m,hm,rfl⟩:=h.inv2 nb q
   rw [packE_2];have:=numB_len hm;simp only [List.length_cons];omega
  ·rcases h.inv4 nb q with ⟨m,hm,rfl⟩|rfl
   ·rw [packE_2];have:=numB_len hm;simp only [List.length_cons];omega
   ·rw [packE_3];simp;omega
  ·obtain ⟨t,m,ht,m1,m2,rfl⟩:=h.inv5 nb q
   rw [packE_4,Int.toNat_natCast]
   have:=countB_len 5 m (by show m < 34359738368;have:=hmax t m ht m2;omega)
   simp only [List.length_cons];omega
  ·obtain ⟨ks,hks,rfl⟩:=h.inv3 nb q
   rw [packE_5]
   have h40:ks.length≤40:=by have:=g.1;simp only [El.keys] at this;omega
   have:=flat_len hks.num
   have:=countB_len 5 ks.length (by show ks.length < 34359738368;omega)
   simp only [List.length_cons,List.length_append];omega
  ·obtain ⟨k0,ks,l,hk0,hks,hl,hx,rfl⟩:=h.inv6 nb q
   rw [packE_6]
   have h40:ks.length≤40:=by have:=g.1;simp only [El.keys] at this;omega
   have:=countB_len 5 ks.length (by show ks.length < 34359738368;omega)
   have key:∀ (ks:List Int) (l:List El),(∀ k∈ks,NumOk k)→(∀ x∈l,IsW ts d k0 x∧¬ x.Great)→(packKs ks l).length≤ks.length*(6+PB d):=by
    intro ks
    induction ks with
    | nil=>intro l _ _;cases l<;>simp [packKs]
    | cons z ks ih =>
     intro l h1 h2
     cases l with
     | nil=>simp [packKs]
     | cons x l =>
      have a1:=numB_len (h1 z (List.mem_cons_self ..))
      have a2:=pack_len hmax (h2 x (List.mem_cons_self ..)).1 (h2 x (List.mem_cons_self ..)).2
      have a3:=ih l (fun k hk=>h1 k (List.mem_cons_of_mem _ hk)) (fun y hy=>h2 y (List.mem_cons_of_mem _ hy))
      rw [packKs]
      simp only [List.length_append,List.length_cons,Nat.add_mul,Nat.one_mul]
      omega
   have h1:=key ks l hks.num fun x hx0=>⟨(hx x hx0).2,fun r=>g.2 ⟨x,hx0,r⟩⟩
   have h2:ks.length*(6+PB d)≤40*(6+PB d):=Nat.mul_le_mul_right _ h40
   simp only [List.length_cons,List.length_append];omega
  ·obtain ⟨k0,k1,x,y,hk0,hk1,hx,hy,hn,rfl⟩:=h.inv7 nb q
   rw [packE_7]
   have a1:=pack_len hmax hx fun r=>g.2 ⟨x,by simp [El.kids],r⟩
   have a2:=pack_len hmax hy fun r=>g.2 ⟨y,by simp [El.kids],r⟩
   simp only [List.length_cons,List.length_append];omega
theorem tof_max {ts:List Tbl} (h:∀ t∈ts,t.Ok):∀ (t:Tbl) (m:Nat) {s:ByteArray},Tof ts s t→m < t.elems.length→m≤12:=fun t m s ht hm=>by
 have:=(h t ht.mem).2.2.1
 omega
open Classical in
noncomputable def BtE (l:Lat) (e:El):Int:=if ElsE l [e]≠0 then ElsE l [e] else if 20000 < (packE e).length then 5 else 0
open Classical in
noncomputable def BtB (l:Lat) (e:El):List Int:=if BtE l e=0 then packE e else []
theorem ElsE_one {l:Lat} {e:El} (h:ElsE l [e]=0):CSE l.1 l.2=0∧IsW l.1 4 l.2 e∧¬ e.Great:=by
 unfold ElsE at h
 split at h
 ·rename_i q;exact absurd h q
 ·rename_i q
  split at h
  ·rename_i r;exact ⟨Classical.not_not.1 q,IsE_iff.1 (r 0 (by simp))⟩
  ·cases h
theorem packFacts {l:Lat} {e:El} (h:ElsE l [e]=0):IsW l.1 4 l.2 e∧¬ e.Great∧(packE e).length≤1000000000:=by
 obtain ⟨h1,h2,h3⟩:=ElsE_one h
 refine ⟨h2,h3,?_⟩
 have:=pack_len (fun t m s ht hm=>by have:=tof_max (CSE_zero h1).2.1 t m ht hm;omega) h2 h3
 have e:PB 4=53825620:=rfl
 omega
theorem eBytes {Z:Zone} {cl ce:List Value} {l:Lat} {e:El} {dd:Nat} (hl:LatR Z cl l) (ht:l.Th) (he:ElR Z e ce) (hf:e.Fit dd) :
  Cz M (.func (.func 46) #[] #[]) [.agg ⟨cl⟩,.agg ⟨ce⟩] Z [] (fun v' Z' A'=>∃ w,v'=.tuple ⟨[w,.int .i64 (BtE l e)]⟩∧A'=[]∧Sl Z' 1 w (BtB l e).length (by8 (BtB l e))):=by
 have hl0:=hl
 have he0:=he
 obtain ⟨l1,l2,l3,l4,rfl,hT,hS⟩:=hl.form
 obtain ⟨q1,q2,q3,q4,use,rfl,ek,es,eL⟩:=he.form
 refine Cz.fn (f:=Tryz.f46) Ev.cM rfl rfl rfl _ rfl ?_
 repeat first|refine go ?_|with_reducible intro _
 rename_i b2 b3
 refine Wk.bs (cs:=[.int .u8 e.kind,.int .i64 e.n,.slice q1 e.keys.length q2,.slice q3 e.kids.length q4]) rfl rfl rfl rfl rfl rfl rfl fun b10=>?_
 refine Wk.alterr (C:=[ol 4 (.slice (some ⟨b10,0,none⟩) 1 1) 1 [.int .u8 e.kind,.int .i64 e.n,.slice q1 e.keys.length q2,.slice q3 e.kids.length q4]]) Rem.head (fun s h=>ol_of_pt (m:=1) (g:=0) rfl (.inl rfl) rfl h) ?_
 first|apply Wk.olFreezer (v:=.slice (some ⟨b10,0,none⟩) 1 1)|apply Wk.olFreeze (v:=.slice (some ⟨b10,0,none⟩) 1 1)
 case p=>repeat (first|exact Rem.head|apply Rem.tail)
 intro Z1 e1 h10
 have hEs:ElsR Z1 (.slice (some ⟨b10,0,none⟩) 1 1) [e]:=⟨_,h10,by simp only [ElRL];exact ⟨_,[],by simp,he0.mono e1,rfl⟩⟩
 have hF:∀ i (h:i < [e].length),([e][i]).Fit dd:=by
  intro i hi
  obtain rfl:i=0:=(by simpa using hi)
  exact hf
 repeat first|refine go ?_|with_reducible intro _
 refine Wk.call rfl rfl (Spl.none _) (open_E (hl0.mono e1) ht hEs (by simp) hF) rfl rfl rfl ?_
 rintro v' Z' A' hz ⟨⟨cs,rfl,hlen,hlr⟩,rfl,rfl⟩
 obtain ⟨a1,a2,a3,a4,rfl⟩:=list4 hlen
 obtain ⟨y1,y2,y3,y4,ey,_,_⟩:=hlr.form
 cases ey
 repeat first|refine go ?_|with_reducible intro _
 refine Wk.cond rfl (fun hc=>?_) (fun hc=>?_)
 ·have h0:ElsE l [e]≠0:=by simpa using hc
  have hE:BtE l e=ElsE l [e]:=by unfold BtE;rw [if_pos h0]
  have hB:BtB l e=[]:=by unfold BtB;rw [hE,if_neg h0]
  repeat first|refine go ?_|with_reducible intro _
  refine Wk.ret ⟨_,Rs.tmp rfl (Rs.tmp rfl Rs.nil),_,Sub.none _,_,by rw [hE];rfl,rfl,by rw [hB];exact Sl.nil⟩
 have h0:ElsE l [e]=0:=by simpa using hc
 clear hc
 obtain ⟨p1,p2,p3⟩:=packFacts h0
 have hmax:=tof_max (CSE_zero (ElsE_one h0).1).2.1
 repeat first|refine go ?_|with_reducible intro _
 refine Wk.olNilr 1 ?_
 refine Wk.call rfl rfl (Spl.l (Spl.none _)) (epack (xs:=[]) (fun t m s ht hm=>by have:=hmax t m ht hm;omega) 4 p1 p2 (he0.mono e1) (by simpa using p3)) rfl rfl rfl ?_
 rintro v' Z' A' hz ⟨rfl,rfl⟩
 rw [List.nil_append]
 first|refine Wk.knowr Ev.rM (fun s h=>ol.form (v:=v') h) ?_|refine Wk.know Ev.rM (fun s h=>ol.form (v:=v') h) ?_
 rintro ⟨a5,c5,rfl⟩
 repeat first|refine go ?_|with_reducible intro _
 refine Wk.cond rfl (fun hc=>?_) (fun hc=>?_)
 ·have hE:BtE l e=5:=by unfold BtE;rw [if_neg (fun k=>k h0),if_pos (by simp at hc;omega)]
  have hB:BtB l e=[]:=by unfold BtB;rw [hE];rfl
  repeat first|refine go ?_|with_reducible intro _
  refine Wk.ret ⟨_,Rs.tmp rfl (Rs.tmp rfl Rs.nil),_,Sub.none _,_,by rw [hE];rfl,rfl,by rw [hB];exact Sl.nil⟩
 ·have hE:BtE l e=0:=by unfold BtE;rw [if_neg (fun k=>k h0),if_neg (by simp at hc;omega)]
  have hB:BtB l e=packE e:=by unfold BtB;rw [hE];rfl
  first|apply Wk.olFreezer (v:=.slice a5 (packE e).length c5)|apply Wk.olFreeze (v:=.slice a5 (packE e).length c5)
  case p=>repeat (first|exact Rem.head|apply Rem.tail)
  intro Z2 e2 hP
  repeat first|refine go ?_|with_reducible intro _
  refine Wk.ret ⟨_,Rs.tmp rfl (Rs.tmp rfl Rs.nil),_,Sub.none _,_,by rw [hE];rfl,rfl,by rw [hB];exact hP⟩
end Go.Proofs.J
namespace Go.Proofs.J
open Go.Ev Go
end Go.Proofs.J
namespace Go.Proofs.J
open Go.Ev Go
end Go.Proofs.J
namespace Go.Proofs.J
open Go.Ev Go
end Go.Proofs.J
namespace Go.Proofs.J
open Go.Ev Go
theorem ElRL.length {Z:Zone}:∀ {l:List El} {us:List Value},ElRL Z l us→us.length=l.length*4
 | [],us,h=>by simp only [ElRL] at h;subst h;rfl
 | s::r,us,h=>by
  simp only [ElRL] at h
  obtain ⟨c,rest,rfl,h1,h2⟩:=h
  obtain ⟨a1,c1,a2,c2,us',rfl,_⟩:=h1.form
  have:=ElRL.length h2
  simp only [List.length_append,List.length_cons,List.length_nil,this];omega
end Go.Proofs.J
