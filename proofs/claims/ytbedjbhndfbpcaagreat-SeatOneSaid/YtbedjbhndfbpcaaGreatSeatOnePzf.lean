/- Texts of the proof. -/
import Derived.Test.YtbedjbhndfbpcaaGreatSeatOnePm
import Derived.Test.YtbedjbhndfbpcaaGreatSeatOnePr
set_option linter.unusedVariables false
set_option linter.unusedSimpArgs false
namespace Go.Proofs
set_option linter.unusedSimpArgs false
open Go.Tm
def zfh:Int->List Int->Bool
 | _,[]=>true
 |last,n::r=>decide (last<n)&&decide (n<6)&&zfh n r
def gen:Nat->Int->List (List Int)
 |0,_=>[[]]
 |f+1,lo=>gen f (lo+1)++(gen f (lo+1)).map fun r=>(lo+1)::r
theorem ya3l:∀(f:Nat) (lo:Int),[]∈gen f lo
 |0,_=>by simp[gen]
 |f+1,lo=>by simp only[gen,List.mem_append];exact .inl (ya3l f _)
theorem zqi:∀(f:Nat) (lo:Int) (l:List Int),5-lo<=f->zfh lo l=true->l∈gen f lo
 |f,lo,[],_,_=>ya3l f lo
 |0,lo,x::r,hf,h=>by
  simp only[zfh,za0,decide_eq_true_eq] at h
  omega
 |f+1,lo,x::r,hf,h=>by
  have h':=h
  simp only[zfh,za0,decide_eq_true_eq] at h'
  simp only[gen,List.mem_append,List.mem_map]
  by_cases hx:x=lo+1
  ·subst hx
   exact .inr ⟨r,zqi f (lo+1) r (by omega) h'.2,rfl⟩
  ·refine .inl (zqi f (lo+1) (x::r) (by omega) ?_)
   simp only[zfh,za0,decide_eq_true_eq]
   exact⟨⟨by omega,h'.1.2⟩,h'.2⟩
def setB(l:List Int):Int:=l.foldl (fun s n=>bif decide (n>=0)&&decide (n<6) then bitw .or .u64 s (shw true .u64 1 n) else s) 0
def hasI(l:List Int)(n:Int):Bool:=l.any fun x=>x==n
def popI(n:Int):Int:=
 let a:=wr .u64 (bitw .and .u64 (shw false .u64 n 1) 6148914691236517205+bitw .and .u64 n 6148914691236517205)
 let b:=wr .u64 (bitw .and .u64 (shw false .u64 a 2) 3689348814741910323+bitw .and .u64 a 3689348814741910323)
 let c:=bitw .and .u64 (wr .u64 (shw false .u64 b 4+b)) 1085102592571150095
 let d:=wr .u64 (c+shw false .u64 c 8)
 let e:=wr .u64 (d+shw false .u64 d 16)
 let f:=wr .u64 (e+shw false .u64 e 32)
 bitw .and .i64 (wr .i64 f) 127
def mask(p:Int->Bool):List Int:=[0,1,2,3,4,5].filter p
theorem ya0f(p:Int->Bool):mask p∈gen 6 (-1):=by
 refine zqi 6 (-1) _ (by omega) ?_
 unfold mask
 cases h0:p 0<;>cases h1:p 1<;>cases h2:p 2<;>cases h3:p 3<;>cases h4:p 4<;>cases h5:p 5<;>simp[h0,h1,h2,h3,h4,h5,zfh]
def zve(s n:Int):Int:=bif decide (n>=0)&&decide (n<6) then bitw .or .u64 s (shw true .u64 1 n) else s
theorem ya2s(l:List Int)(n:Int):setB (l++[n])=zve (setB l) n:=by
 unfold setB
 rw[List.foldl_append]
 rfl
theorem ya5c:((gen 6 (-1)).all fun k=>[0,1,2,3,4,5].all fun n=>zve (setB k) n==setB (mask fun x=>hasI k x||x==n))=true:=by decide+kernel
theorem zuu{p q:Int->Bool}(h:∀x∈[(0:Int),1,2,3,4,5],p x=q x):mask p=mask q:=by
 unfold mask
 exact List.filter_congr h
theorem zxj(p:Int->Bool)(x:Int)(hx:x∈[(0:Int),1,2,3,4,5]):hasI (mask p) x=p x:=by
 unfold hasI mask
 rw[List.any_filter]
 simp only[List.any_cons,List.any_nil]
 simp only[List.mem_cons,List.not_mem_nil,or_false] at hx
 rcases hx with rfl|rfl|rfl|rfl|rfl|rfl<;>simp
theorem zxi(l:List Int)(n x:Int):hasI (l++[n]) x=(hasI l x||n==x):=by
 unfold hasI
 simp
theorem ya2t(l:List Int):setB l=setB (mask (hasI l)):=by
 generalize hm:l.reverse=r
 have hl:l=r.reverse:=by rw[<-hm,List.reverse_reverse]
 clear hm
 subst hl
 induction r with
 |nil=>decide+kernel
 |cons n r ih=>
  rw[List.reverse_cons,ya2s,ih]
  by_cases hn:n∈[(0:Int),1,2,3,4,5]
  ·have h:=List.all_eq_true.1 (List.all_eq_true.1 ya5c _ (ya0f (hasI r.reverse))) n hn
   rw[eq_of_beq h]
   congr 1
   refine zuu fun x hx=>?_
   rw[zxj _ x hx,zxi]
   congr 1
   rw[Bool.eq_iff_iff,beq_iff_eq,beq_iff_eq]
   exact eq_comm
  ·have h1:zve (setB (mask (hasI r.reverse))) n=setB (mask (hasI r.reverse)):=by
    unfold zve
    have:(decide (n>=0)&&decide (n<6))=false:=by
     rw[Bool.eq_false_iff]
     intro hh
     simp only[za0,decide_eq_true_eq] at hh
     exact hn (by simp only[List.mem_cons,List.not_mem_nil,or_false];omega)
    rw[this];rfl
   rw[h1]
   congr 1
   refine zuu fun x hx=>?_
   rw[zxi]
   have:(n==x)=false:=by
    rw[Bool.eq_false_iff]
    intro hh
    rw[eq_of_beq hh] at hn
    exact hn hx
   rw[this,Bool.or_false]
theorem ya73:((gen 6 (-1)).all fun m=>(gen 6 (-1)).all fun k=>popI (bitw .and .u64 (setB m) (setB k))==((m.filter (hasI k)).length:Int))=true:=by decide+kernel
theorem ya32{m:List Int}(hm:zfh (-1) m=true):∀x∈m,x∈[(0:Int),1,2,3,4,5]:=by
 have key:∀(l:List Int) (k:Int),zfh k l=true->∀x∈l,k<x/\x<6:=by
  intro l
  induction l with
  |nil=>intro _ _ x hx;cases hx
  |cons y l ih=>
   intro k h x hx
   simp only[zfh,za0,decide_eq_true_eq] at h
   rcases List.mem_cons.1 hx with rfl|hx
   ·exact h.1
   ·have:=ih y h.2 x hx
    omega
 intro x hx
 have:=key m (-1) hm x hx
 simp only[List.mem_cons,List.not_mem_nil,or_false]
 omega
theorem ya3g{m:List Int}(hm:zfh (-1) m=true)(s:List Int):popI (bitw .and .u64 (setB m) (setB s))=((m.filter (hasI s)).length:Int):=by
 rw[ya2t s]
 have h:=List.all_eq_true.1 (List.all_eq_true.1 ya73 m (zqi 6 (-1) m (by omega) hm)) _ (ya0f (hasI s))
 rw[eq_of_beq h]
 congr 2
 exact List.filter_congr fun x hx=>zxj _ x (ya32 hm x hx)
theorem ya1o(l:List TPromise):∀acc:List Int,acc.length+l.length<1000000->zc2 l acc=some (acc++l.map TPromise.Node):=by
 induction l with
 |nil=>intro acc _;simp[zc2]
 |cons y l ih=>
  intro acc h
  simp only[zak] at h
  rw[zc2,if_pos (by simp;omega),ih _ (by simp;omega)]
  simp
theorem ya0b(l:List TPromise)(h:l.length<1000000):zdd l=some (l.map TPromise.Node):=by
 rw[zdd,ya1o l [] (by simpa using h)];rfl
def zoc:List TPromise->List UInt8->Int->List UInt8
 |[],s,_=>s
 |y::l,s,n=>if y.Ballot>n then zoc l y.Value y.Ballot else zoc l s n
theorem ya4r(l:List TPromise):∀s n,zd4 l s n=some (zoc l s n):=by
 induction l with
 |nil=>intro s n;rfl
 |cons y l ih=>
  intro s n
  rw[zd4,zoc]
  split<;>simp only[za1]<;>exact ih _ _
theorem ya4s(l:List TPromise)(w:List UInt8):zfs l w=some (zoc l w 0):=by
 rw[zfs,ya4r];rfl
theorem zux(v:Int)(l:List Int):∀n:Nat,(v∈l->∃k:Nat,zbg v l n=some (.inl (k:Int)))/\(v∉l->zbg v l n=some (.inr ())):=by
 induction l with
 |nil=>intro n;exact⟨(fun h=>by cases h),fun _=>rfl⟩
 |cons y l ih=>
  intro n
  rw[zbg]
  by_cases h:v=y
  rw[if_pos h]
  exact⟨fun _=>⟨n,rfl⟩,fun hn=>absurd (h▸List.mem_cons_self) hn⟩
  rw[if_neg h]
  refine⟨fun hv=>(ih (n+1)).1 ?_,fun hv=>(ih (n+1)).2 fun hh=>hv (zaw _ hh)⟩
  rcases List.mem_cons.1 hv with hv|hv
  exact absurd hv h
  exact hv
theorem zpn(l:List Int)(v:Int):zdl l v=some (decide (v∈l)):=by
 rw[zdl,zea,zfg]
 by_cases h:v∈l
 obtain⟨k,hk⟩:=(zux v l 0).1 h
 rw[hk]
 simp[h]
 rw[(zux v l 0).2 h]
 simp[h]
theorem zpa:∀(l:List Int) (k:Int),zfh k l=true->∀x∈l,k<x/\x<6:=by
 intro l
 induction l with
 |nil=>intro _ _ x hx;cases hx
 |cons y l ih=>
  intro k h x hx
  simp only[zfh,za0,decide_eq_true_eq] at h
  rcases List.mem_cons.1 hx with rfl|hx
  exact h.1
  have:=ih y h.2 x hx
  omega
theorem zyl(l:List Int):∀n,zcm l n=some (if zfh n l=true then .inr (l.getLastD n) else .inl 60):=by
 induction l with
 |nil=>intro n;simp[zcm,zfh]
 |cons y l ih=>
  intro n
  rw[zcm]
  by_cases h:(y<=n)\/(y>=6)
  rw[if_pos h,if_neg (by simp only[zfh,za0,decide_eq_true_eq];omega)]
  rw[if_neg h,ih]
  have:zfh n (y::l)=zfh y l:=by
   simp only[zfh]
   have h1:decide (n<y)=true:=by simp;omega
   have h2:decide (y<6)=true:=by simp;omega
   simp[h1,h2]
  rw[this,List.getLastD_cons]
def QOk(l:List Int):Prop:=l.length<=6/\zfh (-1) l=true/\l≠[]
instance(l:List Int):Decidable (QOk l):=by unfold QOk;infer_instance
theorem zlr(l:List Int):zcd l=some (if l.length>6 then 4 else if zfh (-1) l=true/\l≠[] then 0 else 60):=by
 rw[zcd]
 by_cases h:(l.length:Int)>6
 rw[if_pos h,if_pos (by omega)]
 rw[if_neg h,if_neg (by omega),zyl]
 by_cases hr:zfh (-1) l=true
 rw[if_pos hr]
 cases l with
 |nil=>simp
 |cons y l=>
  have hl:=(zpa (y::l) (-1) hr ((y::l).getLastD (-1)) (by rw[List.getLastD_eq_getLast?,List.getLast?_eq_some_getLast (by simp)];exact List.getLast_mem (by simp))).1
  simp only[za1,ne_eq,reduceCtorEq,not_false_eq_true,and_true,if_pos hr]
  rw[if_neg (by omega)]
 rw[if_neg hr]
 simp[hr]
theorem zna(l:List Int):zcd l=some 0↔QOk l:=by
 rw[zlr]
 unfold QOk
 by_cases h:l.length>6
 rw[if_pos h];simp;omega
 rw[if_neg h]
 by_cases h2:zfh (-1) l=true/\l≠[]
 rw[if_pos h2];simp only[true_iff];exact⟨by omega,h2⟩
 rw[if_neg h2];simp;intro _ h3;exact Classical.byContradiction fun h4=>h2 ⟨h3,h4⟩
def BOk(b:Int):Prop:=¬(wr .i64 (b.tdiv 8)<1\/wr .i64 (b.tdiv 8)>1048576)/\b.tmod 8>=0/\b.tmod 8<6
instance(b:Int):Decidable (BOk b):=by unfold BOk;infer_instance
theorem zkv(b:Int):zcy b=some (if BOk b then 0 else 50):=by
 rw[zcy,zi7,zgl]
 unfold BOk
 by_cases h:wr .i64 (b.tdiv 8)<1\/wr .i64 (b.tdiv 8)>1048576
 simp[h]
 by_cases h1:b.tmod 8>=0<;>by_cases h2:b.tmod 8<6<;>simp[h,h1,h2]
def MayS(p:TPromise)(b:Int):Prop:=if p.Ballot=0 then p.Value=[] else BOk p.Ballot/\p.Ballot<b/\p.Value.length<=1024
instance(p:TPromise)(b:Int):Decidable (MayS p b):=by unfold MayS;infer_instance
theorem ya6d(p:TPromise)(b:Int):zhj p b=some (decide (MayS p b)):=by
 rw[zhj,zkv]
 by_cases h:p.Ballot=0
 have e:MayS p b↔p.Value=[]:=by unfold MayS;rw[if_pos h]
 have e2:decide (MayS p b)=decide (p.Value=[]):=decide_eq_decide.2 e
 rw[if_pos h,e2]
 congr 1
 rw[Bool.eq_iff_iff]
 simp
 have e:MayS p b↔(BOk p.Ballot/\p.Ballot<b/\p.Value.length<=1024):=by unfold MayS;rw[if_neg h]
 have e2:decide (MayS p b)=decide (BOk p.Ballot/\p.Ballot<b/\p.Value.length<=1024):=decide_eq_decide.2 e
 rw[if_neg h,e2]
 by_cases h1:BOk p.Ballot<;>simp[h1]
 rw[Bool.eq_iff_iff]
 simp
 intro _
 omega
def zhq(m:List Int):Option Int->List Int->Bool
 | _,[]=>true
 |k,y::l=>(match k with|none=>true|some k=>decide (k<y))&&decide (y∈m)&&zhq m (some y) l
theorem zyg(m a0:List Int):∀(l:List Int) (n:Nat),a0.drop n=l->zc6 a0 m l n=some (if zhq m (if n=0 then none else some (a0.getD (n-1) default)) l=true then .inr () else .inl false):=by
 intro l
 induction l with
 |nil=>intro n _;simp[zc6,zhq]
 |cons y l ih=>
  intro n h
  have hn:n<a0.length:=by
   rcases Nat.lt_or_ge n a0.length with h1|h1
   exact h1
   rw[List.drop_eq_nil_of_le h1] at h;cases h
  have hy:a0.getD n default=y:=by
   have:=za7 hn
   rw[h] at this
   simp only[List.cons.injEq] at this
   simp[List.getD,List.getElem?_eq_getElem hn,this.1]
  have hl:a0.drop (n+1)=l:=by
   have:=za7 hn
   rw[h] at this
   simp only[List.cons.injEq] at this
   exact this.2.symm
  rw[zc6,zpn]
  have key:=ih (n+1) hl
  rw[if_neg (show ¬(n+1=0) by omega),show n+1-1=n from rfl,hy] at key
  by_cases h0:n=0
  subst h0
  by_cases hm:y∈m
  simp[hm,key,zhq]
  simp[hm,zhq]
  have hp:(n:Int)>0:=by omega
  rw[if_neg h0]
  generalize a0.getD (n-1) default=z
  by_cases hle:y<=z
  have:¬(z<y):=by omega
  have hn0:0<n:=by omega
  simp[hle,zhq,this,h0,hn0]
  have:z<y:=by omega
  by_cases hm:y∈m
  simp[hle,zhq,this,hm,key]
  simp[hle,zhq,this,hm]
theorem ya31(l m:List Int):ze0 l m=some (zhq m none l):=by
 rw[ze0,zyg m l l 0 (by simp)]
 rw[if_pos rfl]
 cases h:zhq m none l<;>simp
theorem ya5d(l:List Int):∀s,zdv l s=some (l.foldl (fun s n=>bif decide (n>=0)&&decide (n<6) then bitw .or .u64 s (shw true .u64 1 n) else s) s):=by
 induction l with
 |nil=>intro s;rfl
 |cons y l ih=>
  intro s
  rw[zdv,List.foldl_cons]
  by_cases h0:y>=0
  by_cases h6:y<6
  have:0<=y:=h0
  simp[h0,h6,this,ih]
  simp[h0,h6,ih]
  simp[h0,ih]
theorem zuk(l:List Int):zgf l=some (setB l):=by
 rw[zgf,ya5d];rfl
theorem ya76(n:Int):zed n=some (popI n):=by
 rw[zed,zf1]
 rfl
def zhg(m l:List Int):Bool:=decide (((m.filter (hasI l)).length:Int)>=(m.length/2+1:Nat))
theorem ya7a(m l:List Int)(hm:QOk m)(hl:l.length<=1000):zis m l=some (zhg m l,0):=by
 have hn:wr .i64 (wr .i64 ((m.length:Int).tdiv 2)+1)=((m.length/2+1:Nat):Int):=by
  have h6:=hm.1
  generalize m.length=k at h6
  match k,h6 with
  |0,_=>decide+kernel
  |1,_=>decide+kernel
  |2,_=>decide+kernel
  |3,_=>decide+kernel
  |4,_=>decide+kernel
  |5,_=>decide+kernel
  |6,_=>decide+kernel
  |k+7,h=>omega
 rw[zis,zjz,(zna m).2 hm]
 simp only[za1,not_true_eq_false,if_false,hn]
 rw[if_neg (by omega),zuk,zuk]
 simp only[za1,ya76,ya3g hm.2.1 l]
 rfl
theorem zoi(f:TPromise->Option Bool)(g:TPromise->Bool)(hf:∀x,f x=some (g x))(l:List TPromise):∀n:Nat,(l.any g=true->∃k:Nat,zax f l n=some (.inl (k:Int)))/\(l.any g=false->zax f l n=some (.inr ())):=by
 induction l with
 |nil=>intro n;exact⟨(fun h=>by cases h),fun _=>rfl⟩
 |cons y l ih=>
  intro n
  rw[zax,hf,List.any_cons]
  cases hg:g y with
  |true=>exact⟨fun _=>⟨n,by simp⟩,fun h=>by cases h⟩
  |false=>simpa using ih (n+1)
theorem ztn(f:TPromise->Option Bool)(g:TPromise->Bool)(hf:∀x,f x=some (g x))(l:List TPromise):zbf l f=some (l.any g):=by
 rw[zbf,zcj]
 cases h:l.any g with
 |true=>obtain⟨k,hk⟩:=(zoi f g hf l 0).1 h;rw[hk];simp
 |false=>rw[(zoi f g hf l 0).2 h];simp
theorem ya1w(b:List Int):∀(l:List Int) (n:Nat),n+l.length=b.length->zbh b l n=some (if l=b.drop n then .inr () else .inl false):=by
 intro l
 induction l with
 |nil=>intro n h;simp[zbh];simp at h;omega
 |cons y l ih=>
  intro n h
  simp only[zak] at h
  have hn:n<b.length:=by omega
  have hg:b.getD n default=b[n]:=by simp[List.getD,List.getElem?_eq_getElem hn]
  have hd:=za7 hn
  rw[zbh,if_pos hn,hg]
  generalize b[n]=z at hd
  rw[hd]
  by_cases hy:y=z
  rw[if_neg (by simpa using hy),ih (n+1) (by omega)]
  simp only[hy,List.cons.injEq,true_and]
  rw[if_pos hy]
  simp only[hy,List.cons.injEq,false_and,if_false]
theorem zrw(a b:List Int):zbx a b=some (decide (a=b)):=by
 rw[zbx]
 by_cases h:(a.length:Int)=(b.length:Int)
 rw[if_neg (by simpa using h),ya1w b a 0 (by omega),List.drop_zero]
 by_cases hab:a=b<;>simp[hab]
 rw[if_pos h]
 have:a≠b:=fun hh=>h (by rw[hh])
 simp[this]
theorem zz8(b:List TPromise):∀(l:List TPromise) (n:Nat),n+l.length=b.length->zb1 b l n=some (if l=b.drop n then .inr () else .inl false):=by
 intro l
 induction l with
 |nil=>intro n h;simp[zb1];simp at h;omega
 |cons y l ih=>
  intro n h
  simp only[zak] at h
  have hn:n<b.length:=by omega
  have hg:b.getD n default=b[n]:=by simp[List.getD,List.getElem?_eq_getElem hn]
  have hd:=za7 hn
  rw[zb1,if_pos hn,hg]
  generalize b[n]=z at hd
  rw[hd]
  have e:(y.Node=z.Node/\y.Ballot=z.Ballot/\y.Value=z.Value)↔y=z:=by cases y;cases z;simp
  by_cases hy:y=z
  rw[if_neg (by simpa using e.2 hy),ih (n+1) (by omega)]
  simp only[hy,List.cons.injEq,true_and]
  rw[if_pos (fun hh=>hy (e.1 hh))]
  simp only[hy,List.cons.injEq,false_and,if_false]
theorem ya4g(a b:List TPromise):zce a b=some (decide (a=b)):=by
 rw[zce]
 by_cases h:(a.length:Int)=(b.length:Int)
 rw[if_neg (by simpa using h),zz8 b a 0 (by omega),List.drop_zero]
 by_cases hab:a=b<;>simp[hab]
 rw[if_pos h]
 have:a≠b:=fun hh=>h (by rw[hh])
 simp[this]
theorem ya6s(a b:TAttempt):zhv a b=some (decide (a=b)):=by
 obtain⟨p,bl,m,w,v,pr,ac⟩:=a
 obtain⟨p',bl',m',w',v',pr',ac'⟩:=b
 simp only[zhv,zrw,ya4g,TAttempt.mk.injEq]
 by_cases h1:p=p'<;>by_cases h2:bl=bl'<;>by_cases h3:m=m'<;>by_cases h4:w=w'<;>by_cases h5:v=v'<;>by_cases h6:pr=pr'<;>simp[h1,h2,h3,h4,h5,h6]
structure Kept (a:TAttempt):Prop where
 ballot:BOk a.Ballot
 members:QOk a.Members
 wish:a.Wish.length<=1024
 nodes:zhq a.Members none (a.Promises.map TPromise.Node)=true
 accepted:zhq a.Members none a.Accepted=true
 may:∀p∈a.Promises,MayS p a.Ballot
 most:zhg a.Members (a.Promises.map TPromise.Node)=decide (a.Phase>1)
 chosen:zhg a.Members a.Accepted=(a.Phase==3)
 value:a.Phase=1\/a.Value=zoc a.Promises a.Wish 0
def zkw(a:TAttempt):Prop:=
 if a.Phase=0 then a=⟨0,0,[],[],[],[],[]⟩
 else((a.Phase=1/\a.Value=[]/\a.Accepted=[])\/a.Phase=2\/a.Phase=3)/\Kept a
theorem ya51(l:List TPromise)(b:Int):(l.any fun x=>!decide (MayS x b))=true↔¬∀p∈l,MayS p b:=by
 simp
theorem ya1h:∀(l:List Int) (k:Int),zfh k l=true->k<6->(l.length:Int)<=5-k:=by
 intro l
 induction l with
 |nil=>intro k _ h;simp;omega
 |cons y l ih=>
  intro k h hk
  simp only[zfh,za0,decide_eq_true_eq] at h
  have:=ih y h.2 h.1.2
  simp only[zak]
  omega
theorem zwz{m:List Int}(hm:QOk m):∀(l:List Int) (k:Int),zhq m (some k) l=true->zfh k l=true:=by
 intro l
 induction l with
 |nil=>intro _ _;rfl
 |cons y l ih=>
  intro k h
  simp only[zhq,za0,decide_eq_true_eq] at h
  have:=(zpa m (-1) hm.2.1 y h.1.2).2
  simp only[zfh,za0,decide_eq_true_eq]
  exact⟨⟨h.1.1,this⟩,ih y h.2⟩
theorem ya1i{m:List Int}(hm:QOk m)(l:List Int)(h:zhq m none l=true):zfh (-1) l=true:=by
 cases l with
 |nil=>rfl
 |cons y l=>
  simp only[zhq,za0,decide_eq_true_eq,true_and] at h
  have:=zpa m (-1) hm.2.1 y h.1
  simp only[zfh,za0,decide_eq_true_eq]
  exact⟨this,zwz hm l y h.2⟩
theorem zlp{m:List Int}(hm:QOk m)(l:List Int)(h:zhq m none l=true):l.length<=6:=by
 have:=ya1h l (-1) (ya1i hm l h) (by omega)
 omega
theorem zrx(m l:List Int)(hm:QOk m)(hl:l.length<=1000):zde m l=some (zhg m l):=by
 rw[zde,ya7a m l hm hl];rfl
theorem ya4p(x:TPromise)(a:TAttempt):ze5 x a=some (!decide (MayS x a.Ballot)):=by
 rw[ze5,ya6d];rfl
theorem zsk{m:List Int}(h:¬QOk m):∃e,zcd m=some e/\e≠0:=by
 have h2:zcd m≠some 0:=fun hh=>h ((zna m).1 hh)
 rw[zlr] at h2 ⊢
 exact⟨_,rfl,fun hh=>h2 (by rw[hh])⟩
theorem ya5t(a:TAttempt):Kept a↔BOk a.Ballot/\QOk a.Members/\a.Wish.length<=1024/\zhq a.Members none (a.Promises.map TPromise.Node)=true/\zhq a.Members none a.Accepted=true/\(∀p∈a.Promises,MayS p a.Ballot)/\zhg a.Members (a.Promises.map TPromise.Node)=decide (a.Phase>1)/\zhg a.Members a.Accepted=(a.Phase==3)/\(a.Phase=1\/a.Value=zoc a.Promises a.Wish 0):=
 ⟨fun h=>⟨h.1,h.2,h.3,h.4,h.5,h.6,h.7,h.8,h.9⟩,fun⟨h1,h2,h3,h4,h5,h6,h7,h8,h9⟩=>⟨h1,h2,h3,h4,h5,h6,h7,h8,h9⟩⟩
def zpt(a0:TAttempt)(b2:Bool):Option Bool:=
 Option.bind (if b2=true then zcy a0.Ballot else some default) fun v2=>
 Option.bind (if(b2=true)/\(v2=0) then zcd a0.Members else some default) fun v3=>
 Option.bind (if(((b2=true)/\(v2=0))/\(v3=0))/\((a0.Wish.length:Int)<=1024) then zdd a0.Promises else some default) fun v4=>
 Option.bind (if(((b2=true)/\(v2=0))/\(v3=0))/\((a0.Wish.length:Int)<=1024) then ze0 v4 a0.Members else some default) fun v5=>
 Option.bind (if((((b2=true)/\(v2=0))/\(v3=0))/\((a0.Wish.length:Int)<=1024))/\(v5=true) then ze0 a0.Accepted a0.Members else some default) fun v6=>
 Option.bind (if(((((b2=true)/\(v2=0))/\(v3=0))/\((a0.Wish.length:Int)<=1024))/\(v5=true))/\(v6=true) then zbf a0.Promises (fun x0=>ze5 x0 a0) else some default) fun v7=>
 Option.bind (if((((((b2=true)/\(v2=0))/\(v3=0))/\((a0.Wish.length:Int)<=1024))/\(v5=true))/\(v6=true))/\(¬(v7=true)) then zdd a0.Promises else some default) fun v8=>
 Option.bind (if((((((b2=true)/\(v2=0))/\(v3=0))/\((a0.Wish.length:Int)<=1024))/\(v5=true))/\(v6=true))/\(¬(v7=true)) then zde a0.Members v8 else some default) fun v9=>
 Option.bind (if(((((((b2=true)/\(v2=0))/\(v3=0))/\((a0.Wish.length:Int)<=1024))/\(v5=true))/\(v6=true))/\(¬(v7=true)))/\((v9==(decide (a0.Phase>1)))=true) then zde a0.Members a0.Accepted else some default) fun v10=>
 Option.bind (if(((((((((b2=true)/\(v2=0))/\(v3=0))/\((a0.Wish.length:Int)<=1024))/\(v5=true))/\(v6=true))/\(¬(v7=true)))/\((v9==(decide (a0.Phase>1)))=true))/\((v10==(a0.Phase==3))=true))/\(¬(a0.Phase=1)) then zfs a0.Promises a0.Wish else some default) fun v11=>
 some (((((((((b2&&(v2==0))&&(v3==0))&&(decide ((a0.Wish.length:Int)<=1024)))&&v5)&&v6)&&(!v7))&&(v9==(decide (a0.Phase>1))))&&(v10==(a0.Phase==3)))&&((a0.Phase==1)||(a0.Value==v11)))
theorem ya6o(a:TAttempt)(hl:a.Promises.length<1000000)(b2:Bool):∃r,zpt a b2=some r/\(r=true↔b2=true/\Kept a):=by
 unfold zpt
 rw[ya5t]
 cases b2 with
 |false=>simp
 |true=>
  rw[zkv]
  by_cases hb:BOk a.Ballot
  by_cases hq:QOk a.Members
  have hq0:=(zna _).2 hq
  by_cases hw:a.Wish.length<=1024
  have hw':(a.Wish.length:Int)<=1024:=by omega
  simp only[hb,hq0,hw',if_true,and_self,za1,ya0b _ hl,ya31]
  by_cases h5:zhq a.Members none (a.Promises.map TPromise.Node)=true
  by_cases h6:zhq a.Members none a.Accepted=true
  have l1:=zlp hq _ h5
  have l2:=zlp hq _ h6
  rw[ztn _ (fun x=>!decide (MayS x a.Ballot)) (fun x=>ya4p x a)]
  simp only[h5,h6,and_self,if_true,za1]
  by_cases h7:∀p∈a.Promises,MayS p a.Ballot
  have h7':(a.Promises.any fun x=>!decide (MayS x a.Ballot))=false:=by
   rw[Bool.eq_false_iff];intro hh;exact(ya51 _ _).1 hh h7
  simp only[h7',zb0,not_false_eq_true,and_self,if_true,za1,zrx _ _ hq (zao l1 (by omega)),zrx _ _ hq (zao l2 (by omega)),ya4s]
  by_cases h9:zhg a.Members (a.Promises.map TPromise.Node)=decide (a.Phase>1)
  by_cases h10:zhg a.Members a.Accepted=(a.Phase==3)
  by_cases h11:a.Phase=1
  simp[h9,h10,h11,hq,hw]
  exact h7
  simp[h9,h10,h11,hq,hw]
  exact fun _=>h7
  simp[h9,h10]
  simp[h9]
  have h7':=(ya51 _ _).2 h7
  simp[h7',h7]
  simp[h5,h6]
  simp[h5]
  have hw':¬(a.Wish.length:Int)<=1024:=by omega
  simp[hb,hq0,hw,hw']
  obtain⟨e,he,hne⟩:=zsk hq
  simp[hb,he,hne,hq]
  simp[hb]
theorem zw9(a:TAttempt)(hl:a.Promises.length<1000000):∃e,zfb a=some e/\(e=0↔zkw a):=by
 unfold zkw
 rw[zfb]
 by_cases h0:a.Phase=0
 rw[if_pos h0,if_pos h0,ya6s]
 by_cases hz:a=⟨0,0,[],[],[],[],[]⟩<;>simp[hz]
 rw[if_neg h0,if_neg h0]
 have key:∀b2:Bool,∃e,(Option.bind (zpt a b2) fun b1=>if ¬(b1=true) then some (8:Int) else some 0)=some e/\(e=0↔b2=true/\Kept a):=by
  intro b2
  obtain⟨r,h1,h2⟩:=ya6o a hl b2
  rw[h1,<-h2]
  cases r<;>simp
 by_cases h1:a.Phase=1
 rw[if_pos h1]
 obtain⟨e,he,h2⟩:=key ((a.Value==[])&&((a.Accepted.length:Int)==0))
 refine⟨e,he,?_⟩
 rw[h2]
 simp[h1]
 rw[if_neg h1]
 by_cases h2:a.Phase=2
 obtain⟨e,he,h3⟩:=key true
 refine⟨e,?_,?_⟩
 have hb:(a.Phase==2)=true:=by simp[h2]
 rw[if_pos h2,hb]
 exact he
 rw[h3]
 simp[h2]
 by_cases h3:a.Phase=3
 obtain⟨e,he,h4⟩:=key true
 refine⟨e,?_,?_⟩
 have hb:(a.Phase==3)=true:=by simp[h3]
 rw[if_neg h2]
 refine Eq.trans ?_ he
 show Option.bind (Option.bind (Option.bind (some (a.Phase==3)) _) _) _=_
 generalize hg:(a.Phase==3)=q at hb
 subst hb
 unfold zpt
 rw[hg]
 rfl
 rw[h4]
 simp[h3]
 exact⟨8,by simp[h2,h3],by simp[h1,h2,h3]⟩
theorem ya47(i j:Nat)(h:i+j<4000000):wr .i64 (shw false .u64 (wr .u64 (wr .i64 ((i:Int)+(j:Int)))) 1)=(((i+j)/2:Nat):Int):=by
 have e1:wr .i64 ((i:Int)+(j:Int))=(i:Int)+(j:Int):=zj6 _ _ (by show(-9223372036854775808:Int)<=_;omega) (by show _<=(9223372036854775807:Int);omega)
 have e2:wr .u64 ((i:Int)+(j:Int))=(i:Int)+(j:Int):=zj6 _ _ (by show(0:Int)<=_;omega) (by show _<=(18446744073709551615:Int);omega)
 have e3:shw false .u64 ((i:Int)+(j:Int)) 1=(((i+j)/2:Nat):Int):=by
  unfold shw
  show Int.fdiv ((i:Int)+(j:Int)) 2=_
  rw[Int.fdiv_eq_ediv_of_nonneg _ (by omega)]
  omega
 rw[e1,e2,e3]
 exact zj6 _ _ (by show(-9223372036854775808:Int)<=_;omega) (by show _<=(9223372036854775807:Int);omega)
theorem zye(f:Int->Option Bool)(K n:Nat)(hn:n<1000000)(hf:∀x:Nat,x<n->f (x:Int)=some (decide (K<=x))):∀(fu i j:Nat),j-i<fu->i<=K->K<=j->j<=n->zcv f fu (i:Int) (j:Int)=some (K:Int):=by
 intro fu
 induction fu with
 |zero=>intro i j h;omega
 |succ fu ih=>
  intro i j h h1 h2 h3
  rw[zcv]
  by_cases hij:i<j
  rw[if_pos (by omega),ya47 i j (by omega),hf _ (by omega)]
  simp only[za1]
  by_cases hk:K<=(i+j)/2
  rw[if_neg (by simpa using hk)]
  exact ih i ((i+j)/2) (by omega) h1 hk (by omega)
  rw[if_pos (by simpa using hk)]
  have e:wr .i64 ((((i+j)/2:Nat):Int)+1)=(((i+j)/2+1:Nat):Int):=zj6 _ _ (by show(-9223372036854775808:Int)<=_;omega) (by show _<=(9223372036854775807:Int);omega)
  rw[e]
  exact ih _ j (by omega) (by omega) h2 h3
  rw[if_neg (by omega)]
  congr 2
  omega
theorem ya2u(f:Int->Option Bool)(K n:Nat)(hn:n<1000000)(hK:K<=n)(hf:∀x:Nat,x<n->f (x:Int)=some (decide (K<=x))):zgk (n:Int) f=some (K:Int):=by
 rw[zgk]
 have h:=zye f K n hn hf ((n:Int).toNat+1) 0 n (by simp) (by omega) hK (by omega)
 rw[show((0:Nat):Int)=0 from rfl] at h
 rw[h]
 rfl
section
variable {α : Type} (key : α -> Int)
def insK(p:α):List α->List α
 |[]=>[p]
 |y::l=>if key y<key p then y::insK p l else p::y::l
def plc(v:Int):List α->Nat
 |[]=>0
 |y::l=>if key y<v then plc v l+1 else 0
theorem zx7(v:Int):∀l:List α,plc key v l<=l.length:=by
 intro l
 induction l with
 |nil=>exact za4 _
 |cons y l ih=>
  simp only[plc,zak]
  split<;>omega
theorem ya04[Inhabited α](v:Int):∀(l:List α),(l.map key).Pairwise (·<·)->∀x,x<l.length->(key (l.getD x default)>=v↔plc key v l<=x):=by
 intro l
 induction l with
 |nil=>intro _ x hx;cases hx
 |cons y l ih=>
  intro h x hx
  simp only[zai,List.pairwise_cons] at h
  simp only[plc]
  cases x with
  |zero=>
   simp only[List.getD_cons_zero]
   by_cases hy:key y<v
   rw[if_pos hy]
   omega
   rw[if_neg hy]
   omega
  |succ x=>
   simp only[List.getD_cons_succ]
   simp only[zak] at hx
   by_cases hy:key y<v
   rw[if_pos hy,ih h.2 x (by omega)]
   omega
   rw[if_neg hy]
   have hm:l.getD x default∈l:=by
    rw[List.getD_eq_getElem?_getD,List.getElem?_eq_getElem (by omega)]
    exact List.getElem_mem _
   have:=h.1 _ (List.mem_map_of_mem hm)
   omega
theorem zsp[Inhabited α](v:Int):∀(l:List α),(l.map key).Pairwise (·<·)->((plc key v l<l.length/\key (l.getD (plc key v l) default)=v)↔v∈l.map key):=by
 intro l
 induction l with
 |nil=>intro _;simp[plc]
 |cons y l ih=>
  intro h
  simp only[zai,List.pairwise_cons] at h
  simp only[plc]
  by_cases hy:key y<v
  rw[if_pos hy,List.getD_cons_succ,zai,List.mem_cons,<-ih h.2]
  simp only[zak]
  have:v≠key y:=by omega
  simp only[this,false_or]
  omega
  rw[if_neg hy,List.getD_cons_zero,zai,List.mem_cons]
  simp only[zak]
  constructor
  intro hh;exact .inl hh.2.symm
  rintro(hh|hh)
  exact⟨by omega,hh.symm⟩
  have:=h.1 _ hh
  omega
theorem ya0k(p:α):∀l:List α,l.take (plc key (key p) l)++p::l.drop (plc key (key p) l)=insK key p l:=by
 intro l
 induction l with
 |nil=>rfl
 |cons y l ih=>
  simp only[plc,insK]
  split
  simp only[List.take_succ_cons,List.drop_succ_cons,zb2,ih]
  rfl
theorem zt0(p:α)(x:α):∀l:List α,x∈insK key p l↔x=p\/x∈l:=by
 intro l
 induction l with
 |nil=>simp[insK]
 |cons y l ih=>
  simp only[insK]
  split
  simp only[List.mem_cons,ih]
  constructor
  rintro(h|h|h)<;>simp[h]
  rintro(h|h|h)<;>simp[h]
  simp only[List.mem_cons]
theorem ya41(p:α):∀l:List α,(insK key p l).length=l.length+1:=by
 intro l
 induction l with
 |nil=>rfl
 |cons y l ih=>
  simp only[insK]
  split<;>simp[ih]
theorem ya5u(p:α)(v:Int)(l:List α):v∈(insK key p l).map key↔v=key p\/v∈l.map key:=by
 simp only[List.mem_map,zt0]
 constructor
 rintro⟨x,rfl|hx,rfl⟩
 exact .inl rfl
 exact .inr ⟨x,hx,rfl⟩
 rintro(rfl|⟨x,hx,rfl⟩)
 exact⟨p,.inl rfl,rfl⟩
 exact⟨x,.inr hx,rfl⟩
theorem zrt(m:List Int)(p:α)(hp:key p∈m):∀(l:List α) (k:Option Int),(match k with|none=>True|some k=>k<key p)->key p∉l.map key->zhq m k (l.map key)=true->zhq m k ((insK key p l).map key)=true:=by
 intro l
 induction l with
 |nil=>
  intro k hk _ _
  cases k with
  |none=>simp[insK,zhq,hp]
  |some k=>
   have:k<key p:=hk
   simp[insK,zhq,hp,this]
 |cons y l ih=>
  intro k hk hn h
  simp only[zai,List.mem_cons,not_or] at hn
  simp only[zai,zhq,za0] at h
  simp only[insK]
  by_cases hy:key y<key p
  rw[if_pos hy]
  simp only[zai,zhq,za0]
  exact⟨h.1,ih (some (key y)) hy hn.2 h.2⟩
  rw[if_neg hy]
  have hlt:key p<key y:=by omega
  simp only[zai,zhq,za0]
  refine⟨⟨?_,by simpa using hp⟩,⟨⟨by simpa using hlt,h.1.2⟩,h.2⟩⟩
  cases k with
  |none=>rfl
  |some k=>simpa using hk
end
theorem ya6u{m:List Int}:∀(l:List Int) (k:Int),zhq m (some k) l=true->∀x∈l,k<x:=by
 intro l
 induction l with
 |nil=>intro _ _ x hx;cases hx
 |cons y l ih=>
  intro k h x hx
  simp only[zhq,za0,decide_eq_true_eq] at h
  rcases List.mem_cons.1 hx with rfl|hx
  exact h.1.1
  have:=ih y h.2 x hx;omega
theorem ya33{m:List Int}:∀(l:List Int) (k:Option Int),zhq m k l=true->l.Pairwise (·<·):=by
 intro l
 induction l with
 |nil=>intro _ _;exact .nil
 |cons y l ih=>
  intro k h
  simp only[zhq,za0] at h
  exact .cons (ya6u l y h.2) (ih _ h.2)
theorem ya2v{α:Type}[Inhabited α](key:α->Int)(l:List α)(v:Int)(f:Int->Option Bool)(hl:l.length<1000000)(hs:(l.map key).Pairwise (·<·))(hf:∀x:Nat,x<l.length->f (x:Int)=some (decide (key (l.getD x default)>=v))):zgk (l.length:Int) f=some (plc key v l:Int):=
 ya2u f _ _ hl (zx7 key v l) fun x hx=>by rw[hf x hx,decide_eq_decide.2 (ya04 key v l hs x hx)]
theorem zvg(l:List Int)(v:Int)(hl:l.length<1000000)(hs:l.Pairwise (·<·)):zg6 l v=some (plc (fun x=>x) v l:Int):=by
 rw[zg6,ya2v (fun x=>x) l v _ hl (by simpa using hs)]
 rfl
 intro x hx
 rw[zf9,if_pos (by omega)]
 rfl
theorem ya4f{α:Type}(p q:α->Bool)(h:∀x,p x=true->q x=true):∀l:List α,(l.filter p).length<=(l.filter q).length:=by
 intro l
 induction l with
 |nil=>exact za4 _
 |cons y l ih=>
  simp only[List.filter_cons]
  cases hp:p y with
  |true=>rw[h y hp];simp only[if_true,zak];omega
  |false=>cases hq:q y<;>simp<;>omega
theorem ya3q{m l l':List Int}(h:∀x,x∈l->x∈l')(hm:zhg m l=true):zhg m l'=true:=by
 unfold zhg at hm ⊢
 simp only[decide_eq_true_eq] at hm ⊢
 have:=ya4f (hasI l) (hasI l') (fun x hx=>by
  unfold hasI at hx ⊢
  simp only[List.any_eq_true,beq_iff_eq,exists_eq_right] at hx ⊢
  exact h x hx) m
 omega
theorem ya0c(m:List Int):zhg m []=false:=by
 unfold zhg
 have:m.filter (hasI [])=[]:=by
  rw[List.filter_eq_nil_iff]
  intro x _;simp[hasI]
 rw[this]
 simp
 omega
abbrev insN:=insK TPromise.Node
abbrev insI:=insK (fun x:Int=>x)
theorem ya42(v x:Int)(l:List Int):x∈insI v l↔x=v\/x∈l:=zt0 _ v x l
def zy9(a:TAttempt)(l:List TPromise):TAttempt:=
 if zhg a.Members (l.map TPromise.Node)=true then {a with Phase:=2,Value:=zoc l a.Wish 0,Promises:=l} else {a with Promises:=l}
def zad(a:TAttempt)(p:TPromise):TAttempt:=
 if p.Node∈a.Promises.map TPromise.Node then a else zy9 a (insN p a.Promises)
def CanP(a:TAttempt)(b:Int)(p:TPromise):Prop:=zkw a/\a.Phase=1/\b=a.Ballot/\p.Node∈a.Members/\MayS p b
theorem zkw.kept{a:TAttempt}(h:zkw a)(h0:a.Phase≠0):Kept a:=by
 unfold zkw at h
 rw[if_neg h0] at h
 exact h.2
theorem zyb(a:TAttempt)(h1:a.Members.length<1000000)(h2:a.Promises.length<1000000)(h3:a.Accepted.length<1000000):zf4 a=some a:=by
 rw[zf4,zaz,zd6,zaz,if_pos (by omega),if_pos (by omega),if_pos (by omega)]
 rfl
theorem Kept.lens{a:TAttempt}(h:Kept a):a.Members.length<=6/\a.Promises.length<=6/\a.Accepted.length<=6:=by
 have h1:=zlp h.members _ h.nodes
 rw[List.length_map] at h1
 exact⟨h.members.1,h1,zlp h.members _ h.accepted⟩
theorem zx3(a:TAttempt)(p:TPromise)(x:Nat)(hx:x<a.Promises.length):zdy (x:Int) a p=some (decide ((a.Promises.getD x default).Node>=p.Node)):=by
 rw[zdy,if_pos (by omega)]
 rfl
theorem zyp(a:TAttempt)(b:Int)(p:TPromise)(hl:a.Promises.length<1000000):∃r,zen a b p=some r/\(r.2=0↔CanP a b p)/\(r.2=0->r.1=zad a p):=by
 rw[zen]
 obtain⟨e,he,hv⟩:=zw9 a hl
 rw[he]
 simp only[za1]
 by_cases hva:zkw a
 have h0:=hv.2 hva
 subst h0
 rw[if_neg (by simp)]
 by_cases h1:a.Phase=1/\b=a.Ballot
 obtain⟨h1,h2⟩:=h1
 rw[if_pos (by simp[h1,h2]),zpn]
 simp only[za1]
 by_cases h3:p.Node∈a.Members
 rw[if_neg (by simp[h1,h2,h3]),ya6d]
 simp only[za1]
 by_cases h4:MayS p b
 rw[if_neg (by simp[h4])]
 have hk:=hva.kept (by omega)
 obtain⟨l1,l2,l3⟩:=hk.lens
 rw[zyb a (by omega) (by omega) (by omega)]
 simp only[za1]
 have hpw:(a.Promises.map TPromise.Node).Pairwise (·<·):=ya33 _ _ hk.nodes
 rw[ya2v TPromise.Node a.Promises p.Node _ (by omega) hpw (fun x hx=>zx3 a p x hx)]
 simp only[za1,Int.toNat_natCast]
 have hle:=zx7 TPromise.Node p.Node a.Promises
 have hhas:=zsp TPromise.Node p.Node a.Promises hpw
 have htake:=ya0k TPromise.Node p a.Promises
 have hkeys:=ya5u TPromise.Node p
 have hlen:=ya41 TPromise.Node p a.Promises
 have hrise:=zrt TPromise.Node a.Members p h3 a.Promises none trivial
 generalize plc TPromise.Node p.Node a.Promises=K at*
 rw[if_pos (by omega)]
 have hcan:CanP a b p:=⟨hva,h1,h2,h3,h4⟩
 by_cases hin:p.Node∈a.Promises.map TPromise.Node
 rw[if_pos (by have:=hhas.2 hin;exact⟨by omega,this.2⟩)]
 refine⟨_,rfl,by simp[hcan],fun _=>?_⟩
 unfold zad
 rw[if_pos hin]
 rw[if_neg (fun hh=>hin (hhas.1 ⟨by omega,hh.2⟩)),if_pos (by omega),if_pos (by omega),htake,ya0b _ (by omega)]
 have hr:=hrise hin hk.nodes
 have hln:=zlp hk.members _ hr
 simp only[za1,zrx _ _ hk.members (zao hln (by omega)),ya4s]
 unfold zad
 rw[if_neg hin]
 unfold zy9
 cases hm:zhg a.Members ((insK TPromise.Node p a.Promises).map TPromise.Node) with
 |true=>exact⟨_,rfl,by simp[hcan],fun _=>rfl⟩
 |false=>exact⟨_,rfl,by simp[hcan],fun _=>rfl⟩
 rw[if_pos (by simp[h4])]
 exact⟨_,rfl,by simp[CanP,h4],by simp⟩
 rw[if_pos (by simp[h3])]
 exact⟨_,rfl,by simp[CanP,h3],by simp⟩
 have h2:(¬(a.Phase=1))\/(¬(b=a.Ballot)):=by
  by_cases h:a.Phase=1
  exact .inr fun hh=>h1 ⟨h,hh⟩
  exact .inl h
 rw[if_neg (fun h=>h h2)]
 simp only[za1]
 rw[if_pos (.inl h2)]
 exact⟨_,rfl,⟨fun h=>by simp at h,fun h=>absurd ⟨h.2.1,h.2.2.1⟩ h1⟩,by simp⟩
 have h0:e≠0:=fun h=>hva (hv.1 h)
 rw[if_pos h0]
 exact⟨_,rfl,⟨fun h=>absurd h h0,fun h=>absurd h.1 hva⟩,fun h=>absurd h h0⟩
theorem zmb{a:TAttempt}{p:TPromise}(h:CanP a a.Ballot p):zkw (zad a p):=by
 obtain⟨hv,h1,_,h3,h4⟩:=h
 unfold zad
 split
 exact hv
 rename_i hin
 have hk:=hv.kept (by omega)
 have hacc:a.Value=[]/\a.Accepted=[]:=by
  unfold zkw at hv
  rw[if_neg (by omega)] at hv
  rcases hv.1 with h|h|h
  exact h.2
  omega
  omega
 have hr:=zrt TPromise.Node a.Members p h3 a.Promises none trivial hin hk.nodes
 have hmay:∀q∈insN p a.Promises,MayS q a.Ballot:=by
  intro q hq
  rcases(zt0 TPromise.Node p q a.Promises).1 hq with rfl|hq
  exact h4
  exact hk.may q hq
 unfold zy9
 split
 rename_i hm
 unfold zkw
 rw[if_neg (by simp)]
 exact⟨.inr (.inl rfl),⟨hk.ballot,hk.members,hk.wish,hr,hk.accepted,hmay,by simpa using hm,by rw[hk.chosen,h1];rfl,.inr rfl⟩⟩
 rename_i hm
 unfold zkw
 rw[if_neg (by simp[h1])]
 exact⟨.inl ⟨h1,hacc⟩,⟨hk.ballot,hk.members,hk.wish,hr,hk.accepted,hmay,by simpa[h1] using hm,hk.chosen,.inl h1⟩⟩
def zb3(a:TAttempt)(n:Int):TAttempt:=
 let l:=if n∈a.Accepted then a.Accepted else insI n a.Accepted
 {a with Accepted:=l,Phase:=if zhg a.Members l=true then 3 else a.Phase}
def CanA(a:TAttempt)(b:Int)(n:Int):Prop:=zkw a/\2<=a.Phase/\b=a.Ballot/\n∈a.Members
theorem zzn(a:TAttempt)(b n:Int)(hl:a.Promises.length<1000000):∃r,zeo a b n=some r/\(r.2=0↔CanA a b n)/\(r.2=0->r.1=zb3 a n):=by
 rw[zeo]
 obtain⟨e,he,hv⟩:=zw9 a hl
 rw[he]
 simp only[za1]
 by_cases hva:zkw a
 have h0:=hv.2 hva
 subst h0
 rw[if_neg (by simp)]
 by_cases h1:2<=a.Phase/\b=a.Ballot
 obtain⟨h1,h2⟩:=h1
 have h1':¬a.Phase<2:=by omega
 rw[if_pos (by simp[h1',h2]),zpn]
 simp only[za1]
 by_cases h3:n∈a.Members
 rw[if_neg (by simp[h1',h2,h3])]
 have hk:=hva.kept (by omega)
 obtain⟨l1,l2,l3⟩:=hk.lens
 rw[zyb a (by omega) (by omega) (by omega)]
 simp only[za1]
 have hpw:a.Accepted.Pairwise (·<·):=ya33 _ _ hk.accepted
 rw[zvg a.Accepted n (by omega) hpw]
 simp only[za1,Int.toNat_natCast]
 have hle:=zx7 (fun x:Int=>x) n a.Accepted
 have hhas:=zsp (fun x:Int=>x) n a.Accepted (by simpa using hpw)
 have htake:=ya0k (fun x:Int=>x) n a.Accepted
 have hlen:=ya41 (fun x:Int=>x) n a.Accepted
 have hrise:=zrt (fun x:Int=>x) a.Members n h3 a.Accepted none trivial
 simp only[List.map_id'] at hhas hrise
 generalize plc (fun x:Int=>x) n a.Accepted=K at*
 rw[if_pos (by omega)]
 have hcan:CanA a b n:=⟨hva,h1,h2,h3⟩
 have hfin:∀l:List Int,l.length<=6->(if n∈a.Accepted then a.Accepted else insI n a.Accepted)=l->∃r,(Option.bind (α:=Int) (Option.bind (zde a.Members l) fun v5=>if v5=true then some 3 else some a.Phase) fun n1=>some ((⟨n1,a.Ballot,a.Members,a.Wish,a.Value,a.Promises,l⟩:TAttempt),(0:Int)))=some r/\(r.2=0↔CanA a b n)/\(r.2=0->r.1=zb3 a n):=by
  intro l hl hh
  rw[zrx _ _ hk.members (by omega)]
  unfold zb3
  rw[hh]
  simp only[za1]
  cases hm:zhg a.Members l with
  |true=>exact⟨_,rfl,by simp[hcan],fun _=>rfl⟩
  |false=>exact⟨_,rfl,by simp[hcan],fun _=>rfl⟩
 by_cases hin:n∈a.Accepted
 have:=hhas.2 hin
 rw[if_neg (by
  rintro(hh|hh)
  omega
  exact hh this.2)]
 simp only[za1]
 exact hfin _ l3 (if_pos hin)
 rw[if_pos (by
  by_cases hK:K=a.Accepted.length
  exact .inl (by omega)
  exact .inr fun hh=>hin (hhas.1 ⟨by omega,hh⟩)),if_pos (by omega),if_pos (by omega),htake]
 simp only[za1]
 have hr:=hrise hin hk.accepted
 exact hfin _ (zlp hk.members _ hr) (if_neg hin)
 rw[if_pos (by simp[h3])]
 exact⟨_,rfl,by simp[CanA,h3],by simp⟩
 have h2:(a.Phase<2)\/(¬(b=a.Ballot)):=by
  by_cases h:a.Phase<2
  exact .inl h
  exact .inr fun hh=>h1 ⟨by omega,hh⟩
 rw[if_neg (fun h=>h h2)]
 simp only[za1]
 rw[if_pos (.inl h2)]
 exact⟨_,rfl,⟨fun h=>by simp at h,fun h=>absurd ⟨h.2.1,h.2.2.1⟩ h1⟩,by simp⟩
 have h0:e≠0:=fun h=>hva (hv.1 h)
 rw[if_pos h0]
 exact⟨_,rfl,⟨fun h=>absurd h h0,fun h=>absurd h.1 hva⟩,fun h=>absurd h h0⟩
theorem ya52(a:TAttempt)(n x:Int):x∈(zb3 a n).Accepted↔x=n\/x∈a.Accepted:=by
 unfold zb3
 dsimp only
 split
 rename_i h
 constructor
 exact .inr
 rintro(rfl|h2)
 exact h
 exact h2
 exact ya42 n x _
theorem zq5{a:TAttempt}{n:Int}(h:CanA a a.Ballot n):zkw (zb3 a n)/\a.Phase<=(zb3 a n).Phase:=by
 obtain⟨hv,h1,_,h3⟩:=h
 have hk:=hv.kept (by omega)
 have hph:a.Phase=2\/a.Phase=3:=by
  unfold zkw at hv
  rw[if_neg (by omega)] at hv
  rcases hv.1 with h|h|h
  omega
  exact .inl h
  exact .inr h
 have hval:a.Value=zoc a.Promises a.Wish 0:=by
  rcases hk.value with h|h
  omega
  exact h
 have hmem:=ya52 a n
 have hrise:zhq a.Members none (zb3 a n).Accepted=true:=by
  unfold zb3
  dsimp only
  split
  exact hk.accepted
  rename_i hin
  have:=zrt (fun x:Int=>x) a.Members n h3 a.Accepted none trivial (by simpa using hin)
  simp only[List.map_id'] at this
  exact this hk.accepted
 have hmono:a.Phase=3->zhg a.Members (zb3 a n).Accepted=true:=by
  intro h
  refine ya3q (l:=a.Accepted) (fun x hx=>(hmem x).2 (.inr hx)) ?_
  rw[hk.chosen,h];rfl
 have hphase:(zb3 a n).Phase=if zhg a.Members (zb3 a n).Accepted=true then 3 else a.Phase:=rfl
 have hp2:(zb3 a n).Phase=2\/(zb3 a n).Phase=3:=by
  rw[hphase]
  split
  exact .inr rfl
  exact hph
 have hmost:zhg a.Members (zb3 a n).Accepted=((zb3 a n).Phase==3):=by
  rw[hphase]
  cases hm:zhg a.Members (zb3 a n).Accepted with
  |true=>simp
  |false=>
   have:a.Phase≠3:=fun h=>by rw[hmono h] at hm;cases hm
   simp[this]
 refine⟨?_,?_⟩
 unfold zkw
 rw[if_neg (by omega)]
 refine⟨.inr hp2,⟨hk.ballot,hk.members,hk.wish,hk.nodes,hrise,hk.may,?_,hmost,.inr hval⟩⟩
 show zhg a.Members (a.Promises.map TPromise.Node)=_
 rw[hk.most]
 rw[decide_eq_decide]
 omega
 rw[hphase]
 split<;>omega
end Go.Proofs
