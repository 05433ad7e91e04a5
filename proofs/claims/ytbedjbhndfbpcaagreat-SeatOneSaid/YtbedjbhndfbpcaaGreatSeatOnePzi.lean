/- Texts of the proof. -/
import Derived.Test.YtbedjbhndfbpcaaGreatSeatOnePzf
import Derived.Test.YtbedjbhndfbpcaaGreatSeatOnePt
import Derived.Test.YtbedjbhndfbpcaaGreatSeatOnePzh
import Derived.Test.YtbedjbhndfbpcaaGreatSeatOnePx
namespace Go.Proofs
set_option linter.unusedVariables false
open Go.Tm
set_option linter.unusedSimpArgs false
def IdOk(n:Int):Prop:=0<=n/\n<=6291455
theorem zz1(a b c:Int):zda a b c=some (decide (b<=a/\a<=c)):=by
 rw[zda];by_cases h:b<=a<;>by_cases k:a<=c<;>simp[h,k]
instance(n:Int):Decidable (IdOk n):=by unfold IdOk;infer_instance
theorem ya6f(a:Int):zha a=some (decide (IdOk a)):=by
 rw[zha,zz1,za1];rfl
theorem ya5p(m:TMessage):∀(l:List Int) (n:Nat) (b:Bool),∃r,zbu m l n b=some r:=by
 intro l
 induction l with
 |nil=>intro n b;exact⟨b,rfl⟩
 |cons y l ih=>
  intro n b
  rw[zbu,zz1]
  cases b with
  |true=>simp only[if_true,za1];exact ih _ _
  |false=>simp only[zb0,if_false,za1];exact ih _ _
theorem ya79(m:TMessage):(∃e,zcr m=some e)/\(zcr m=some 0->IdOk m.Id):=by
 obtain⟨b,hb⟩:=ya5p m m.Groups 0 ((decide ((m.Groups.length:Int)>=1))&&(decide ((m.Groups.length:Int)<=4)))
 have key:zcr m=some (if((((¬(b=true))\/(¬(decide (IdOk m.Id)=true)))\/(¬(decide (0<=m.Topic/\m.Topic<=3)=true)))\/((m.Key.length:Int)>16))\/((m.Body.length:Int)>64) then 120 else 0):=by
  rw[zcr,hb]
  simp only[za1,ya6f,zz1]
  cases b with
  |true=>
   simp only[not_true_eq_false,not_false_eq_true,if_true,za1,false_or]
   by_cases hi:IdOk m.Id
   simp only[hi,decide_true,not_true_eq_false,not_false_eq_true,if_true,za1,false_or]
   split<;>rfl
   simp only[hi,decide_false,zb0,not_false_eq_true,not_true_eq_false,if_false,za1,true_or,if_true]
  |false=>simp
 refine⟨⟨_,key⟩,fun h=>?_⟩
 rw[key] at h
 by_cases hi:IdOk m.Id
 exact hi
 simp[hi] at h
theorem yaan(a b:TMessage):zee a b=some (decide (a=b)):=by
 rw[zee,zrw]
 obtain⟨a1,a2,a3,a4,a5⟩:=a
 obtain⟨b1,b2,b3,b4,b5⟩:=b
 by_cases h:a1=b1
 by_cases h2:a2=b2<;>by_cases h3:a3=b3<;>by_cases h4:a4=b4<;>by_cases h5:a5=b5<;>simp[h,h2,h3,h4,h5]
 simp[h]
theorem yab2(a b:TCommand):zhu a b=some (decide (a=b)):=by
 rw[zhu,yaan,zrw]
 obtain⟨a1,a2,a3,a4,a5,a6,a7,a8⟩:=a
 obtain⟨b1,b2,b3,b4,b5,b6,b7,b8⟩:=b
 by_cases h:a1=b1
 by_cases h2:a2=b2
 by_cases h3:a3=b3
 by_cases h4:a4=b4
 by_cases h5:a5=b5<;>by_cases h6:a6=b6<;>by_cases h7:a7=b7<;>by_cases h8:a8=b8<;>simp[h,h2,h3,h4,h5,h6,h7,h8]
 simp[h,h2,h3,h4]
 simp[h,h2,h3]
 simp[h,h2]
 simp[h]
theorem ya3h(c:TCommand):∃p ok,zh9 c=some (p,ok)/\(c.Kind=3->ok=true->QOk c.Members):=by
 rw[zh9,ya6f]
 simp only[za1]
 obtain⟨v2,h2⟩:∃v2,(if decide (IdOk c.Id)=true then zda c.Topic 0 3 else some default)=some v2:=by split<;>exact⟨_,by first|exact zz1 _ _ _|rfl⟩
 rw[h2]
 simp only[za1]
 obtain⟨v3,h3⟩:∃v3,(if decide (IdOk c.Id)=true/\v2=true then zda c.N 0 1073741824 else some default)=some v3:=by split<;>exact⟨_,by first|exact zz1 _ _ _|rfl⟩
 rw[h3]
 simp only[za1]
 by_cases k0:c.Kind=0
 rw[if_pos k0];exact⟨_,_,rfl,by intro h;omega⟩
 rw[if_neg k0]
 by_cases k1:c.Kind=1
 rw[if_pos k1]
 obtain⟨e,he⟩:=(ya79 c.Message).1
 rw[he]
 exact⟨_,_,rfl,by intro h;omega⟩
 rw[if_neg k1]
 by_cases k2:c.Kind=2
 rw[if_pos k2]
 by_cases hi:IdOk c.Id
 simp only[hi,decide_true,if_true,za1,zz1]
 exact⟨_,_,rfl,by intro h;omega⟩
 simp only[hi,decide_false,zb0,if_false,za1]
 exact⟨_,_,rfl,by intro h;omega⟩
 rw[if_neg k2]
 by_cases k3:c.Kind=3
 rw[if_pos k3,zlr]
 refine⟨_,_,rfl,fun _ h=>(zna _).1 ?_⟩
 rw[zlr]
 simpa using h
 rw[if_neg k3]
 by_cases k4:c.Kind=4
 rw[if_pos k4]
 obtain⟨v8,h8⟩:∃v8,(if(decide (IdOk c.Id)=true/\v2=true)/\v3=true then zda c.Who 0 7 else some default)=some v8:=by split<;>exact⟨_,by first|exact zz1 _ _ _|rfl⟩
 rw[h8]
 exact⟨_,_,rfl,by intro h;omega⟩
 rw[if_neg k4]
 by_cases k5:c.Kind=5
 rw[if_pos k5]
 simp only[za1,k5]
 exact⟨_,_,rfl,by intro h;omega⟩
 rw[if_neg k5]
 simp only[za1]
 by_cases k6:(c.Kind==6)=true
 rw[if_pos k6];exact⟨_,_,rfl,by intro h;omega⟩
 rw[if_neg k6];exact⟨_,_,rfl,by intro h;omega⟩
theorem ya4o(c:TCommand):∃e,zef c=some e/\(e=0->c.Kind=3->QOk c.Members):=by
 obtain⟨p,ok,h,h1⟩:=ya3h c
 rw[zef,h]
 simp only[za1,yab2]
 cases ok with
 |false=>exact⟨120,by simp,by intro h;cases h⟩
 |true=>
  simp only[not_true_eq_false,not_false_eq_true,if_true,za1,false_or]
  split
  exact⟨120,rfl,by intro h;cases h⟩
  exact⟨0,rfl,fun _ k=>h1 k rfl⟩
theorem wrk(x:Int)(h:-9000000000000000000<=x/\x<=9000000000000000000):wr .i64 x=x:=zj6 _ _ (by show(-9223372036854775808:Int)<=_;omega) (by show _<=(9223372036854775807:Int);omega)
theorem ya77(n:Int):∃b,zme n=some b/\(b=true->0<=n/\n<=1099511627776):=by
 rw[zme]
 refine⟨_,rfl,fun h=>?_⟩
 simp at h
 omega
structure GetOk (l:List Int) (r:Int×Int×Int):Prop where
 s0:0<=r.2.1
 s1:r.2.1<=l.length
 n0:r.2.2=0->0<=r.1/\r.1<=1099511627776
theorem ya5v:∀(l:List Int) (k:Nat) (n:Int),(∃u,zec l k n=some (.inr u))\/∃a b,zec l k n=some (.inl (a,b,0))/\0<=b/\b<=k+l.length/\0<=a/\a<=1099511627776:=by
 intro l
 induction l with
 |nil=>intro k n;exact .inl ⟨(),rfl⟩
 |cons y l ih=>
  intro k n
  rw[zec]
  by_cases h5:(k:Int)>5
  rw[if_pos h5];exact .inl ⟨(),rfl⟩
  rw[if_neg h5,if_pos (by rw[wrk _ (by omega)];omega)]
  by_cases h7:y>127
  rw[if_pos h7]
  rcases ih (k+1) _ with h|⟨a,b,h,h1,h2,h3⟩
  exact .inl h
  exact .inr ⟨a,b,h,h1,by simp only[zak];omega,h3⟩
  rw[if_neg h7]
  by_cases h0:y=0/\(k:Int)>0
  rw[if_neg (fun h=>h h0)]
  simp only[za1]
  rw[if_pos (.inl h0)]
  exact .inl ⟨(),rfl⟩
  rw[if_pos h0]
  obtain⟨b,hb,hb2⟩:=ya77 (bitw .or .i64 n (shw true .i64 (wr .i64 (bitw .and .u8 y 127)) (wr .i64 (7*(k:Int)))))
  rw[hb]
  simp only[za1]
  by_cases hbt:b=true
  rw[if_neg (by rintro(h|h);exact h0 h;exact h hbt),wrk ((k:Int)+1) (by omega)]
  exact .inr ⟨_,_,rfl,by omega,by simp only[zak];omega,hb2 hbt⟩
  rw[if_pos (.inr hbt)]
  exact .inl ⟨(),rfl⟩
theorem zw2(l:List Int):∃r,zje l=some r/\GetOk l r:=by
 rw[zje]
 rcases ya5v l 0 0 with⟨u,h⟩|⟨a,b,h,h1,h2,h3⟩
 rw[h];exact⟨_,rfl,by show(0:Int)<=0;omega,by show(0:Int)<=_;omega,by intro h;cases h⟩
 rw[h];exact⟨_,rfl,h1,by show b<=_;omega,fun _=>h3⟩
theorem zz4(l:List Int)(hl:l.length<=1000000):∃r,zit l=some r/\0<=r.2.1/\r.2.1<=l.length:=by
 obtain⟨v,hv,ho⟩:=zw2 l
 have h1:=ho.s0
 have h2:=ho.s1
 rw[zit,hv]
 simp only[za1]
 by_cases hc:(¬v.2.2=0\/v.1>4096)\/v.1>wr .i64 ((l.length:Int)-v.2.1)
 rw[if_pos hc];exact⟨_,rfl,by show(0:Int)<=0;omega,by show(0:Int)<=_;omega⟩
 rw[if_neg hc]
 rw[wrk _ (by omega)] at hc
 have h3:=ho.n0 (by omega)
 rw[wrk _ (by omega),if_pos (by omega)]
 exact⟨_,rfl,by show(0:Int)<=v.2.1+v.1;omega,by show v.2.1+v.1<=_;omega⟩
theorem zxk(l:List Int)(hl:l.length<=1000000)(v:Int×Int×Int):∀(fu:Nat) (acc:List Int) (at' k:Int),(v.1-k).toNat<fu->0<=at'->at'<=l.length->0<=k->v.1<=4096->(acc.length:Int)<=k->
  (∃e,zcw l v fu acc at' k=some (.inl ([],0,e)))\/∃acc' at2,zcw l v fu acc at' k=some (.inr (acc',at2))/\0<=at2/\at2<=l.length:=by
 intro fu
 induction fu with
 |zero=>intro acc at' k h;omega
 |succ fu ih=>
  intro acc at' k h h0 h1 hk hv ha
  rw[zcw]
  by_cases hlt:k<v.1
  obtain⟨r,hr,ho⟩:=zw2 (l.drop at'.toNat)
  have q1:=ho.s0
  have q2:=ho.s1
  simp only[List.length_drop] at q2
  rw[if_pos hlt,if_pos ⟨h0,h1⟩,hr]
  simp only[za1]
  by_cases he:¬r.2.2=0
  rw[if_pos he];exact .inl ⟨_,rfl⟩
  rw[if_neg he,if_pos (by simp;omega),wrk (at'+r.2.1) (by omega),wrk (k+1) (by omega)]
  exact ih _ _ _ (by omega) (by omega) (by omega) (by omega) hv (by simp;omega)
  rw[if_neg hlt];exact .inr ⟨_,_,rfl,h0,h1⟩
theorem zz5(l:List Int)(hl:l.length<=1000000)(m:Int):∃r,ziu l m=some r/\0<=r.2.1/\r.2.1<=l.length:=by
 rw[ziu]
 by_cases hm:m<0\/m>4096
 rw[if_pos hm];exact⟨_,rfl,by show(0:Int)<=0;omega,by show(0:Int)<=_;omega⟩
 rw[if_neg hm]
 obtain⟨v,hv,ho⟩:=zw2 l
 rw[hv]
 simp only[za1]
 by_cases hc:¬v.2.2=0\/v.1>m
 rw[if_pos hc];exact⟨_,rfl,by show(0:Int)<=0;omega,by show(0:Int)<=_;omega⟩
 rw[if_neg hc]
 rcases zxk l hl v (v.1.toNat+1) [] v.2.1 0 (by omega) ho.s0 ho.s1 (by omega) (by omega) (by simp) with⟨e,h⟩|⟨a,b,h,h1,h2⟩
 rw[h];exact⟨_,rfl,by show(0:Int)<=0;omega,by show(0:Int)<=_;omega⟩
 rw[h];exact⟨_,rfl,h1,h2⟩
theorem zv9(r:Tcommand_reader)(n e:Int)(h:0<=n):∃r',zcx r n e=some r'/\r'.fB.length<=r.fB.length:=by
 rw[zcx,if_pos (by omega)]
 exact⟨_,rfl,by simp⟩
theorem zgs(r:Tcommand_reader):∃x,zb5 r=some x/\x.2.fB.length<=r.fB.length:=by
 obtain⟨v,hv,ho⟩:=zw2 r.fB
 obtain⟨r',h1,h2⟩:=zv9 r v.2.1 v.2.2 ho.s0
 rw[zb5,hv]
 simp only[za1,h1]
 exact⟨_,rfl,h2⟩
theorem zzw(r:Tcommand_reader)(hl:r.fB.length<=1000000):∃x,zdm r=some x/\x.2.fB.length<=r.fB.length:=by
 obtain⟨v,hv,h0,_⟩:=zz4 r.fB hl
 obtain⟨r',h1,h2⟩:=zv9 r v.2.1 v.2.2 h0
 rw[zdm,hv]
 simp only[za1,h1]
 exact⟨_,rfl,h2⟩
theorem ya0j(r:Tcommand_reader)(hl:r.fB.length<=1000000)(m:Int):∃x,zdn r m=some x/\x.2.fB.length<=r.fB.length:=by
 obtain⟨v,hv,h0,_⟩:=zz5 r.fB hl m
 obtain⟨r',h1,h2⟩:=zv9 r v.2.1 v.2.2 h0
 rw[zdn,hv]
 simp only[za1,h1]
 exact⟨_,rfl,h2⟩
theorem zzf(r:Tcommand_reader)(hl:r.fB.length<=1000000):∃x,zdo r=some x:=by
 obtain⟨v1,h1,l1⟩:=zgs r
 rw[zdo,h1]
 simp only[za1]
 by_cases k1:wr .u8 (min v1.1 255)=1
 obtain⟨v2,h2,l2⟩:=zgs v1.2
 obtain⟨v3,h3,l3⟩:=ya0j v2.2 (by omega) 4
 obtain⟨v4,h4,l4⟩:=zgs v3.2
 obtain⟨v5,h5,l5⟩:=zzw v4.2 (by omega)
 obtain⟨v6,h6,l6⟩:=zzw v5.2 (by omega)
 simp only[k1,if_true,h2,h3,h4,h5,h6,za1]
 exact⟨_,rfl⟩
 by_cases k2:wr .u8 (min v1.1 255)=2
 obtain⟨v2,h2,l2⟩:=zgs v1.2
 obtain⟨v3,h3,l3⟩:=zgs v2.2
 rw[if_neg k1,if_pos k2,h2]
 simp only[za1,h3]
 exact⟨_,rfl⟩
 by_cases k3:wr .u8 (min v1.1 255)=3
 obtain⟨v2,h2,l2⟩:=ya0j v1.2 (by omega) 6
 rw[if_neg k1,if_neg k2,if_pos k3,h2]
 simp only[za1]
 exact⟨_,rfl⟩
 rw[if_neg k1,if_neg k2,if_neg k3]
 obtain⟨b2,hb2⟩:∃b2,(if(wr .u8 (min v1.1 255))=4 then some ((wr .u8 (min v1.1 255))==4) else if(wr .u8 (min v1.1 255))=5 then some ((wr .u8 (min v1.1 255))==5) else some ((wr .u8 (min v1.1 255))==6))=some b2:=by
  split
  exact⟨_,rfl⟩
  split<;>exact⟨_,rfl⟩
 rw[hb2]
 simp only[za1]
 by_cases hb:b2=true
 rw[if_pos hb]
 obtain⟨v2,h2,l2⟩:=zgs v1.2
 obtain⟨v3,h3,l3⟩:=zgs v2.2
 simp only[h2,h3,za1]
 by_cases k4:wr .u8 (min v1.1 255)=4
 obtain⟨v4,h4,l4⟩:=zgs v3.2
 obtain⟨v5,h5,l5⟩:=zgs ⟨v4.2.fB,v4.2.fOk⟩
 rw[if_pos k4,h4]
 simp only[za1,h5]
 exact⟨_,rfl⟩
 obtain⟨v5,h5,l5⟩:=zgs ⟨v3.2.fB,v3.2.fOk⟩
 rw[if_neg k4]
 simp only[za1,h5]
 exact⟨_,rfl⟩
 rw[if_neg hb]
 exact⟨_,rfl⟩
theorem zrs(s:List UInt8):∃r,zcl s=some r:=by
 rw[zcl]
 by_cases h:(s.length:Int)>1024
 rw[if_pos h];exact⟨_,rfl⟩
 rw[if_neg h]
 obtain⟨x,hx⟩:=zzf ⟨zkm s,true⟩ (by simp[zkm];omega)
 rw[hx]
 simp only[za1]
 by_cases hc:(¬(x.2.fOk=true))\/((x.2.fB.length:Int)>0)
 rw[if_neg (fun h=>h hc)]
 simp only[za1]
 rw[if_pos (.inl hc)]
 exact⟨_,rfl⟩
 rw[if_pos hc]
 obtain⟨e,he,_⟩:=ya4o x.1
 rw[he]
 simp only[za1]
 split<;>exact⟨_,rfl⟩
def zqs:List (List UInt8)->Option (List TCommand)
 |[]=>some []
 |s::l=>match zcl s with
  |some (c,e)=>if e=0 then(zqs l).map (c::·) else none
  |none=>none
theorem ya4m:∀(l:List (List UInt8)) (acc:List TCommand),acc.length+l.length<1000000->zcn l acc=some (match zqs l with|some cs=>.inr (acc++cs)|none=>.inl ([],8)):=by
 intro l
 induction l with
 |nil=>intro acc _;simp[zgw,zqs]
 |cons s l ih=>
  intro acc h
  simp only[zak] at h
  obtain⟨⟨c,e⟩,hr⟩:=zrs s
  rw[zgx,hr]
  simp only[za1,zqs,hr]
  by_cases he:e=0
  rw[if_neg (by simpa using he),if_pos (by simp;omega),ih _ (by simp;omega),if_pos he]
  cases zqs l<;>simp
  rw[if_pos he,if_neg he]
theorem ya4n(l:List (List UInt8)):zf3 l=some (if(l.length:Int)>200 then(([],4):List TCommand×Int) else match zqs l with|some cs=>(cs,0)|none=>([],8)):=by
 rw[zf3]
 by_cases h:(l.length:Int)>200
 rw[if_pos h,if_pos h]
 rw[if_neg h,if_neg h,ya4m l [] (by simp;omega)]
 cases zqs l<;>rfl
theorem ya6w(s:List UInt8)(c:TCommand)(h:zcl s=some (c,0)):zef c=some 0:=by
 rw[zcl] at h
 by_cases h9:(s.length:Int)>1024
 rw[if_pos h9] at h;cases h
 rw[if_neg h9] at h
 obtain⟨x,hx,h⟩:=za3 h
 obtain⟨b,hb,h⟩:=za3 h
 split at h
 cases h
 rename_i hn
 obtain rfl:x.1=c:=by injection h with h;injection h
 split at hb
 rw[hb]
 exact congrArg some (Classical.byContradiction fun k=>hn (.inr k))
 rename_i hc
 exact absurd (.inl (Classical.not_not.1 hc)) hn
theorem ya7y:∀(l:List (List UInt8)) (cs:List TCommand),zqs l=some cs->∀c∈cs,zef c=some 0:=by
 intro l
 induction l with
 |nil=>intro cs h;obtain rfl:=sj h;simp
 |cons s l ih=>
  intro cs h
  obtain⟨⟨c,e⟩,hr⟩:=zrs s
  simp only[zqs,hr] at h
  split at h
  rename_i he
  subst he
  obtain⟨ds,hd,rfl⟩:=Option.map_eq_some_iff.1 h
  intro d hm
  rcases List.mem_cons.1 hm with rfl|hm
  exact ya6w s _ hr
  exact ih ds hd d hm
  cases h
instance(v:TVote):Decidable (VOk v):=by unfold VOk;infer_instance
theorem zwm(v:TVote):zie v=some (if VOk v then 0 else 8):=by
 unfold VOk
 simp only[zie,zkv]
 by_cases h1:v.Promised=0<;>by_cases h2:v.Ballot=0<;>by_cases h3:BOk v.Promised<;>by_cases h4:BOk v.Ballot<;>by_cases h5:v.Value=[]<;>by_cases h6:v.Ballot<=v.Promised<;>by_cases h7:v.Value.length<=1024<;>have h8:((v.Value.length:Int)<=1024)=(v.Value.length<=1024):=propext (by omega)<;>simp_all
theorem ya13(v:TVote)(b:Int)(t:List UInt8):∃e,zid v b t=some e/\(e=0↔zns v b t):=by
 simp only[zid,zkv,zwm,za1]
 unfold zns
 by_cases h1:VOk v
 by_cases h2:BOk b
 by_cases h3:t.length<=1024
 by_cases h4:v.Promised<=b
 exact⟨0,by simp[h1,h2];rw[if_neg (by omega),if_neg (by omega)],by simp[h1,h2,h3,h4]⟩
 exact⟨70,by simp[h1,h2];rw[if_neg (by omega),if_pos (by omega)],by simp[h4]⟩
 exact⟨3,by simp[h1,h2];omega,by simp[h3]⟩
 exact⟨50,by simp[h1,h2],by simp[h2]⟩
 exact⟨8,by simp[h1],by simp[h1]⟩
theorem zus(v:TVote)(b:Int):∃r,zgt v b=some r/\(r.2=0↔zns v b [])/\(r.2=0->r.1={v with Promised:=b}):=by
 obtain⟨e,h1,h2⟩:=ya13 v b []
 rw[zgt,h1]
 by_cases h0:e=0
 exact⟨({v with Promised:=b},0),by simp[h0],⟨fun _=>h2.1 h0,fun _=>rfl⟩,fun _=>rfl⟩
 exact⟨(⟨0,0,[]⟩,e),by simp[h0],h2,fun h=>absurd h h0⟩
theorem zy8(v:TVote)(b:Int)(t:List UInt8):∃r,zhh v b t=some r/\(r.2=0↔zns v b t)/\(r.2=0->r.1=⟨b,b,t⟩):=by
 obtain⟨e,h1,h2⟩:=ya13 v b t
 rw[zhh,h1]
 by_cases h0:e=0
 exact⟨(⟨b,b,t⟩,0),by simp[h0],⟨fun _=>h2.1 h0,fun _=>rfl⟩,fun _=>rfl⟩
 exact⟨(⟨0,0,[]⟩,e),by simp[h0],h2,fun h=>absurd h h0⟩
theorem ya11(n:Int):zgl n=some (decide (0<=n/\n<6)):=by
 rw[zgl]
 congr 1
 rw[Bool.eq_iff_iff]
 simp
theorem wr64(n:Int)(h:-9223372036854775808<=n/\n<=9223372036854775807):wr .i64 n=n:=zj6 .i64 n (by simpa[IntKind.min,IntKind.max,IntKind.signed,IntKind.bits] using h.1) (by simpa[IntKind.min,IntKind.max,IntKind.signed,IntKind.bits] using h.2)
theorem ya78(a n:Int):∃r,ziw a n=some r/\(r.2=0->0<=n/\n<6/\0<=a/\a<r.1/\BK r.1/\ownB r.1=n.toNat):=by
 rw[ziw,ya11]
 simp only[za1]
 by_cases h:0<=n/\n<6/\0<=a/\a<=8388613
 obtain⟨h1,h2,h3,h4⟩:=h
 rw[if_neg (by simp;omega)]
 have e1:a.tdiv 8=a/8:=Int.tdiv_eq_ediv_of_nonneg h3
 have e2:wr .i64 (a/8)=a/8:=wr64 _ (by omega)
 have e3:wr .i64 (a/8*8)=a/8*8:=wr64 _ (by omega)
 have e4:wr .i64 (a/8*8+n)=a/8*8+n:=wr64 _ (by omega)
 have e5:wr .i64 (a/8*8+n+8)=a/8*8+n+8:=wr64 _ (by omega)
 simp only[e1,e2,e3,e4,e5]
 have key:∀b:Int,a<b->8<=b->b<=8388613->b%8=n->0<=n/\n<6/\0<=a/\a<b/\BK b/\ownB b=n.toNat:=by
  intro b k1 k2 k3 k4
  refine⟨h1,h2,h3,k1,⟨?_,by omega,k3⟩,?_⟩
  unfold BOk
  rw[Int.tdiv_eq_ediv_of_nonneg (by omega),Int.tmod_eq_emod_of_nonneg (by omega),wr64 _ (by omega)]
  omega
  unfold ownB
  rw[Int.tmod_eq_emod_of_nonneg (by omega),k4]
 split
 simp only[za1]
 split
 exact⟨_,rfl,fun h=>by simp at h⟩
 exact⟨_,rfl,fun _=>key _ (by omega) (by omega) (by dsimp only;omega) (by dsimp only;omega)⟩
 simp only[za1]
 split
 exact⟨_,rfl,fun h=>by simp at h⟩
 exact⟨_,rfl,fun _=>key _ (by dsimp only;omega) (by dsimp only;omega) (by dsimp only;omega) (by dsimp only;omega)⟩
 rw[if_pos (by simp;omega)]
 exact⟨_,rfl,fun h=>by simp at h⟩
theorem of_eq(b:Int):∃r,zi7 b=some r/\(BOk b->r.2.1=b.tmod 8):=by
 rw[zi7]
 simp only[ya11]
 unfold BOk
 by_cases h:wr .i64 (b.tdiv 8)<1\/wr .i64 (b.tdiv 8)>1048576
 exact⟨(0,0,50),by simp[h],fun k=>absurd h k.1⟩
 by_cases h1:b.tmod 8>=0<;>by_cases h2:b.tmod 8<6<;>simp[h,h1,h2]
theorem zkw.len{a:TAttempt}(h:zkw a):a.Members.length<=6/\a.Promises.length<=6/\a.Accepted.length<=6:=by
 by_cases h0:a.Phase=0
 unfold zkw at h
 rw[if_pos h0] at h
 subst h
 simp
 exact(h.kept h0).lens
structure GOk (g:TGroup):Prop where
 chk:zbr g=some 0
 ros:QOk g.Roster
 mem:QOk g.Members
 sub:∀n∈g.Members,n∈g.Roster
theorem ya6p:((gen 6 (-1)).all fun m=>(gen 6 (-1)).all fun k=>!(bitw .andNot .u64 (setB m) (setB k)==0)||m.all fun n=>decide (n∈k))=true:=by decide+kernel
theorem yab3(g:TGroup):∃e,zbr g=some e/\(e=0->GOk g):=by
 have key:∀e,zbr g=some e->e=0->GOk g:=by
  intro e h he
  subst he
  have hc:=h
  unfold zbr at h
  by_cases hr:QOk g.Roster
  by_cases hm:QOk g.Members
  refine⟨hc,hr,hm,fun n hn=>?_⟩
  rw[(zna _).2 hr,(zna _).2 hm,zuk,zuk] at h
  simp only[za1,not_true_eq_false,if_false] at h
  split at h
  cases h
  rename_i hz
  have hz:=Classical.not_not.1 hz
  have t:=List.all_eq_true.1 (List.all_eq_true.1 ya6p _ (zqi 6 (-1) _ (by omega) hm.2.1)) _ (zqi 6 (-1) _ (by omega) hr.2.1)
  rw[hz] at t
  simp at t
  exact t n hn
  obtain⟨e,he,hne⟩:=zsk hm
  rw[(zna _).2 hr,he] at h
  simp[hne] at h
  obtain⟨e,he,hne⟩:=zsk hr
  rw[he] at h
  simp[hne] at h
 have tot:∃e,zbr g=some e:=by
  unfold zbr
  rw[zlr,zlr,zuk,zuk]
  simp only[za1]
  repeat' split
  all_goals exact⟨_,rfl⟩
 obtain⟨e,he⟩:=tot
 exact⟨e,he,key e he⟩
def tx(v:List UInt8):Bool:=match zcl v with
 |some r=>r.2==0
 |none=>false
theorem zn3(v:List UInt8):zes v=some (tx v):=by
 obtain⟨r,h⟩:=zrs v
 rw[zes,tx,h];rfl
theorem ya6a{v:List UInt8}(h:tx v=true):v.length<=1024:=by
 apply Decidable.byContradiction
 intro hn
 rw[tx,zcl,if_pos (by omega)] at h
 simp at h
theorem zzg:∀(L:List (List UInt8)),(∀v∈L,tx v=true)->∃cs,zqs L=some cs
 |[],_=>⟨[],rfl⟩
 |v::L,h=>by
  obtain⟨cs,hc⟩:=zzg L fun x hx=>h x (zaw _ hx)
  obtain⟨⟨c,e⟩,hr⟩:=zrs v
  have ht:=h v (List.mem_cons_self ..)
  rw[tx,hr] at ht
  have he:e=0:=by simpa using ht
  exact⟨c::cs,by simp only[zqs,hr,if_pos he,hc];rfl⟩
def memF(g:TGroup)(l:List TCommand):Option TCommand:=l.find? fun c=>decide (c.Kind=3/\∀n∈c.Members,n∈g.Roster)
def memS(g:TGroup)(L:List (List UInt8)):List Int:=match zqs L with
 |some cs=>(match memF g cs.reverse with
  |some c=>c.Members
  |none=>g.Members)
 |none=>g.Members
theorem zz0(f:Int->Option Bool)(p:Int->Bool)(hf:∀x,f x=some (p x))(l:List Int):∀n:Nat,(l.any p=true->∃k:Nat,zb9 f l n=some (.inl (k:Int)))/\(l.any p=false->zb9 f l n=some (.inr ())):=by
 induction l with
 |nil=>intro n;exact⟨by simp,fun _=>rfl⟩
 |cons y l ih=>
  intro n
  rw[zb9,hf,za1]
  by_cases h:p y=true
  rw[if_pos h];exact⟨fun _=>⟨n,rfl⟩,by simp[h]⟩
  rw[if_neg h]
  have:=ih (n+1)
  simpa[h] using this
theorem zxw(f:Int->Option Bool)(p:Int->Bool)(hf:∀x,f x=some (p x))(l:List Int):zci l f=some (l.any p):=by
 rw[zci,ze1]
 have t:=zz0 f p hf l 0
 cases h:l.any p with
 |true=>obtain⟨k,e⟩:=t.1 h;rw[e];simp
 |false=>rw[t.2 h];rfl
theorem ya7e(x:Int)(g:TGroup):zfa x g=some (!decide (x∈g.Roster)):=by
 rw[zfa,zpn];rfl
theorem zut(g:TGroup):∀l,zl6 g l=some (memF g l)
 |[]=>rfl
 |c::l=>by
  unfold zl6
  rw[zut g l,zxw _ _ (fun x=>ya7e x g)]
  simp only[za1]
  unfold memF
  rw[List.find?_cons]
  by_cases h:c.Kind=3
  rw[if_neg (by simp[h])]
  by_cases h2:∀n∈c.Members,n∈g.Roster
  have e:(c.Members.any fun x=>!decide (x∈g.Roster))=false:=by
   rw[List.any_eq_false];intro x hx;simp[h2 x hx]
  rw[e];simp only[h,h2,zb0,if_false,true_and];rw[decide_eq_true h2]
  have e:(c.Members.any fun x=>!decide (x∈g.Roster))=true:=by
   rw[List.any_eq_true]
   apply Classical.byContradiction
   intro k
   exact h2 fun n hn=>Classical.byContradiction fun q=>k ⟨n,hn,by simp[q]⟩
  rw[e];simp[h,h2]
  rw[if_pos h];simp[h]
theorem ya1p{g:TGroup}(hg:GOk g){L:List (List UInt8)}(hl:L.length<=200)(h:∀v∈L,tx v=true):ziv g L=some (memS g L,0):=by
 obtain⟨cs,hc⟩:=zzg L h
 rw[ziv,hg.chk,ya4n,if_neg (by omega),memS,hc]
 simp only[za1,not_true_eq_false,if_false,zut]
 cases memF g cs.reverse with
 |some c=>rfl
 |none=>
  dsimp only
  rw[zaz,if_pos (by have:=hg.mem.1;omega)];rfl
theorem zyv{g:TGroup}(hg:GOk g)(L:List (List UInt8)):QOk (memS g L)/\∀n∈memS g L,n∈g.Roster:=by
 unfold memS
 cases hc:zqs L with
 |none=>exact⟨hg.mem,hg.sub⟩
 |some cs=>
  dsimp only
  cases hm:memF g cs.reverse with
  |none=>exact⟨hg.mem,hg.sub⟩
  |some c=>
   have h1:=List.find?_some hm
   have h2:=List.mem_of_find?_eq_some hm
   have h1:=of_decide_eq_true h1
   obtain⟨e,he,hq⟩:=ya4o c
   have h3:=ya7y L cs hc c (List.mem_reverse.1 h2)
   rw[he] at h3
   exact⟨hq (sj h3) h1.1,h1.2⟩
theorem base{g:TGroup}(hg:GOk g):Base memS tx g:=by
 refine⟨fun v h=>ya6a h,fun L _=>zyv hg L,fun n hn=>?_⟩
 have:=zpa _ _ hg.ros.2.1 n hn
 omega
theorem ya7f{L:List (List UInt8)}(hl:L.length<=200)(h:∀v∈L,tx v=true):zkn L=some 0:=by
 obtain⟨cs,hc⟩:=zzg L h
 rw[zkn,ya4n,if_neg (by omega),hc];rfl
end Go.Proofs
namespace Go.Proofs
open Go.Tm
set_option linter.unusedSimpArgs false
set_option linter.unusedVariables false
structure VUp (l:List TSeen):Prop where
 len:l.length<=200
 up:(l.map TSeen.Slot).Pairwise (·<·)
 rng:∀x∈l,0<=x.Slot/\x.Slot<=200
theorem ya69:∀(l:List TSeen) (k:Int),l.Pairwise (fun a b=>a.Slot<b.Slot)->(∀x∈l,k<x.Slot/\x.Slot<=200)->k<=200->(l.length:Int)<=200-k
 |[],k,_,_,hk=>by simp;omega
 |y::l,k,h,hx,hk=>by
  obtain⟨h1,h2⟩:=List.pairwise_cons.1 h
  obtain⟨k1,k2⟩:=hx y (List.mem_cons_self ..)
  have:=ya69 l y.Slot h2 (fun x m=>⟨h1 x m,(hx x (zaw _ m)).2⟩) k2
  simp only[zak]
  omega
theorem SOk.vup{mem:TGroup->List (List UInt8)->List Int}{t:List UInt8->Bool}{g:TGroup}{num:Int}{s:TSeat}(h:SOk mem t g num s):VUp s.Votes:=by
 have:=ya69 s.Votes s.Log.length h.vo (fun x hx=>⟨(h.vs x hx).2,(h.vs x hx).1.hi⟩) (by have:=h.len;omega)
 refine⟨by omega,List.pairwise_map.2 h.vo,fun x hx=>⟨by have:=(h.vs x hx).2;omega,(h.vs x hx).1.hi⟩⟩
theorem zw5{α:Type}[Inhabited α]{l:List α}{i:Nat}(h:i<l.length):l.getD i default∈l:=by
 rw[List.getD_eq_getElem?_getD,List.getElem?_eq_getElem h];exact List.getElem_mem h
theorem ya6h(x:TSeen)(v:Int)(hx:0<=x.Slot/\x.Slot<=200)(hv:0<=v/\v<=1000):zeu x v=some (x.Slot-v):=by
 rw[zeu,wr64 _ (by omega)]
theorem ya81{l:List TSeen}(h:VUp l){v:Int}(hv:0<=v/\v<=1000):∀(fu i j:Nat),j-i<fu->i<=plc TSeen.Slot v l->plc TSeen.Slot v l<=j->j<=l.length->zar l v zeu fu (i:Int) (j:Int)=some ((plc TSeen.Slot v l:Nat):Int):=by
 intro fu
 have hl:=h.len
 induction fu with
 |zero=>intro i j h;omega
 |succ fu ih=>
  intro i j h0 h1 h2 h3
  rw[zar]
  by_cases hij:i<j
  have hh:(i+j)/2<l.length:=by omega
  rw[if_pos (by omega),ya47 i j (by omega),if_pos (by omega),Int.toNat_natCast,ya6h _ _ (h.rng _ (zw5 hh)) hv]
  simp only[za1]
  have t:=ya04 TSeen.Slot v l h.up _ hh
  by_cases hk:plc TSeen.Slot v l<=(i+j)/2
  have:=t.2 hk
  rw[if_neg (by omega)]
  exact ih i ((i+j)/2) (by omega) h1 hk (by omega)
  have:¬(l.getD ((i+j)/2) default).Slot>=v:=fun c=>hk (t.1 c)
  rw[if_pos (by omega),wr64 _ (by omega)]
  exact ih ((i+j)/2+1) j (by omega) (by omega) h2 h3
  rw[if_neg (by omega)]
  congr 2
  omega
theorem ya05(v:Int):∀(l:List TSeen),(l.map TSeen.Slot).Pairwise (·<·)->l.find? (fun x=>decide (x.Slot=v))=if v∈l.map TSeen.Slot then some (l.getD (plc TSeen.Slot v l) default) else none
 |[],_=>by simp
 |y::l,h=>by
  simp only[zai,List.pairwise_cons] at h
  rw[List.find?_cons]
  by_cases h1:y.Slot=v
  subst h1
  simp[plc]
  by_cases h2:y.Slot<v
  have e:plc TSeen.Slot v (y::l)=plc TSeen.Slot v l+1:=if_pos h2
  have ih:=ya05 v l h.2
  have em:v∈(y::l).map TSeen.Slot↔v∈l.map TSeen.Slot:=by simp[Ne.symm h1]
  rw[e,List.getD_cons_succ]
  simp only[h1,decide_false]
  rw[ih]
  by_cases hm:v∈l.map TSeen.Slot
  rw[if_pos hm,if_pos (em.2 hm)]
  rw[if_neg hm,if_neg (fun c=>hm (em.1 c))]
  have:¬v∈(y::l).map TSeen.Slot:=by
   intro c
   rcases List.mem_cons.1 c with c|c
   exact h1 c.symm
   have:=h.1 _ c;omega
  rw[if_neg this]
  simp only[h1,decide_false]
  rw[List.find?_eq_none]
  intro x hx c
  have e:x.Slot=v:=by simpa using c
  have:=h.1 _ (List.mem_map_of_mem hx)
  omega
theorem ya82{x:Tseat_seat}(h:VUp x.Seat.Votes){v:Int}{k:Nat}(hk:v=(k:Int)+1)(hv:v<=1000):zdc x v=some (zan x.Seat k,((plc TSeen.Slot v x.Seat.Votes:Nat):Int),decide (v∈x.Seat.Votes.map TSeen.Slot)):=by
 have hl:=h.len
 have hv2:0<=v/\v<=1000:=⟨by omega,hv⟩
 have hp:=zx7 TSeen.Slot v x.Seat.Votes
 have hb:=ya81 h hv2 (x.Seat.Votes.length+1) 0 x.Seat.Votes.length (by omega) (Nat.zero_le _) hp (za4 _)
 have hf:=ya05 v _ h.up
 have hh:=zsp TSeen.Slot v _ h.up
 rw[zdc,zc1]
 rw[show((0:Nat):Int)=0 from rfl] at hb
 rw[hb]
 simp only[za1,Int.toNat_natCast]
 have ev:zan x.Seat k=((if v∈x.Seat.Votes.map TSeen.Slot then some (x.Seat.Votes.getD (plc TSeen.Slot v x.Seat.Votes) default) else none).map TSeen.Vote).getD ⟨0,0,[]⟩:=by
  rw[zln,<-hk,hf]
 by_cases hlt:plc TSeen.Slot v x.Seat.Votes<x.Seat.Votes.length
 rw[if_pos (by omega),if_pos (by omega),ya6h _ _ (h.rng _ (zw5 hlt)) hv2]
 simp only[za1]
 by_cases he:(x.Seat.Votes.getD (plc TSeen.Slot v x.Seat.Votes) default).Slot=v
 have hm:=hh.1 ⟨hlt,he⟩
 rw[if_pos (by simp only[za0,decide_eq_true_eq,beq_iff_eq];omega),if_pos (by omega),ev,if_pos hm,decide_eq_true hm]
 rfl
 have hm:¬v∈x.Seat.Votes.map TSeen.Slot:=fun c=>he (hh.2 c).2
 rw[if_neg (by simp only[za0,decide_eq_true_eq,beq_iff_eq];omega),ev,if_neg hm,decide_eq_false hm]
 rfl
 have hm:¬v∈x.Seat.Votes.map TSeen.Slot:=fun c=>hlt (hh.2 c).1
 rw[if_pos (by omega),if_neg (by omega)]
 simp only[za1]
 rw[if_neg (by simp only[za0,decide_eq_true_eq];omega),ev,if_neg hm,decide_eq_false hm]
 rfl
theorem zjw(x:Tseat_seat)(h:x.Seat.Log.length<=1000):zc8 x=some ((x.Seat.Log.length:Int)+1):=by
 rw[zc8,wr64 _ (by omega)]
theorem ya2q{g:TGroup}(hg:GOk g){x:Tseat_seat}(e:x.Seat.Group=g)(hl:x.Seat.Log.length<=200)(h:∀v∈x.Seat.Log,tx v=true):ze4 x=some (memS g x.Seat.Log):=by
 rw[ze4,e,ya1p hg hl h];rfl
theorem zvx{α β:Type}[DecidableEq α](k i:α)(v:β):∀m:List (α×β),mget k (mput i v m)=if k=i then some v else mget k m
 |[]=>by simp[mput,mget]
 |x::m=>by
  simp only[mput]
  split
  rename_i h;subst h
  simp only[mget]
  split<;>rfl
  rename_i h
  simp only[mget]
  rw[zvx k i v m]
  by_cases h1:k=x.1
  rw[if_pos h1]
  have:k≠i:=fun c=>h (c▸h1)
  rw[if_neg this,if_pos h1]
  rw[if_neg h1,if_neg h1]
theorem ck3:∀(l:List (List UInt8)) (m:List (List UInt8×Int)),∃m',zd9 l m=some m'/\∀v,v∉l->mget v m'=mget v m
 |[],m=>⟨m,rfl,fun _ _=>rfl⟩
 |y::l,m=>by
  obtain⟨m',h1,h2⟩:=ck3 l (mput y 1 m)
  refine⟨m',by rw[zd9];exact h1,fun v hv=>?_⟩
  rw[h2 v fun c=>hv (zaw _ c),zvx,if_neg (fun c:v=y=>hv (c▸List.mem_cons_self ..))]
theorem ck4:∀(l:List (List UInt8)) (m:List (List UInt8×Int)),(∀v∈l,mget v m=none/\tx v=true)->l.Nodup->zd8 l m=some (.inr ())
 |[],m,_,_=>rfl
 |y::l,m,h,hd=>by
  obtain⟨h1,h2⟩:=h y (List.mem_cons_self ..)
  obtain⟨d1,d2⟩:=List.nodup_cons.1 hd
  rw[zd8,h1,zn3,h2]
  simp only[Option.getD_none]
  rw[if_pos (by decide)]
  simp only[za1]
  rw[if_neg (by simp)]
  refine ck4 l _ (fun v hv=>?_) d2
  obtain⟨k1,k2⟩:=h v (zaw _ hv)
  rw[zvx,if_neg (fun c:v=y=>d1 (c▸hv))]
  exact⟨k1,k2⟩
theorem ck2:∀(l:List TPromise),(∀p∈l,p.Ballot>0->tx p.Value=true)->zdt l=some (.inr ())
 |[],_=>rfl
 |y::l,h=>by
  have h1:=h y (List.mem_cons_self ..)
  rw[zdt]
  by_cases hb:y.Ballot>0
  rw[if_pos hb,zn3,h1 hb]
  simp only[za1]
  rw[if_neg (by simp)]
  exact ck2 l fun p hp=>h p (zaw _ hp)
  rw[if_neg hb]
  simp only[za1]
  rw[if_neg (fun c=>hb c.1)]
  exact ck2 l fun p hp=>h p (zaw _ hp)
theorem ck1{s:TSeat}{num:Int}(hn:s.Number=num):∀(l:List TSeen) (n:Int),l.Pairwise (fun a b=>a.Slot<b.Slot)->(∀v∈l,VS tx num v/\n<v.Slot)->zdu s l n=some (.inr ())
 |[],n,_,_=>rfl
 |y::l,n,hp,h=>by
  obtain⟨p1,p2⟩:=List.pairwise_cons.1 hp
  obtain⟨h1,h2⟩:=h y (List.mem_cons_self ..)
  have a1:¬(((¬(y.Group=s.Number))\/(y.Slot<=n))\/(y.Slot>200)):=by
   have:=h1.g;have:=h1.hi
   rintro((c|c)|c)
   exact c (by rw[hn];assumption)
   omega
   omega
  have a2:¬(((((¬(y.Group=s.Number))\/(y.Slot<=n))\/(y.Slot>200))\/(¬((0:Int)=0)))\/(y.Vote.Promised=0)):=by
   rintro((c|c)|c)
   exact a1 c
   exact c rfl
   exact h1.p c
  rw[zdu,if_pos a1,zwm,if_pos h1.ok]
  rw[za1]
  have fin:=ck1 hn l y.Slot p2 fun v hv=>⟨(h v (zaw _ hv)).1,p1 v hv⟩
  by_cases hb:y.Vote.Ballot>0
  rw[if_pos ⟨a2,hb⟩,zn3,h1.t hb]
  rw[za1]
  rw[if_neg (fun c=>c.elim a2 fun c=>c.2 rfl)]
  exact fin
  rw[if_neg (fun c=>hb c.2)]
  rw[za1]
  rw[if_neg (fun c=>c.elim a2 fun c=>hb c.1)]
  exact fin
variable {g : TGroup} {num : Int}
theorem SOk.proms{s:TSeat}(h:SOk memS tx g num s):s.Try.Promises.length<1000000:=by have:=h.try_.len;omega
theorem zvh(hg:GOk g)(hn:0<=num/\num<4){s:TSeat}(h:SOk memS tx g num s):zge s=some 0:=by
 have hr:=(base hg).ros _ h.me
 have c1:(((s.Me>=0)/\(s.Me<6))/\(s.Number>=0))/\(s.Number<4):=by have:=h.nm;omega
 obtain⟨e,he,hv⟩:=zw9 s.Try h.proms
 obtain rfl:=hv.2 h.try_
 have hwl:(s.Wishes.length:Int)<=200:=by have:=h.wl;omega
 unfold zge
 rw[if_pos c1,h.grp,hg.chk]
 rw[za1]
 rw[if_pos ⟨c1,rfl⟩,zpn,decide_eq_true h.me]
 rw[za1]
 rw[if_pos ⟨⟨c1,rfl⟩,rfl⟩,ya7f h.len h.log]
 rw[za1]
 have c2:(((((((((s.Me>=0)/\(s.Me<6))/\(s.Number>=0))/\(s.Number<4))/\((0:Int)=0))/\(true=true))/\((0:Int)=0))/\(s.Heard>=0))/\(s.Heard<=8388613))/\((s.Wishes.length:Int)<=200):=⟨⟨⟨⟨⟨⟨c1,rfl⟩,rfl⟩,rfl⟩,h.h0⟩,h.h1⟩,hwl⟩
 rw[if_pos c2,he]
 rw[za1]
 rw[if_neg (fun c=>c ⟨⟨c2,rfl⟩,h.ph⟩),ck1 h.nm _ _ h.vo h.vs]
 rw[za1]
 obtain⟨m,hm1,hm2⟩:=ck3 s.Log []
 have last:Option.bind (zd9 s.Log []) (fun m1=>Option.bind (α:=Int ⊕ Unit) (zd8 s.Wishes m1) fun z=>match z with|(.inl r)=>some r|(.inr _)=>some 0)=some 0:=by
  rw[hm1]
  rw[za1]
  rw[ck4 s.Wishes m (fun v hv=>⟨by rw[hm2 v (h.wt v hv).2];rfl,(h.wt v hv).1⟩) h.wd]
  rfl
 by_cases hp:s.Try.Phase=0
 rw[if_neg (fun c=>c hp)]
 rw[za1]
 exact last
 have K:=h.try_.kept hp
 obtain⟨r,hr1,hr2⟩:=of_eq s.Try.Ballot
 have e1:r.2.1=s.Me:=by
  have h1:=hr2 K.ballot
  have h2:=h.own hp
  unfold ownB at h2
  have h3:=K.ballot.2.1
  omega
 have hl:=h.len
 rw[if_pos hp,hr1]
 rw[za1]
 rw[zjw _ (by show s.Log.length<=1000;omega)]
 rw[za1]
 rw[ya82 (x:=⟨s,[],[]⟩) h.vup (k:=s.Log.length) rfl (by show((s.Log.length:Int)+1)<=1000;omega)]
 rw[za1]
 rw[if_pos (fun c=>c e1),ya2q hg (x:=⟨s,[],[]⟩) h.grp h.len h.log]
 rw[za1]
 rw[if_pos (fun c=>c e1),zrw,decide_eq_true (h.tm hp)]
 rw[za1]
 have c3:¬(((¬(r.2.1=s.Me))\/(¬(true=true)))\/((zan s s.Log.length).Promised<s.Try.Ballot)):=by
  have:=h.tv hp
  rintro((c|c)|c)
  exact c e1
  exact c rfl
  omega
 rw[if_pos c3,zn3,h.tw hp]
 rw[za1]
 rw[if_neg (fun c=>c.elim c3 fun c=>c rfl),ck2 _ (h.tp hp)]
 rw[za1]
 exact last
theorem ya59{s:TSeat}(h1:s.Group.Roster.length<=1000)(h2:s.Group.Members.length<=1000)(h3:s.Log.length<=1000)(h4:s.Votes.length<=1000)(h5:s.Wishes.length<=1000)(h6:zkw s.Try):zfr s=some s:=by
 have:=h6.len
 rw[zfr,zaz,zaz,zc5,zel,zc5,if_pos (by omega),if_pos (by omega),if_pos (by omega),if_pos (by omega),if_pos (by omega),zyb _ (by omega) (by omega) (by omega)]
 rfl
theorem SOk.twin(hg:GOk g){s:TSeat}(h:SOk memS tx g num s):zfr s=some s:=by
 have:=hg.ros.1;have:=hg.mem.1;have:=h.len;have:=h.vup.len;have:=h.wl
 exact ya59 (by rw[h.grp];omega) (by rw[h.grp];omega) (by omega) (by omega) (by omega) h.try_
theorem ya6r(hg:GOk g)(hn:0<=num/\num<4){me:Int}(h:me∈g.Roster):zih me num g=some (newS me num g,0):=by
 have hr:=(base hg).ros _ h
 rw[zih,if_neg (by omega),hg.chk]
 simp only[za1,not_true_eq_false,if_false]
 rw[zpn,decide_eq_true h]
 simp only[za1,not_true_eq_false,if_false]
 have o:=ya3m (mem:=memS) (tx:=tx) (num:=num) (base hg).ros h
 have:=o.twin hg
 unfold newS at this
 rw[this]
 rfl
theorem ya2y(hg:GOk g)(hn:0<=num/\num<4){s:TSeat}(h:SOk memS tx g num s):zii s=some (againS s,0):=by
 rw[zii,zvh hg hn h]
 simp only[za1,not_true_eq_false,if_false]
 rw[h.twin hg]
 rfl
end Go.Proofs
