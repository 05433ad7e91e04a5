/- Texts of the proof. -/
import Derived.Test.YtbedjbhndfbpcaaGreatSeatOnePzi
import Derived.Test.YtbedjbhndfbpcaaGreatSeatOnePzd
namespace Go.Proofs
open Go.Tm
set_option linter.unusedSimpArgs false
set_option linter.unusedVariables false
variable {g : TGroup} {num : Int}
theorem ya12{s:TSeat}(R:List TRecord)(M:List TMail)(h:VUp s.Votes){v:Int}{k:Nat}(hk:v=(k:Int)+1)(hv:v<=1000):zdc ⟨s,R,M⟩ v=some (zan s k,((plc TSeen.Slot v s.Votes:Nat):Int),decide (v∈s.Votes.map TSeen.Slot)):=ya82 (x:=⟨s,R,M⟩) h hk hv
theorem ya3f(n:Int)(k:Nat)(v:TVote):∀(l:List TSeen),(l.map TSeen.Slot).Pairwise (·<·)->(k:Int)+1∈l.map TSeen.Slot->putL n k v l=l.set (plc TSeen.Slot ((k:Int)+1) l) ⟨(l.getD (plc TSeen.Slot ((k:Int)+1) l) default).Group,(l.getD (plc TSeen.Slot ((k:Int)+1) l) default).Slot,v⟩
 |[],_,h=>by cases h
 |y::l,hu,h=>by
  simp only[zai,List.pairwise_cons] at hu
  rw[putL]
  by_cases h1:y.Slot=(k:Int)+1
  have e:plc TSeen.Slot ((k:Int)+1) (y::l)=0:=if_neg (by omega)
  rw[if_pos h1,e];rfl
  rw[if_neg h1]
  have hm:(k:Int)+1∈l.map TSeen.Slot:=by
   rcases List.mem_cons.1 h with c|c
   exact absurd c.symm h1
   exact c
  have h2:y.Slot<(k:Int)+1:=hu.1 _ hm
  have e:plc TSeen.Slot ((k:Int)+1) (y::l)=plc TSeen.Slot ((k:Int)+1) l+1:=if_pos h2
  rw[if_neg (by omega),e,List.getD_cons_succ,List.set_cons_succ,ya3f n k v l hu.2 hm]
theorem ya03(n:Int)(k:Nat)(v:TVote):∀(l:List TSeen),(k:Int)+1∉l.map TSeen.Slot->putL n k v l=l.take (plc TSeen.Slot ((k:Int)+1) l)++⟨n,(k:Int)+1,v⟩::l.drop (plc TSeen.Slot ((k:Int)+1) l)
 |[],_=>rfl
 |y::l,h=>by
  have h1:¬y.Slot=(k:Int)+1:=fun c=>h (by rw[<-c];exact List.mem_cons_self ..)
  have hm:(k:Int)+1∉l.map TSeen.Slot:=fun c=>h (zaw _ c)
  rw[putL,if_neg h1]
  by_cases h2:(k:Int)+1<y.Slot
  have e:plc TSeen.Slot ((k:Int)+1) (y::l)=0:=if_neg (by omega)
  rw[if_pos h2,e];rfl
  have e:plc TSeen.Slot ((k:Int)+1) (y::l)=plc TSeen.Slot ((k:Int)+1) l+1:=if_pos (by omega)
  rw[if_neg h2,e,ya03 n k v l hm];rfl
theorem ya7i{α:Type}[Inhabited α](l:List α)(p:Nat)(hp:p<=l.length)(z:α)(r:List α):(l.take p++z::r).getD p default=z:=by
 rw[List.getD_eq_getElem?_getD,List.getElem?_append_right (by simp;omega)]
 simp[Nat.min_eq_left hp]
theorem ya7h{α:Type}(l:List α)(p:Nat)(hp:p<=l.length)(z w:α)(r:List α):(l.take p++z::r).set p w=l.take p++w::r:=by
 rw[List.set_append_right _ _ (by simp;omega)]
 simp[Nat.min_eq_left hp]
theorem zvc{x:Tseat_seat}(h:VUp x.Seat.Votes){r:TRecord}{k:Nat}(hk:r.Slot=(k:Int)+1)(hv:r.Slot<=1000)(v:TVote)(hR:x.fRecs.length<=1000):∃R,R.length<=x.fRecs.length+1/\zds x r v=some ⟨putV x.Seat k v,R,x.fMail⟩:=by
 have hl:=h.len
 have hp:=zx7 TSeen.Slot r.Slot x.Seat.Votes
 rw[zds,ya82 h hk hv,za1]
 dsimp only
 have ev:((v.Promised=(zan x.Seat k).Promised)/\(v.Ballot=(zan x.Seat k).Ballot)/\(v.Value=(zan x.Seat k).Value))↔v=zan x.Seat k:=by
  constructor
  ·rintro⟨a,b,c⟩
   cases v;cases h:zan x.Seat k;simp_all
  rintro rfl;exact⟨rfl,rfl,rfl⟩
 by_cases he:v=zan x.Seat k
 rw[if_pos (ev.2 he)]
 refine⟨x.fRecs,by omega,?_⟩
 rw[putV,if_pos he]
 rw[if_neg (fun c=>he (ev.1 c))]
 refine⟨x.fRecs++[(⟨r.Kind,x.Seat.Number,r.Slot,r.Ballot,r.Value⟩:TRecord)],by simp,?_⟩
 rw[putV,if_neg he]
 by_cases hm:r.Slot∈x.Seat.Votes.map TSeen.Slot
 have hh:=(zsp TSeen.Slot r.Slot _ h.up).2 hm
 rw[if_neg (by simp[hm]),za1,if_pos (by omega),if_pos (by simp;omega),Int.toNat_natCast,ya3f _ _ _ _ h.up (hk▸hm),<-hk]
 rw[if_pos (by simp[hm]),if_pos (by omega),if_pos (by omega),za1,Int.toNat_natCast,if_pos (by simp;omega),if_pos (by simp;omega),ya7i _ _ hp,ya7h _ _ hp,ya03 _ _ _ _ (hk▸hm),<-hk]
theorem ya0q(v:Int):∀(l:List TSeen),(l.map TSeen.Slot).Pairwise (·<·)->l.filter (fun x=>decide (x.Slot≠v))=if v∈l.map TSeen.Slot then l.eraseIdx (plc TSeen.Slot v l) else l
 |[],_=>by simp
 |y::l,h=>by
  simp only[zai,List.pairwise_cons] at h
  by_cases h1:y.Slot=v
  have e:plc TSeen.Slot v (y::l)=0:=if_neg (by omega)
  rw[e,if_pos (by rw[<-h1];exact List.mem_cons_self ..),List.filter_cons,if_neg (by simp[h1]),List.eraseIdx_cons_zero,List.filter_eq_self.2]
  intro x hx
  have:=h.1 _ (List.mem_map_of_mem hx)
  simp;omega
  rw[List.filter_cons,if_pos (by simp[h1]),ya0q v l h.2]
  have em:v∈(y::l).map TSeen.Slot↔v∈l.map TSeen.Slot:=by simp[Ne.symm h1]
  by_cases hm:v∈l.map TSeen.Slot
  have e:plc TSeen.Slot v (y::l)=plc TSeen.Slot v l+1:=if_pos (h.1 _ hm)
  rw[if_pos hm,if_pos (em.2 hm),e,List.eraseIdx_cons_succ]
  rw[if_neg hm,if_neg (fun c=>hm (em.1 c))]
theorem ya0x{α:Type}(f:α->Option Bool)(p:α->Bool)(hf:∀x,f x=some (p x)):∀l:List α,zps f l=some (l.filter fun x=>!p x)
 |[]=>rfl
 |y::l=>by
  rw[zps,hf,ya0x f p hf l]
  simp only[za1,List.filter_cons]
  cases p y<;>simp
theorem zwu{x:Tseat_seat}(h:VUp x.Seat.Votes)(hl:x.Seat.Log.length<=300)(hw:x.Seat.Wishes.length<=300)(hR:x.fRecs.length<=1000)(v:List UInt8):∃R,R.length<=x.fRecs.length+1/\zf7 x v=some ⟨znh x.Seat v,R,x.fMail⟩:=by
 have hvl:=h.len
 rw[zf7,zjw _ (by omega),za1]
 rw[if_pos (by simp;omega)]
 rw[ya12 _ _ h (k:=x.Seat.Log.length) rfl (by omega),za1]
 dsimp only
 refine⟨x.fRecs++[(⟨3,x.Seat.Number,(x.Seat.Log.length:Int)+1,0,v⟩:TRecord)],by simp,?_⟩
 have hd:=ya0x (fun x0=>zc4 x0 v) (fun x0=>x0==v) (fun _=>rfl) x.Seat.Wishes
 have hw2:(x.Seat.Wishes.filter fun x0=>!(x0==v))=x.Seat.Wishes.filter fun x0=>decide (x0≠v):=by
  congr 1;funext a;by_cases e:a=v<;>simp[e]
 rw[hw2] at hd
 have er:=ya0q ((x.Seat.Log.length:Int)+1) _ h.up
 have fin:∀V:List TSeen,V=x.Seat.Votes.filter (fun y=>decide (y.Slot≠(x.Seat.Log.length:Int)+1))->(if x.Seat.Log.length+[v].length<1000000 then if x.Seat.Wishes.length<1000000 then Option.bind (zps (fun x0=>zc4 x0 v) x.Seat.Wishes) fun v3=>some (⟨(⟨x.Seat.Me,x.Seat.Number,x.Seat.Group,(x.Seat.Log++[v]),V,(⟨0,0,[],[],[],[],[]⟩:TAttempt),v3,0⟩:TSeat),(x.fRecs++[(⟨3,x.Seat.Number,(x.Seat.Log.length:Int)+1,0,v⟩:TRecord)]),x.fMail⟩:Tseat_seat) else none else none)=some ⟨znh x.Seat v,x.fRecs++[(⟨3,x.Seat.Number,(x.Seat.Log.length:Int)+1,0,v⟩:TRecord)],x.fMail⟩:=by
  rintro _ rfl
  rw[if_pos (by simp;omega),if_pos (by omega),hd]
  rfl
 by_cases hm:(x.Seat.Log.length:Int)+1∈x.Seat.Votes.map TSeen.Slot
 have hh:=(zsp TSeen.Slot _ _ h.up).2 hm
 rw[if_pos (decide_eq_true hm),if_pos (by omega),if_pos (by omega),za1,Int.toNat_natCast]
 exact fin _ (by rw[er,if_pos hm])
 rw[if_neg (by simp only[decide_eq_true_eq];exact hm),za1]
 exact fin _ (by rw[er,if_neg hm])
theorem zh5(s:TSeat)(l:List Int)(m:TMail):(ze8 s l m).length<=l.length:=by
 unfold ze8;rw[List.length_map];exact List.length_filter_le _ _
theorem zq9(s:TSeat)(y:Int)(l:List Int)(m:TMail):ze8 s (y::l) m=(if y=s.Me then [] else [{m with From:=s.Me,Group:=s.Number,To:=y}])++ze8 s l m:=by
 unfold ze8
 by_cases h:y=s.Me<;>simp[h,List.filter_cons]
theorem zq7(x:Tseat_seat)(m:TMail):∀(l:List Int) (acc:List TMail) (n:Int),acc.length+l.length<1000000->zcq x m l acc n=some ⟨x.Seat,x.fRecs,acc++ze8 x.Seat l m⟩
 |[],acc,n,_=>by rw[zif];simp[ze8]
 |y::l,acc,n,h=>by
  simp only[zak] at h
  rw[zig,zq9]
  by_cases hy:y=x.Seat.Me
  rw[if_neg (fun c=>c hy),if_pos hy,za1,zq7 x m l acc y (by omega)];rfl
  rw[if_pos hy,if_neg hy,if_pos (by simp;omega),za1,zq7 x m l _ y (by simp;omega),List.append_assoc]
theorem zvb(x:Tseat_seat)(l:List Int)(m:TMail)(h:x.fMail.length+l.length<1000000):zet x l m=some ⟨x.Seat,x.fRecs,x.fMail++ze8 x.Seat l m⟩:=by
 rw[zet,zq7 x m l _ _ h]
theorem zth{α:Type}[Inhabited α](l:List α)(k:Nat)(h:k<l.length):l.drop k=l.getD k default::l.drop (k+1):=by
 rw[za7 h,List.getD_eq_getElem?_getD,List.getElem?_eq_getElem h];rfl
theorem ya1e(x:Tseat_seat)(l:List Int)(m:TMail)(hl:l.length<1000):∀(fu k:Nat) (acc:List TMail) (n:Int),l.length-k<fu->k<=l.length->acc.length+l.length<900000+k->zcb x l m fu acc n (k:Int)=some ⟨x.Seat,x.fRecs,acc++ze8 x.Seat (l.drop k) m⟩:=by
 intro fu
 induction fu with
 |zero=>intro k acc n h;omega
 |succ fu ih=>
  intro k acc n h h1 h2
  rw[zcb]
  by_cases hk:k<l.length
  rw[if_pos (by omega),if_pos (by omega),Int.toNat_natCast,zth l k hk,zq9,wr64 _ (by omega)]
  by_cases hy:l.getD k default=x.Seat.Me
  rw[if_neg (fun c=>c hy),if_pos hy,za1,show((k:Int)+1)=((k+1:Nat):Int) from rfl,ih (k+1) _ _ (by omega) (by omega) (by omega)];rfl
  rw[if_pos hy,if_neg hy,if_pos (by simp;omega),za1,show((k:Int)+1)=((k+1:Nat):Int) from rfl,ih (k+1) _ _ (by omega) (by omega) (by simp;omega),List.append_assoc]
  rw[if_neg (by omega),List.drop_eq_nil_of_le (by omega)]
  simp[ze8]
theorem zvf(x:Tseat_seat)(l:List Int)(m:TMail)(h:x.fMail.length<=2000)(hl:l.length<=100):zd7 x l m=some ⟨x.Seat,x.fRecs,x.fMail++ze8 x.Seat l m⟩:=by
 rw[zd7]
 have:=ya1e x l m (by omega) (l.length+1) 0 x.fMail m.To (by omega) (Nat.zero_le _) (by omega)
 rw[show((0:Nat):Int)=0 from rfl] at this
 exact this
theorem ya1d(x:Tseat_seat)(m:TMail)(hl:x.Seat.Group.Roster.length<1000):∀(fu k:Nat) (acc:List TMail) (n:Int),x.Seat.Group.Roster.length-k<fu->k<=x.Seat.Group.Roster.length->acc.length+x.Seat.Group.Roster.length<900000+k->zca x m fu acc n (k:Int)=some ⟨x.Seat,x.fRecs,acc++ze8 x.Seat (x.Seat.Group.Roster.drop k) m⟩:=by
 intro fu
 induction fu with
 |zero=>intro k acc n h;omega
 |succ fu ih=>
  intro k acc n h h1 h2
  rw[zca]
  by_cases hk:k<x.Seat.Group.Roster.length
  rw[if_pos (by omega),if_pos (by omega),Int.toNat_natCast,zth _ k hk,zq9,wr64 _ (by omega)]
  by_cases hy:x.Seat.Group.Roster.getD k default=x.Seat.Me
  rw[if_neg (fun c=>c hy),if_pos hy,za1,show((k:Int)+1)=((k+1:Nat):Int) from rfl,ih (k+1) _ _ (by omega) (by omega) (by omega)];rfl
  rw[if_pos hy,if_neg hy,if_pos (by simp;omega),za1,show((k:Int)+1)=((k+1:Nat):Int) from rfl,ih (k+1) _ _ (by omega) (by omega) (by simp;omega),List.append_assoc]
  rw[if_neg (by omega),List.drop_eq_nil_of_le (by omega)]
  simp[ze8]
theorem zzy(x:Tseat_seat)(m:TMail)(h:x.fMail.length<=2000)(hl:x.Seat.Group.Roster.length<=100):zem x m=some ⟨x.Seat,x.fRecs,x.fMail++ze8 x.Seat x.Seat.Group.Roster m⟩:=by
 rw[zem]
 have:=ya1d x m (by omega) (x.Seat.Group.Roster.length+1) 0 x.fMail m.To (by omega) (Nat.zero_le _) (by omega)
 rw[show((0:Nat):Int)=0 from rfl] at this
 exact this
theorem zws(hg:GOk g){x:Tseat_seat}(h:SOk memS tx g num x.Seat)(b q:Int)(hR:x.fRecs.length<=900)(hM:x.fMail.length<=1900):∃R,R.length<=x.fRecs.length+1/\zf6 x b q=some ⟨(takenM x.Seat b q).1,R,x.fMail++(takenM x.Seat b q).2⟩:=by
 obtain⟨⟨a,e⟩,h1,h2,h3⟩:=zzn x.Seat.Try b q h.proms
 have hr:=hg.ros.1
 rw[zf6,h1,za1]
 unfold takenM
 by_cases hc:CanA x.Seat.Try b q
 obtain rfl:=h2.2 hc
 obtain rfl:=h3 rfl
 dsimp only
 rw[if_neg (by simp),if_pos hc]
 by_cases hp:(zb3 x.Seat.Try q).Phase=3
 rw[if_pos hp,if_pos hp,zjw _ (by have:=h.len;show x.Seat.Log.length<=1000;omega),za1]
 obtain⟨R,r1,r2⟩:=zwu (x:=⟨{x.Seat with Try:=zb3 x.Seat.Try q},x.fRecs,x.fMail⟩) h.vup (by have:=h.len;show x.Seat.Log.length<=300;omega) (by have:=h.wl;show x.Seat.Wishes.length<=300;omega) (by show x.fRecs.length<=1000;omega) (zb3 x.Seat.Try q).Value
 rw[r2,za1,zzy _ _ (by show x.fMail.length<=2000;omega) (by show x.Seat.Group.Roster.length<=100;rw[h.grp];omega),za1]
 exact⟨R,r1,rfl⟩
 rw[if_neg hp,if_neg hp]
 exact⟨x.fRecs,by omega,by simp⟩
 rw[if_pos (fun c=>hc (h2.1 c)),if_neg hc]
 exact⟨x.fRecs,by omega,by simp⟩
theorem zn6(hg:GOk g){x:Tseat_seat}(h:SOk memS tx g num x.Seat)(b:Int)(p:TPromise)(htp:p.Ballot>0->tx p.Value=true)(hR:x.fRecs.length<=800)(hM:x.fMail.length<=1800):∃R,R.length<=x.fRecs.length+2/\zdx x b p=some ⟨(promisedM x.Seat b p).1,R,x.fMail++(promisedM x.Seat b p).2⟩:=by
 have B:=base hg
 obtain⟨⟨a,e⟩,h1,h2,h3⟩:=zyp x.Seat.Try b p h.proms
 rw[zdx,h1,za1]
 unfold promisedM
 by_cases hc:CanP x.Seat.Try b p
 obtain rfl:=h2.2 hc
 obtain rfl:=h3 rfl
 have S1:=SOk.tryP B h htp hc
 obtain⟨e1,e2,e3,e4⟩:=zht x.Seat.Try p
 dsimp only
 rw[if_neg (by simp),if_pos hc]
 by_cases hp:(zad x.Seat.Try p).Phase=2
 have hlen:=h.len
 have hroom:=S1.room (by show(zad x.Seat.Try p).Phase≠0;omega)
 have hb:b=x.Seat.Try.Ballot:=hc.2.2.1
 have K:=hc.1.kept (by have:=hc.2.1;omega)
 have hml:=(hc.1.len).1
 have hval:=S1.val hp
 rw[if_neg (fun c=>c hp),if_pos hp,zjw _ (by show x.Seat.Log.length<=1000;omega),za1,zvb _ _ _ (by rw[e2];show x.fMail.length+_<1000000;omega),za1]
 have hM2:(x.fMail++ze8 x.Seat (zad x.Seat.Try p).Members (ml 3 x.Seat.Log.length b 0 (zad x.Seat.Try p).Value)).length<=1900:=by
  have:=zh5 x.Seat (zad x.Seat.Try p).Members (ml 3 x.Seat.Log.length b 0 (zad x.Seat.Try p).Value)
  rw[e2] at this ⊢
  rw[zaq];omega
 rw[zpn,za1]
 unfold ownV
 by_cases hme:x.Seat.Me∈(zad x.Seat.Try p).Members
 rw[if_neg (by simp only[decide_eq_true_eq];exact fun c=>c hme)]
 rw[ya12 (s:={x.Seat with Try:=zad x.Seat.Try p}) _ _ h.vup (k:=x.Seat.Log.length) rfl (by show((x.Seat.Log.length:Int)+1)<=1000;omega),za1]
 dsimp only
 obtain⟨⟨v,e'⟩,a1,a2,a3⟩:=zy8 (zan {x.Seat with Try:=zad x.Seat.Try p} x.Seat.Log.length) b (zad x.Seat.Try p).Value
 rw[a1,za1]
 by_cases hA:zns (zan {x.Seat with Try:=zad x.Seat.Try p} x.Seat.Log.length) b (zad x.Seat.Try p).Value
 obtain rfl:=a2.2 hA
 obtain rfl:=a3 rfl
 dsimp only
 rw[if_pos rfl,if_pos ⟨hme,hA⟩]
 obtain⟨R,r1,r2⟩:=zvc (x:=⟨{x.Seat with Try:=zad x.Seat.Try p},x.fRecs,x.fMail++ze8 x.Seat (zad x.Seat.Try p).Members (ml 3 x.Seat.Log.length b 0 (zad x.Seat.Try p).Value)⟩) h.vup (r:=⟨2,0,(x.Seat.Log.length:Int)+1,b,(zad x.Seat.Try p).Value⟩) (k:=x.Seat.Log.length) rfl (by show((x.Seat.Log.length:Int)+1)<=1000;omega) ⟨b,b,(zad x.Seat.Try p).Value⟩ (by show x.fRecs.length<=1000;omega)
 have hbk:BK b:=by rw[hb];exact h.tk (by have:=hc.2.1;omega)
 have S2:SOk memS tx g num (putV {x.Seat with Try:=zad x.Seat.Try p} x.Seat.Log.length ⟨b,b,(zad x.Seat.Try p).Value⟩):=by
  refine S1.putV (za4 _) hroom ⟨.inr hA.2.1,?_⟩ (by have:=hbk.pos;show b≠0;omega) (fun _=>hval) hA.2.2.2 hbk.2 hbk.2
  rw[if_neg (by have:=hbk.pos;show ¬b=0;omega)]
  exact⟨hA.2.1,Int.le_refl _,hA.2.2.1⟩
 obtain⟨p1,_⟩:=zgo {x.Seat with Try:=zad x.Seat.Try p} x.Seat.Log.length ⟨b,b,(zad x.Seat.Try p).Value⟩
 obtain⟨R2,t1,t2⟩:=zws hg (x:=⟨putV {x.Seat with Try:=zad x.Seat.Try p} x.Seat.Log.length ⟨b,b,(zad x.Seat.Try p).Value⟩,R,x.fMail++ze8 x.Seat (zad x.Seat.Try p).Members (ml 3 x.Seat.Log.length b 0 (zad x.Seat.Try p).Value)⟩) S2 b x.Seat.Me (by show R.length<=900;have:R.length<=x.fRecs.length+1:=r1;omega) hM2
 refine⟨R2,by have:R.length<=x.fRecs.length+1:=r1;have:R2.length<=R.length+1:=t1;omega,?_⟩
 have r3:zds ⟨{x.Seat with Try:=zad x.Seat.Try p},x.fRecs,x.fMail++ze8 {x.Seat with Try:=zad x.Seat.Try p} (zad x.Seat.Try p).Members ⟨0,0,3,0,(x.Seat.Log.length:Int)+1,b,0,(zad x.Seat.Try p).Value,0,0⟩⟩ ⟨2,0,(x.Seat.Log.length:Int)+1,b,(zad x.Seat.Try p).Value⟩ ⟨b,b,(zad x.Seat.Try p).Value⟩=_:=r2
 rw[r3,za1]
 dsimp only
 rw[p1,t2,za1,List.append_assoc]
 rw[if_neg (fun c=>hA (a2.1 c)),if_neg (fun c=>hA c.2)]
 exact⟨x.fRecs,by omega,by simp;rfl⟩
 rw[if_pos (by simp only[decide_eq_true_eq];exact hme),if_neg (fun c=>hme c.1)]
 exact⟨x.fRecs,by omega,by simp;rfl⟩
 rw[if_pos hp,if_neg hp]
 exact⟨x.fRecs,by omega,by simp⟩
 rw[if_pos (fun c=>hc (h2.1 c)),if_neg hc]
 exact⟨x.fRecs,by omega,by simp⟩
end Go.Proofs
namespace Go.Proofs
open Go.Tm
set_option linter.unusedSimpArgs false
set_option linter.unusedVariables false
variable {g : TGroup} {num : Int}
theorem zyz(v:List UInt8)(l:List (List UInt8)):∀n:Nat,(v∈l->∃k:Nat,zb6 v l n=some (.inl (k:Int)))/\(v∉l->zb6 v l n=some (.inr ())):=by
 induction l with
 |nil=>intro n;exact⟨by simp,fun _=>rfl⟩
 |cons y l ih=>
  intro n
  rw[zb6]
  by_cases h:v=y
  rw[if_pos h];exact⟨fun _=>⟨n,rfl⟩,by simp[h]⟩
  rw[if_neg h]
  have:=ih (n+1)
  simpa[h] using this
theorem zre(l:List (List UInt8))(v:List UInt8):zbw l v=some (decide (v∈l)):=by
 rw[zbw,zdq]
 have t:=zyz v l 0
 by_cases h:v∈l
 obtain⟨k,e⟩:=t.1 h;rw[e];simp[h]
 rw[t.2 h];simp[h]
theorem zzx(s:TSeat)(R:List TRecord)(M:List TMail)(hw:s.Wishes.length<=200)(v:List UInt8):∃e,zfk ⟨s,R,M⟩ v=some (e,⟨wantS tx s v,R,M⟩):=by
 rw[zfk,zn3,za1]
 unfold wantS
 by_cases h1:tx v=true
 rw[if_neg (fun c=>c h1),zre,za1]
 by_cases h2:v∈s.Log
 rw[if_neg (by simp[h2]),za1,if_pos (by simp[h2]),if_pos (.inr (.inl h2))]
 exact⟨_,rfl⟩
 rw[if_pos (by simp[h2]),zre,za1]
 by_cases h3:v∈s.Wishes
 rw[if_pos (by simp[h3]),if_pos (.inr (.inr (.inl h3)))]
 exact⟨_,rfl⟩
 rw[if_neg (by simp[h2,h3])]
 by_cases h4:s.Wishes.length=200
 rw[if_pos (by show(s.Wishes.length:Int)=200;omega),if_pos (.inr (.inr (.inr h4)))]
 exact⟨_,rfl⟩
 rw[if_neg (by show ¬(s.Wishes.length:Int)=200;omega),if_pos (by simp;omega),if_neg (by simp[h1,h2,h3,h4])]
 exact⟨_,rfl⟩
 rw[if_pos h1,if_pos (.inl (by simpa using h1))]
 exact⟨_,rfl⟩
theorem ya65{m:List Int}{b:Int}{w:List UInt8}(hq:QOk m)(hb:BOk b)(hw:w.length<=1024):zg9 m b w=some (⟨1,b,m,w,[],[],[]⟩,0):=by
 rw[zg9,(zna _).2 hq]
 simp only[za1,not_true_eq_false,if_false,zkv]
 rw[if_pos hb]
 simp only[not_true_eq_false,if_false]
 rw[if_neg (by omega),zaz,if_pos (by have:=hq.1;omega)]
 rfl
theorem zxf(l:List (List UInt8)):l.getD 0 default=l.headD []:=by cases l<;>rfl
theorem ya5a(hg:GOk g){s:TSeat}(h:SOk memS tx g num s):∃b R,(∀c,b=some c->BK c/\ownB c=s.Me.toNat/\(zan s s.Log.length).Promised<c)/\zgp ⟨s,[],[]⟩=some ⟨(tickM memS s b).1,R,(tickM memS s b).2⟩:=by
 have B:=base hg
 have hl:=h.len
 have hr:=hg.ros.1
 have hgr:=h.grp
 have hrl:s.Group.Roster.length<=6:=by rw[hgr];omega
 have hms:=(zyv hg s.Log).1
 rw[zgp,zjw _ (by show s.Log.length<=1000;omega),za1,ya2q hg (x:=⟨s,[],[]⟩) hgr h.len h.log,za1,zzy _ _ (by simp) (by show s.Group.Roster.length<=100;omega),za1]
 have s7:=zh5 s s.Group.Roster (ml 7 s.Log.length 0 0 [])
 have none7:s.Wishes=[]\/(s.Log.length:Int)+1>200\/s.Me∈memS g s.Log->tickM memS s none=(s,ze8 s s.Group.Roster (ml 7 s.Log.length 0 0 [])):=by
  intro c
  unfold tickM
  split
  rfl
  rename_i hw
  rcases c with c|c|c
  exact absurd (.inl c) hw
  exact absurd (.inr c) hw
  rw[if_neg (by rw[hgr];exact fun k=>k c)]
 by_cases hw:((s.Wishes.length:Int)=0)\/((s.Log.length:Int)+1>200)
 rw[if_pos hw]
 have hw2:s.Wishes=[]\/(s.Log.length:Int)+1>200:=hw.imp (fun c=>List.length_eq_zero_iff.1 (by omega)) id
 refine⟨none,[],fun c hc=>(by cases hc),?_⟩
 rw[none7 (hw2.imp id .inl)]
 rfl
 rw[if_neg hw]
 have hwl:0<s.Wishes.length:=by omega
 have hroom:(s.Log.length:Int)+1<=200:=by omega
 have hw2:¬(s.Wishes=[]\/(s.Log.length:Int)+1>200):=by
  rintro(c|c)
  rw[c] at hwl;simp at hwl
  omega
 have hw0:tx (s.Wishes.headD [])=true:=by
  cases e:s.Wishes with
  |nil=>rw[e] at hwl;simp at hwl
  |cons y r=>exact(h.wt y (by rw[e];simp)).1
 rw[zpn,za1]
 by_cases hme:s.Me∈memS g s.Log
 rw[if_neg (by simp only[decide_eq_true_eq];exact fun c=>c hme)]
 rw[ya12 _ _ h.vup (k:=s.Log.length) rfl (by omega),za1]
 dsimp only
 obtain⟨⟨b,e⟩,n1,n2⟩:=ya78 (max (zan s s.Log.length).Promised s.Heard) s.Me
 rw[n1,za1]
 by_cases he:e=0
 subst he
 obtain⟨m1,m2,m3,m4,m5,m6⟩:=n2 rfl
 have m4:max (zan s s.Log.length).Promised s.Heard<b:=m4
 have hlt:(zan s s.Log.length).Promised<b:=by omega
 have m5:BK b:=m5
 have m6:ownB b=s.Me.toNat:=m6
 dsimp only
 rw[if_neg (by simp)]
 obtain⟨⟨v,e'⟩,p1,p2,p3⟩:=zus (zan s s.Log.length) b
 obtain rfl:=p2.2 ⟨(zom h s.Log.length).1,m5.1,Nat.zero_le _,by omega⟩
 obtain rfl:=p3 rfl
 rw[p1,za1]
 dsimp only
 obtain⟨R,r1,r2⟩:=zvc (x:=⟨s,[],ze8 s s.Group.Roster (ml 7 s.Log.length 0 0 [])⟩) h.vup (r:=⟨1,0,(s.Log.length:Int)+1,b,[]⟩) (k:=s.Log.length) rfl (by show((s.Log.length:Int)+1)<=1000;omega) {zan s s.Log.length with Promised:=b} (by simp)
 have r1:R.length<=1:=r1
 have r2':zds ⟨s,[],[]++ze8 s s.Group.Roster ⟨0,0,7,0,(s.Log.length:Int)+1,0,0,[],0,0⟩⟩ ⟨1,0,(s.Log.length:Int)+1,b,[]⟩ ⟨b,(zan s s.Log.length).Ballot,(zan s s.Log.length).Value⟩=_:=r2
 rw[r2',za1]
 obtain⟨q1,q2,q3,q4,q5,q6,q7⟩:=zgo s s.Log.length {zan s s.Log.length with Promised:=b}
 dsimp only
 rw[q6,if_pos hwl,zxf,ya65 hms m5.1 (ya6a hw0),za1]
 dsimp only
 have S1:=SOk.begun B h hroom hw0 m5 m6 hlt
 rw[zvb _ _ _ (by have:=hms.1;show(ze8 s s.Group.Roster (ml 7 s.Log.length 0 0 [])).length+_<1000000;omega),za1]
 dsimp only
 obtain⟨R2,t1,t2⟩:=zn6 hg (x:=⟨{putV s s.Log.length {zan s s.Log.length with Promised:=b} with Try:=⟨1,b,memS s.Group s.Log,s.Wishes.headD [],[],[],[]⟩},R,ze8 s s.Group.Roster (ml 7 s.Log.length 0 0 [])++ze8 s (memS s.Group s.Log) (ml 1 s.Log.length b 0 [])⟩) S1 b ⟨s.Me,(zan s s.Log.length).Ballot,(zan s s.Log.length).Value⟩ (zom h s.Log.length).2.1 (by show R.length<=800;omega) (by
  have k1:=zh5 s (memS s.Group s.Log) (ml 1 s.Log.length b 0 [])
  rw[hgr] at k1
  have:=hms.1
  show(_++_:List TMail).length<=1800
  rw[zaq,hgr]
  rw[hgr] at s7
  omega)
 refine⟨some b,R2,fun c hc=>by obtain rfl:=sj hc;exact⟨m5,m6,hlt⟩,?_⟩
 have eT:tickM memS s (some b)=((promisedM {putV s s.Log.length {zan s s.Log.length with Promised:=b} with Try:=⟨1,b,memS s.Group s.Log,s.Wishes.headD [],[],[],[]⟩} b ⟨s.Me,(zan s s.Log.length).Ballot,(zan s s.Log.length).Value⟩).1,
  ze8 s s.Group.Roster (ml 7 s.Log.length 0 0 [])++ze8 s (memS s.Group s.Log) (ml 1 s.Log.length b 0 [])++(promisedM {putV s s.Log.length {zan s s.Log.length with Promised:=b} with Try:=⟨1,b,memS s.Group s.Log,s.Wishes.headD [],[],[],[]⟩} b ⟨s.Me,(zan s s.Log.length).Ballot,(zan s s.Log.length).Value⟩).2):=by
  unfold tickM
  rw[if_neg hw2,if_neg (by rw[hgr];exact fun k=>k hme)]
 rw[eT]
 generalize putV s s.Log.length {zan s s.Log.length with Promised:=b}=P at*
 simp only[q1,q2,q3,q4,q6,q7,hgr] at t2 ⊢
 exact congrArg (fun z=>Option.bind z fun v12=>some v12) t2
 rw[if_pos he]
 refine⟨none,[],fun c hc=>(by cases hc),?_⟩
 rw[none7 (.inr (.inr hme))]
 rfl
 rw[if_pos (by simp only[decide_eq_true_eq];exact hme),if_pos hwl,zvb _ _ _ (by have:=hms.1;show(ze8 s s.Group.Roster (ml 7 s.Log.length 0 0 [])).length+(memS g s.Log).length<1000000;omega),za1]
 refine⟨none,[],fun c hc=>(by cases hc),?_⟩
 unfold tickM
 rw[if_neg hw2,if_pos (by rw[hgr];exact hme),hgr]
 dsimp only
 rw[zxf]
 rfl
theorem ya5b(hg:GOk g)(hn:0<=num/\num<4){s:TSeat}(h:SOk memS tx g num s):∃b R,(∀c,b=some c->BK c/\ownB c=s.Me.toNat/\(zan s s.Log.length).Promised<c)/\zi6 s=some ((tickM memS s b).1,R,(tickM memS s b).2,0):=by
 obtain⟨b,R,h1,h2⟩:=ya5a hg h
 refine⟨b,R,h1,?_⟩
 rw[zi6,zvh hg hn h,za1,if_neg (by simp),h.twin hg,za1,h2]
 rfl
theorem ya58(hg:GOk g)(hn:0<=num/\num<4){s:TSeat}(h:SOk memS tx g num s)(v:List UInt8):∃x e,zi5 s v=some (x,e)/\(e=0->x=wantS tx s v):=by
 obtain⟨e,h1⟩:=zzx s [] [] h.wl v
 rw[zi5,zvh hg hn h,za1,if_neg (by simp),h.twin hg,za1,h1,za1]
 by_cases he:e=0
 rw[if_neg (by simp[he])]
 exact⟨_,_,rfl,fun _=>rfl⟩
 rw[if_pos he]
 exact⟨_,_,rfl,fun c=>absurd c he⟩
end Go.Proofs
namespace Go.Proofs
open Go.Tm
set_option linter.unusedSimpArgs false
set_option linter.unusedVariables false
variable {g : TGroup} {num : Int}
theorem ya2x(hg:GOk g){s:TSeat}(h:SOk memS tx g num s){m:TMail}(hs:Sl m)(hb:BK m.Ballot):∃R,zg7 ⟨s,[],[]⟩ m=some ⟨(askedM s m).1,R,(askedM s m).2⟩:=by
 have hl:=h.len
 obtain⟨s1,s2⟩:=hs
 have hsn:m.Slot=((zc9 m:Nat):Int)+1:=by unfold zc9;omega
 rw[zg7,zjw _ (by show s.Log.length<=1000;omega),za1]
 dsimp only
 unfold askedM
 by_cases hlt:zc9 m<s.Log.length
 rw[if_pos (by omega),if_pos hlt,wr64 _ (by omega),if_pos (by omega),zvf _ _ _ (by simp) (by simp),za1]
 refine⟨[],?_⟩
 have e:(m.Slot-1).toNat=zc9 m:=rfl
 rw[e]
 have e2:s.Log.getD (zc9 m) default=s.Log.getD (zc9 m) []:=rfl
 rw[e2,hsn]
 rfl
 rw[if_neg (by omega),if_neg hlt,ya12 _ _ h.vup hsn (by omega),za1]
 dsimp only
 obtain⟨⟨v4,e4⟩,p1,p2,p3⟩:=zus (zan s (zc9 m)) m.Ballot
 rw[p1,za1]
 dsimp only
 have send:∀(t:TSeat) (R:List TRecord) (x:TMail),t.Me=s.Me->t.Number=s.Number->zd7 ⟨t,R,[]⟩ [m.From] x=some ⟨t,R,ze8 s [m.From] x⟩:=by
  intro t R x a b
  rw[zvf _ _ _ (by simp) (by simp)]
  have:ze8 t [m.From] x=ze8 s [m.From] x:=by unfold ze8;rw[a,b]
  dsimp only
  rw[this];rfl
 by_cases h3:m.Kind=3
 rw[if_pos h3,if_pos h3]
 obtain⟨⟨v5,e5⟩,a1,a2,a3⟩:=zy8 (zan s (zc9 m)) m.Ballot m.Value
 rw[a1,za1,za1]
 dsimp only
 by_cases hA:zns (zan s (zc9 m)) m.Ballot m.Value
 obtain rfl:=a2.2 hA
 obtain rfl:=a3 rfl
 rw[if_neg (by simp),if_pos h3,if_pos hA,za1]
 dsimp only
 obtain⟨R,r1,r2⟩:=zvc (x:=⟨s,[],[]⟩) h.vup (r:=⟨2,0,m.Slot,m.Ballot,m.Value⟩) hsn (by show m.Slot<=1000;omega) ⟨m.Ballot,m.Ballot,m.Value⟩ (by simp)
 obtain⟨q1,q2,_⟩:=zgo s (zc9 m) ⟨m.Ballot,m.Ballot,m.Value⟩
 rw[if_pos rfl,r2,za1,za1,send _ _ _ q1 q2,za1]
 refine⟨R,?_⟩
 rw[hsn];rfl
 have he:¬e5=0:=fun c=>hA (a2.1 c)
 rw[if_pos he,if_pos h3,if_neg hA,za1]
 dsimp only
 rw[if_neg he,za1,send _ _ _ rfl rfl,za1]
 refine⟨[],?_⟩
 rw[hsn];rfl
 rw[if_neg h3,if_neg h3,za1]
 dsimp only
 by_cases hA:zns (zan s (zc9 m)) m.Ballot []
 obtain rfl:=p2.2 hA
 obtain rfl:=p3 rfl
 rw[if_neg (by simp),if_neg h3,if_pos hA,za1]
 dsimp only
 obtain⟨R,r1,r2⟩:=zvc (x:=⟨s,[],[]⟩) h.vup (r:=⟨1,0,m.Slot,m.Ballot,[]⟩) hsn (by show m.Slot<=1000;omega) {zan s (zc9 m) with Promised:=m.Ballot} (by simp)
 obtain⟨q1,q2,_⟩:=zgo s (zc9 m) {zan s (zc9 m) with Promised:=m.Ballot}
 rw[if_pos rfl,r2,za1,za1,send _ _ _ q1 q2,za1]
 refine⟨R,?_⟩
 rw[hsn];rfl
 have he:¬e4=0:=fun c=>hA (p2.1 c)
 rw[if_pos he,if_neg h3,if_neg hA,za1]
 dsimp only
 rw[if_neg he,za1,send _ _ _ rfl rfl,za1]
 refine⟨[],?_⟩
 rw[hsn];rfl
theorem ya19{s:TSeat}(hl:s.Log.length<=200){m:TMail}(hs:1<=m.Slot/\m.Slot<=201):∀(f k:Nat) (acc:List TMail),m.Slot+8=(k:Int)+1+f->acc.length+f<=20->zby m (f+1) ⟨s,[],acc⟩ ((k:Int)+1)=some ⟨s,[],acc++haveM s m.From f k⟩:=by
 intro f
 induction f with
 |zero=>
  intro k acc h1 h2
  rw[zby,zjw _ (by show s.Log.length<=1000;omega),za1,wr64 _ (by omega),if_neg (by dsimp only;omega),haveM,zag]
 |succ f ih=>
  intro k acc h1 h2
  rw[zby,zjw _ (by show s.Log.length<=1000;omega),za1,wr64 (m.Slot+8) (by omega),haveM]
  by_cases hk:k<s.Log.length
  have e:((k:Int)+1-1)=(k:Int):=by omega
  rw[if_pos (by dsimp only;omega),if_pos hk,wr64 _ (by omega),e,if_pos (by dsimp only;omega),Int.toNat_natCast,zvf _ _ _ (by show acc.length<=2000;omega) (by simp),za1,wr64 _ (by omega)]
  have:=zh5 s [m.From] (ml 6 k 0 0 (s.Log.getD k []))
  have i:=ih (k+1) (acc++ze8 s [m.From] (ml 6 k 0 0 (s.Log.getD k []))) (by omega) (by rw[zaq];have e1:[m.From].length=1:=rfl;omega)
  rw[<-List.append_assoc]
  exact i
  rw[if_neg (by dsimp only;omega),if_neg hk,zag]
theorem ya1a(hg:GOk g){s:TSeat}(h:SOk memS tx g num s){m:TMail}(hm:MW g num m):∃R,zfl ⟨s,[],[]⟩ m=some ⟨(handleM tx s m).1,R,(handleM tx s m).2⟩:=by
 have hl:=h.len
 have K:=hm.kind
 rw[zfl,zjw _ (by show s.Log.length<=1000;omega),za1]
 have e0:(if m.Kind=1 then some (m.Kind==1) else some (m.Kind==3):Option Bool)=some (decide (m.Kind=1\/m.Kind=3)):=by
  by_cases h1:m.Kind=1
  simp[h1]
  by_cases h3:m.Kind=3<;>simp[h1,h3]
 rw[e0,za1]
 dsimp only
 unfold handleM
 by_cases k13:m.Kind=1\/m.Kind=3
 ·rw[if_pos (decide_eq_true k13),if_pos k13]
  have hsb:Sl m/\BK m.Ballot:=by
   rcases K with k|k|k|k|k|k|k|k
   exact⟨k.2.1,k.2.2.1⟩
   omega
   exact⟨k.2.1,k.2.2.1⟩
   all_goals omega
  obtain⟨R,r1⟩:=ya2x hg h hsb.1 hsb.2
  by_cases k1:m.Kind=1
  rw[if_neg (fun c=>c k1),za1,if_pos (.inl k1),if_pos (.inl k1),r1]
  exact⟨R,rfl⟩
  rw[if_pos k1,zn3,za1]
  by_cases ht:tx m.Value=true
  rw[if_pos (.inr ht),if_pos (.inr ht),r1]
  exact⟨R,rfl⟩
  rw[if_neg (fun c=>c.elim k1 ht),if_neg (fun c=>c.elim k1 ht)]
  exact⟨[],rfl⟩
 rw[if_neg (by simp only[decide_eq_true_eq];exact k13),if_neg k13]
 by_cases k2:m.Kind=2
 rw[if_pos k2,if_pos k2]
 by_cases hn:m.Slot=(s.Log.length:Int)+1
 by_cases hp:m.Prior=0
 rw[if_neg (fun c=>c.2 hp),za1,if_pos ⟨hn,.inl hp⟩,if_pos ⟨hn,.inl hp⟩]
 obtain⟨R,r1,r2⟩:=zn6 hg (x:=⟨s,[],[]⟩) h m.Ballot ⟨m.From,m.Prior,m.Value⟩ (fun c=>by have c:m.Prior>0:=c;omega) (by simp) (by simp)
 rw[r2]
 exact⟨R,rfl⟩
 rw[if_pos ⟨hn,hp⟩,zn3,za1]
 by_cases ht:tx m.Value=true
 rw[if_pos ⟨hn,.inr ht⟩,if_pos ⟨hn,.inr ht⟩]
 obtain⟨R,r1,r2⟩:=zn6 hg (x:=⟨s,[],[]⟩) h m.Ballot ⟨m.From,m.Prior,m.Value⟩ (fun _=>ht) (by simp) (by simp)
 rw[r2]
 exact⟨R,rfl⟩
 rw[if_neg (fun c=>c.2.elim hp ht),if_neg (fun c=>c.2.elim hp ht)]
 exact⟨[],rfl⟩
 rw[if_neg (fun c=>hn c.1),za1,if_neg (fun c=>hn c.1),if_neg (fun c=>hn c.1)]
 exact⟨[],rfl⟩
 rw[if_neg k2,if_neg k2]
 by_cases k4:m.Kind=4
 rw[if_pos k4,if_pos k4]
 by_cases hn:m.Slot=(s.Log.length:Int)+1
 rw[if_pos hn,if_pos hn]
 obtain⟨R,r1,r2⟩:=zws hg (x:=⟨s,[],[]⟩) h m.Ballot m.From (by simp) (by simp)
 rw[r2]
 exact⟨R,rfl⟩
 rw[if_neg hn,if_neg hn]
 exact⟨[],rfl⟩
 rw[if_neg k4,if_neg k4]
 by_cases k5:m.Kind=5
 rw[if_pos k5,if_pos k5]
 by_cases hn:m.Slot=(s.Log.length:Int)+1
 rw[if_pos hn,if_pos hn]
 exact⟨[],rfl⟩
 rw[if_neg hn,if_neg hn]
 exact⟨[],rfl⟩
 rw[if_neg k5,if_neg k5]
 by_cases k6:m.Kind=6
 rw[if_pos k6,if_pos k6]
 by_cases hn:m.Slot=(s.Log.length:Int)+1
 rw[if_pos hn,zn3,za1]
 by_cases ht:tx m.Value=true
 rw[if_pos ⟨hn,ht⟩,if_pos ⟨hn,ht⟩]
 obtain⟨R,r1,r2⟩:=zwu (x:=⟨s,[],[]⟩) h.vup (by show s.Log.length<=300;omega) (by have:=h.wl;show s.Wishes.length<=300;omega) (by simp) m.Value
 rw[r2]
 exact⟨R,rfl⟩
 rw[if_neg (fun c=>ht c.2),if_neg (fun c=>ht c.2)]
 exact⟨[],rfl⟩
 rw[if_neg hn,za1,if_neg (fun c=>hn c.1),if_neg (fun c=>hn c.1)]
 exact⟨[],rfl⟩
 rw[if_neg k6,if_neg k6]
 by_cases k7:m.Kind=7
 ·rw[if_pos k7,if_pos k7]
  have hs:1<=m.Slot/\m.Slot<=201:=by
   rcases K with k|k|k|k|k|k|k|k
   all_goals first|omega|exact k.2.1
  have hsn:m.Slot=((zc9 m:Nat):Int)+1:=by unfold zc9;omega
  have:=ya19 hl hs 8 (zc9 m) [] (by omega) (by simp)
  rw[<-hsn] at this
  refine⟨[],?_⟩
  exact this
 rw[if_neg k7,if_neg k7]
 by_cases k9:m.Kind=9
 rw[if_pos k9,if_pos k9]
 obtain⟨e,r1⟩:=zzx s [] [] h.wl m.Value
 rw[r1]
 exact⟨[],rfl⟩
 rw[if_neg k9,if_neg k9]
 exact⟨[],rfl⟩
theorem zzq(a b c:Int):zg5 a b c=some (decide (b<=a/\a<=c)):=by
 rw[zg5];by_cases h:b<=a<;>by_cases k:a<=c<;>simp[h,k]
theorem zwy(m:TMail)(n:Int):zeb m 115 n=some (decide (1<=n/\n<=200)||((m.Kind==7)&&(n==201))):=by
 rw[zeb,if_pos rfl,zzq];rfl
theorem ya1k(m:TMail){n:Int}(h:BK n):zeb m 98 n=some true:=by
 rw[zeb,if_neg (by decide),if_neg (by decide),if_pos rfl,zkv,if_pos h.1];rfl
theorem ya9p(m:TMail){n:Int}(h:BK n):zeb m 112 n=some true:=by
 have:=h.pos
 rw[zeb,if_neg (by decide),if_pos rfl,if_neg (by omega),zkv,if_pos h.1];rfl
theorem ya9q(m:TMail)(h:m.Kind=2)(hv:m.Value=[]):zeb m 112 0=some true:=by
 rw[zeb,if_neg (by decide),if_pos rfl,if_pos ⟨h,rfl⟩,hv];rfl
theorem ya2h(hg:GOk g)(hn:0<=num/\num<4){m:TMail}(hm:MW g num m):zic m=some 0:=by
 have B:=base hg
 have hf:=B.ros _ hm.frm
 have ht:=B.ros _ hm.to
 have hgr:=hm.grp
 obtain⟨i1,i2⟩:=hm.idt
 have hlen:=hm.len
 have K:=hm.kind
 have w1:zg5 m.From 0 5=some true:=by rw[zzq,decide_eq_true (by omega)]
 have w2:zg5 m.To 0 5=some true:=by rw[zzq,decide_eq_true (by omega)]
 have w3:zg5 m.Group 0 3=some true:=by rw[zzq,decide_eq_true (by omega)]
 have hl:decide ((m.Value.length:Int)<=1024)=true:=decide_eq_true (by omega)
 have key:zhe m.Kind≠[]->zo4 m (zhe m.Kind) ⟨m.From,m.To,m.Kind,m.Group,0,0,0,[],0,0⟩ true=some (m,true)->zic m=some 0:=by
  intro h1 h2
  have h3:(zhe m.Kind==[])=false:=by
   cases e:zhe m.Kind with
   |nil=>exact absurd e h1
   |cons a l=>rfl
  rw[zic,if_pos h1,w1,za1,if_pos ⟨h1,rfl⟩,w2,za1,if_pos ⟨⟨h1,rfl⟩,rfl⟩,w3,za1,h3,hl]
  simp only[Bool.not_false,Bool.and_true,h2,za1,and_self,if_true]
 obtain⟨fr,to,kind,grp,slot,ballot,prior,value,id,time⟩:=m
 dsimp only at*
 subst i1 i2
 rcases K with⟨k,c⟩|⟨k,c⟩|⟨k,c⟩|⟨k,c⟩|⟨k,c⟩|⟨k,c⟩|⟨k,c⟩|⟨k,c⟩<;>obtain rfl:kind=_:=k
 obtain⟨⟨a1,a2⟩,b,rfl,rfl⟩:=c
 refine key (by decide) ?_
 have a1:1<=slot:=a1
 have a2:slot<=200:=a2
 simp[zhe,zo4,zq6,zri,zwy,ya1k _ b,a1,a2]
 obtain⟨⟨a1,a2⟩,b,c⟩:=c
 refine key (by decide) ?_
 have a1:1<=slot:=a1
 have a2:slot<=200:=a2
 rcases c with⟨rfl,rfl⟩|c
 simp[zhe,zo4,zq6,zri,zwy,ya1k _ b,ya9q,a1,a2]
 simp[zhe,zo4,zq6,zri,zwy,ya1k _ b,ya9p _ c,a1,a2]
 obtain⟨⟨a1,a2⟩,b,rfl⟩:=c
 refine key (by decide) ?_
 have a1:1<=slot:=a1
 have a2:slot<=200:=a2
 simp[zhe,zo4,zq6,zri,zwy,ya1k _ b,a1,a2]
 obtain⟨⟨a1,a2⟩,b,rfl,rfl⟩:=c
 refine key (by decide) ?_
 have a1:1<=slot:=a1
 have a2:slot<=200:=a2
 simp[zhe,zo4,zq6,zri,zwy,ya1k _ b,a1,a2]
 obtain⟨⟨a1,a2⟩,b,c,rfl⟩:=c
 refine key (by decide) ?_
 have a1:1<=slot:=a1
 have a2:slot<=200:=a2
 simp[zhe,zo4,zq6,zri,zwy,ya1k _ b,ya9p _ c,a1,a2]
 obtain⟨⟨a1,a2⟩,rfl,rfl⟩:=c
 refine key (by decide) ?_
 have a1:1<=slot:=a1
 have a2:slot<=200:=a2
 simp[zhe,zo4,zq6,zri,zwy,a1,a2]
 obtain⟨⟨a1,a2⟩,rfl,rfl,rfl⟩:=c
 refine key (by decide) ?_
 have a1:1<=slot:=a1
 have a2:slot<=201:=a2
 simp[zhe,zo4,zq6,zri,zwy]
 omega
 obtain⟨rfl,rfl,rfl⟩:=c
 refine key (by decide) ?_
 simp[zhe,zo4,zq6,zri]
theorem ya1b(hg:GOk g)(hn:0<=num/\num<4){s:TSeat}(h:SOk memS tx g num s){m:TMail}(hm:MW g num m)(hto:m.To=s.Me):∃R,zhi s m=some ((handleM tx s m).1,R,(handleM tx s m).2,0):=by
 obtain⟨R,r1⟩:=ya1a hg h hm
 refine⟨R,?_⟩
 have hk8:m.Kind≠8:=by
  rcases hm.kind with k|k|k|k|k|k|k|k<;>omega
 have c1:¬(((¬(m.To=s.Me))\/(¬(m.Group=s.Number)))\/(m.Kind=8)):=by
  rintro((c|c)|c)
  exact c hto
  exact c (by rw[hm.grp,h.nm])
  exact hk8 c
 rw[zhi,zvh hg hn h,za1,if_neg (by simp),ya2h hg hn hm,za1,if_neg (by simp)]
 by_cases k9:m.Kind=9
 rw[if_neg (fun c=>c.2 k9),za1,if_neg (fun c=>c.elim c1 fun c=>c.1 k9),h.twin hg,za1,r1]
 rfl
 rw[if_pos ⟨c1,k9⟩,zpn,za1,if_neg (fun c=>c.elim c1 fun c=>c.2 (decide_eq_true (by rw[h.grp];exact hm.frm))),h.twin hg,za1,r1]
 rfl
end Go.Proofs
namespace Go.Proofs
open Go.Tm
set_option linter.unusedSimpArgs false
set_option linter.unusedVariables false
variable {g : TGroup} {num : Int}
theorem zwq(s:TSeat)(b q:Int):(takenM s b q).2.length<=s.Group.Roster.length:=by
 unfold takenM
 split
 split
 exact zh5 _ _ _
 exact Nat.zero_le _
 exact Nat.zero_le _
theorem ya5l(s:TSeat)(b:Int)(v:List UInt8):(ownV s b v).2.length<=s.Group.Roster.length:=by
 unfold ownV
 split
 have:=zwq (putV s s.Log.length ⟨b,b,v⟩) b s.Me
 rw[(zgo s s.Log.length ⟨b,b,v⟩).2.2.1] at this
 exact this
 exact Nat.zero_le _
theorem zx4(s:TSeat)(b:Int)(p:TPromise):(promisedM s b p).2.length<=6+s.Group.Roster.length:=by
 unfold promisedM
 split
 rename_i hc
 split
 have h1:=zh5 s (zad s.Try p).Members (ml 3 s.Log.length b 0 (zad s.Try p).Value)
 have h2:=ya5l {s with Try:=zad s.Try p} b (zad s.Try p).Value
 have h3:=hc.1.len.1
 rw[(zht s.Try p).2.1] at h1 ⊢
 have h2:(ownV {s with Try:=zad s.Try p} b (zad s.Try p).Value).2.length<=s.Group.Roster.length:=h2
 dsimp only
 rw[zaq]
 omega
 exact Nat.zero_le _
 exact Nat.zero_le _
theorem ya5k{s:TSeat}(h:s.Group.Roster.length<=6)(b:Int)(p:TPromise):(promisedM s b p).2.length<=12:=by
 have:=zx4 s b p
 omega
theorem ya2m(hg:GOk g){s:TSeat}(e:s.Group=g)(b:Option Int):(tickM memS s b).2.length<=30:=by
 have hr:=hg.ros.1
 have hm:=(zyv hg s.Log).1.1
 have h7:=zh5 s s.Group.Roster (ml 7 s.Log.length 0 0 [])
 unfold tickM
 rw[e] at h7 ⊢
 split
 dsimp only;omega
 split
 have:=zh5 s (memS g s.Log) (wl (s.Wishes.headD []))
 dsimp only
 rw[zaq]
 omega
 cases b with
 |none=>dsimp only;omega
 |some b=>
  have h1:=zh5 s (memS g s.Log) (ml 1 s.Log.length b 0 [])
  have q3:=(zgo s s.Log.length {zan s s.Log.length with Promised:=b}).2.2.1
  dsimp only
  rw[zaq,zaq]
  refine zao (Nat.add_le_add (Nat.add_le_add h7 h1) (ya5k ?_ _ _)) ?_
  show(putV s s.Log.length {zan s s.Log.length with Promised:=b}).Group.Roster.length<=6
  rw[q3,e];exact hr
  omega
theorem zxg(s:TSeat)(to:Int):∀f k,(haveM s to f k).length<=f
 |0,_=>za4 _
 |f+1,k=>by
  rw[haveM]
  split
  have h1:=zh5 s [to] (ml 6 k 0 0 (s.Log.getD k []))
  have h2:=zxg s to f (k+1)
  have e:[to].length=1:=rfl
  rw[zaq]
  omega
  exact Nat.zero_le _
theorem zz3(hg:GOk g){s:TSeat}(e:s.Group=g)(m:TMail):(handleM tx s m).2.length<=30:=by
 have hr:=hg.ros.1
 have z:(([]:List TMail)).length<=30:=Nat.zero_le _
 have e1:[m.From].length=1:=rfl
 have ask:(askedM s m).2.length<=30:=by
  unfold askedM
  repeat' split
  all_goals
   refine zao (zh5 _ _ _) ?_
   omega
 unfold handleM
 split
 split
 exact ask
 exact z
 split
 split
 have:=zx4 s m.Ballot ⟨m.From,m.Prior,m.Value⟩
 rw[e] at this
 omega
 exact z
 split
 split
 have:=zwq s m.Ballot m.From
 rw[e] at this
 omega
 exact z
 split
 split<;>exact z
 split
 split<;>exact z
 split
 exact zao (zxg s m.From 8 _) (by decide)
 split<;>exact z
theorem ya4b(S:List TSeat)(M:List TMail)(n:Int)(hS:S.length<=6):∀(fu k:Nat),S.length-k<fu->k<=S.length->(∃i:Nat,zb8 ⟨S,M⟩ n fu (k:Int)=some (.inl (i:Int))/\∃h:i<S.length,S[i].Me=n)\/zb8 ⟨S,M⟩ n fu (k:Int)=some (.inr ()):=by
 intro fu
 induction fu with
 |zero=>intro k h;omega
 |succ fu ih=>
  intro k h h1
  rw[zb8]
  by_cases hk:k<S.length
  rw[if_pos (by dsimp only;omega),if_pos (by dsimp only;omega),Int.toNat_natCast,wr64 _ (by omega)]
  have eg:S.getD k default=S[k]:=by rw[List.getD_eq_getElem?_getD,List.getElem?_eq_getElem hk];rfl
  by_cases he:S[k].Me=n
  rw[if_pos (by rw[eg];exact he)]
  exact .inl ⟨k,rfl,hk,he⟩
  rw[if_neg (by rw[eg];exact he)]
  exact ih (k+1) (by omega) (by omega)
  rw[if_neg (by dsimp only;omega)]
  exact .inr rfl
theorem ya4c(S:List TSeat)(M:List TMail)(n:Int)(hS:S.length<=6):(∃i:Nat,zbz ⟨S,M⟩ n=some (i:Int)/\∃h:i<S.length,S[i].Me=n)\/zbz ⟨S,M⟩ n=some (-1):=by
 rw[zbz]
 rcases ya4b S M n hS (S.length+1) 0 (by omega) (Nat.zero_le _) with⟨i,h1,h2⟩|h1
 rw[show((0:Nat):Int)=0 from rfl] at h1
 exact .inl ⟨i,by dsimp only;rw[h1];rfl,h2⟩
 rw[show((0:Nat):Int)=0 from rfl] at h1
 exact .inr (by dsimp only;rw[h1];rfl)
theorem zt7{S:List TSeat}{i:Nat}(h:i<S.length):S.getD i default=S[i]:=by rw[List.getD_eq_getElem?_getD,List.getElem?_eq_getElem h];rfl
theorem yaai(hg:GOk g)(hn:0<=num/\num<4){W:List UInt8->Prop}{S:List TSeat}{M:List TMail}(T:TownOk memS tx g num W S M)(hS:S.length<=6)(hM:M.length<=3000)(a:Ttowncrierlaw25_Act):
  ∃S' M',zck ⟨S,M⟩ a=some (true,⟨S',M'⟩)/\TownOk memS tx g num (fun v=>W v\/v=a.Value) S' M'/\S'.length=S.length:=by
 have B:=base hg
 have T0:=T.more (W':=fun v=>W v\/v=a.Value) fun v h=>.inl h
 rw[zck]
 by_cases hk:((a.Kind.tmod 6)>=1)/\((a.Kind.tmod 6)<=3)
 rw[if_pos hk]
 by_cases hat:(a.At<0)\/(a.At>=(M.length:Int))
 rw[if_pos hat]
 exact⟨S,M,rfl,T0,rfl⟩
 rw[if_neg hat]
 have ha:0<=a.At/\a.At<(M.length:Int):=by omega
 rw[if_pos ha]
 have hlt:a.At.toNat<M.length:=by omega
 have hmem:M.getD a.At.toNat default∈M:=zw5 hlt
 -- the mail that stays
 have hl1:∃l1:List TMail,(if ¬((a.Kind.tmod 6)=2) then if(0<=a.At/\a.At<=(M.length:Int)) then if(M.take a.At.toNat).length*88<=140737488355328 then if(0<=(wr .i64 (a.At+1))/\(wr .i64 (a.At+1))<=(M.length:Int)) then if(M.take a.At.toNat).length+(M.drop (wr .i64 (a.At+1)).toNat).length<1000000 then some ((M.take a.At.toNat)++(M.drop (wr .i64 (a.At+1)).toNat)) else none else none else none else none else some M:Option (List TMail))=some l1/\(∀m∈l1,m∈M)/\l1.length<=M.length:=by
  by_cases h2:a.Kind.tmod 6=2
  exact⟨M,by rw[if_neg (fun c=>c h2)],fun m h=>h,za4 _⟩
  have h1:wr .i64 (a.At+1)=a.At+1:=wr64 _ (by omega)
  have t1:(M.take a.At.toNat).length<=M.length:=by rw[List.length_take];omega
  have t2:(M.drop (a.At+1).toNat).length<=M.length:=by rw[List.length_drop];omega
  refine⟨M.take a.At.toNat++M.drop (a.At+1).toNat,?_,fun m h=>?_,?_⟩
  rw[h1,if_pos h2,if_pos (by omega),if_pos (by omega),if_pos (by omega),if_pos (by omega)]
  rcases List.mem_append.1 h with h|h
  exact List.mem_of_mem_take h
  exact List.mem_of_mem_drop h
  rw[zaq,List.length_take,List.length_drop]
  omega
 obtain⟨l1,e1,i1,n1⟩:=hl1
 rw[e1,za1]
 dsimp only
 rcases ya4c S l1 (M.getD a.At.toNat default).To hS with⟨i,f1,hi,f2⟩|f1
 rw[f1,za1]
 by_cases h3:a.Kind.tmod 6=3
 rw[if_pos (.inl h3)]
 exact⟨S,l1,rfl,T0.less i1,rfl⟩
 rw[if_neg (by omega),if_pos (by omega),Int.toNat_natCast,zt7 hi]
 have hs:=List.getElem_mem hi
 obtain⟨R,r1⟩:=ya1b hg hn (T.ok _ hs) (T.mw _ hmem) f2.symm
 have hlen:=zz3 hg (T.ok _ hs).grp (M.getD a.At.toNat default)
 rw[r1,za1]
 dsimp only
 rw[if_pos rfl,if_pos (by omega),if_pos (by omega),za1]
 exact⟨_,_,rfl,T0.come B hi hmem i1,by simp⟩
 rw[f1,za1,if_pos (.inr (by decide))]
 exact⟨S,l1,rfl,T0.less i1,rfl⟩
 rw[if_neg hk]
 rcases ya4c S M a.Node hS with⟨i,f1,hi,f2⟩|f1
 rw[f1,za1,if_neg (by omega),if_pos (by dsimp only;omega),Int.toNat_natCast]
 dsimp only
 rw[zt7 hi]
 have hs:=List.getElem_mem hi
 by_cases h0:a.Kind.tmod 6=0
 obtain⟨b,R,b1,r1⟩:=ya5b hg hn (T.ok _ hs)
 have hlen:=ya2m hg (T.ok _ hs).grp b
 rw[if_pos h0,r1,za1,za1]
 dsimp only
 rw[if_pos rfl,if_pos (by omega),if_pos (by omega),za1]
 exact⟨_,_,rfl,T0.tick B hi b1,by simp⟩
 by_cases h4:a.Kind.tmod 6=4
 rw[if_neg h0,if_pos h4,ya2y hg hn (T.ok _ hs),za1,za1]
 dsimp only
 rw[if_pos rfl,if_pos (by omega),if_pos (by simp;omega),za1,zag]
 exact⟨_,_,rfl,T0.again hi,by simp⟩
 obtain⟨x,e,w1,w2⟩:=ya58 hg hn (T.ok _ hs) a.Value
 rw[if_neg h0,if_neg h4,w1,za1]
 dsimp only
 by_cases he:e=0
 rw[if_pos he,za1]
 dsimp only
 rw[if_pos rfl,if_pos (by omega),if_pos (by simp;omega),za1,zag,w2 he]
 exact⟨_,_,rfl,T0.want hi (.inr rfl),by simp⟩
 rw[if_neg he,za1]
 dsimp only
 rw[if_pos rfl,if_pos (by omega),if_pos (by simp;omega),za1,zag,zi0 hi]
 exact⟨_,_,rfl,T0,rfl⟩
 rw[f1,za1,if_pos (by decide)]
 exact⟨S,M,rfl,T0,rfl⟩
theorem ya67:zff=some true:=by decide+kernel
theorem yaa4(hg:GOk g)(hn:0<=num/\num<4):∀(l:List Int) (acc:List TSeat),(∀n∈l,n∈g.Roster)->acc.length+l.length<=1000->zbn g num l acc=some (.inr (acc++l.map fun n=>newS n num g))
 |[],acc,_,_=>by rw[zfy];simp
 |y::l,acc,h,hl=>by
  simp only[zak] at hl
  rw[zfz,ya6r hg hn (h y (List.mem_cons_self ..)),za1,if_neg (by simp),if_pos (by simp;omega),yaa4 hg hn l _ (fun n m=>h n (zaw _ m)) (by simp;omega)]
  simp
theorem yaa3(hg:GOk g)(hn:0<=num/\num<4):∀(l:List Ttowncrierlaw25_Act) (S:List TSeat) (M:List TMail) (ws:List (List UInt8)),TownOk memS tx g num (fun v=>v∈ws) S M->S.length<=6->ws.length+l.length<=1000->
  ∃z,zbm true l S M ws=some z/\(z=.inl true\/∃S' M' ws',z=.inr (S',M',ws')/\TownOk memS tx g num (fun v=>v∈ws') S' M'/\S'.length<=6)
 |[],S,M,ws,T,hS,_=>⟨_,zfw true S M ws,.inr ⟨S,M,ws,rfl,T,hS⟩⟩
 |y::l,S,M,ws,T,hS,hl=>by
  simp only[zak] at hl
  rw[zfx]
  by_cases h1:(((y.Value).length:Int)>1100)\/((M.length:Int)>3000)
  rw[if_pos h1]
  exact⟨_,rfl,.inl rfl⟩
  obtain⟨S',M',e,T',n'⟩:=yaai hg hn T hS (by omega) y
  rw[if_neg h1,e,za1,if_neg (by simp),if_pos (by simp;omega)]
  exact yaa3 hg hn l S' M' _ (T'.more fun v hv=>by
   rcases hv with hv|hv
   exact List.mem_append_left _ hv
   exact List.mem_append_right _ (by rw[hv];simp)) (by omega) (by simp;omega)
theorem ya1f(b:List (List UInt8)):∀(l:List (List UInt8)) (n:Nat),n+l.length=b.length->zb7 b l n=some (if l=b.drop n then .inr () else .inl false):=by
 intro l
 induction l with
 |nil=>intro n h;rw[zb7,List.drop_eq_nil_of_le (by simp at h;omega)];simp
 |cons y l ih=>
  intro n h
  simp only[zak] at h
  rw[zb7,if_pos (by omega),zth b n (by omega)]
  by_cases he:y=b.getD n default
  rw[if_neg (fun c=>c he),ih (n+1) (by omega)]
  by_cases h2:l=b.drop (n+1)
  rw[if_pos h2,if_pos (by rw[he,h2])]
  rw[if_neg h2,if_neg (fun c=>h2 (List.cons.inj c).2)]
  rw[if_pos he,if_neg (fun c=>he (List.cons.inj c).1)]
theorem ya5f(a:List (List UInt8)):zd1 a a=some true:=by
 rw[zd1,if_neg (by simp),ya1f a a 0 (by simp),if_pos (by simp)]
 rfl
theorem zxh(v:List UInt8):∀l:List (List UInt8),v∈l->zc0 v l=some (.inl true)
 |[],h=>by cases h
 |y::l,h=>by
  rw[zc0]
  by_cases he:y=v
  rw[if_pos he]
  rw[if_neg he]
  rcases List.mem_cons.1 h with c|c
  exact absurd c.symm he
  exact zxh v l c
theorem yaa2(ws:List (List UInt8)):∀l:List (List UInt8),(∀v∈l,v∈ws)->zbj ws l=some (.inr ())
 |[],_=>rfl
 |y::l,h=>by
  rw[zbj,zg4,zxh y ws (h y (List.mem_cons_self ..))]
  exact yaa2 ws l fun v hv=>h v (zaw _ hv)
theorem yaau{S:List TSeat}(hS:S.length<=6)(ag:∀s∈S,∀t∈S,∀n,n<=s.Log.length->n<=t.Log.length->s.Log.take n=t.Log.take n){i:Nat}(hi:i<S.length):∀(fu k:Nat),i-k<fu->k<=i->zbk S (i:Int) fu (k:Int)=some (.inr ()):=by
 intro fu
 induction fu with
 |zero=>intro k h;omega
 |succ fu ih=>
  intro k h h1
  rw[zbk]
  by_cases hk:k<i
  have hkS:k<S.length:=by omega
  rw[if_pos (by omega),if_pos (by omega),if_pos (by omega),if_pos (by omega),if_pos (by omega),if_pos (by omega),if_pos (by omega),Int.toNat_natCast,Int.toNat_natCast,wr64 _ (by omega),zt7 hkS,zt7 hi]
  have e:=ag _ (List.getElem_mem hkS) _ (List.getElem_mem hi) (min (S[k].Log.length:Int) (S[i].Log.length:Int)).toNat (by omega) (by omega)
  rw[e,ya5f,za1,if_neg (by simp)]
  exact ih (k+1) (by omega) (by omega)
  rw[if_neg (by omega)]
theorem yaav{S:List TSeat}{ws:List (List UInt8)}(hS:S.length<=6)(ag:∀s∈S,∀t∈S,∀n,n<=s.Log.length->n<=t.Log.length->s.Log.take n=t.Log.take n)(hw:∀s∈S,∀v∈s.Log,v∈ws):∀(fu i:Nat),S.length-i<fu->i<=S.length->zbl S ws fu (i:Int)=some (.inr ()):=by
 intro fu
 induction fu with
 |zero=>intro i h;omega
 |succ fu ih=>
  intro i h h1
  rw[zbl]
  by_cases hi:i<S.length
  have e4:=yaau hS ag hi (i+1) 0 (by omega) (Nat.zero_le _)
  rw[show((0:Nat):Int)=0 from rfl] at e4
  rw[if_pos (by omega),Int.toNat_natCast,e4,za1]
  dsimp only
  rw[if_pos (by omega),zt7 hi,yaa2 ws _ (hw _ (List.getElem_mem hi)),za1,wr64 _ (by omega)]
  exact ih (i+1) (by omega) (by omega)
  rw[if_neg (by omega)]
theorem zyd(a0:TGroup)(a1:Int)(a2:List Ttowncrierlaw25_Act):zek a0 a1 a2=some true:=by
 obtain⟨e,c1,c2⟩:=yab3 a0
 rw[zek,ya67,za1,if_pos rfl,if_neg (by simp),c1,za1]
 by_cases hc:(((¬(e=0))\/(a1<0))\/(a1>3))\/((a2.length:Int)>120)
 rw[if_pos hc]
 rw[if_neg hc]
 have he:e=0:=Classical.byContradiction fun k=>hc (.inl (.inl (.inl k)))
 have hg:=c2 he
 have hn:0<=a1/\a1<4:=by omega
 have hr:=hg.ros.1
 rw[yaa4 hg hn a0.Roster [] (fun n h=>h) (by simp;omega),za1]
 dsimp only
 have B:=base hg
 have hup:a0.Roster.Pairwise fun a b=>a<b:=by
  have key:∀(l:List Int) (k:Int),zfh k l=true->l.Pairwise fun a b=>a<b:=by
   intro l
   induction l with
   |nil=>intro _ _;exact List.Pairwise.nil
   |cons y l ih=>
    intro k h
    simp only[zfh,za0,decide_eq_true_eq] at h
    exact List.pairwise_cons.2 ⟨fun x hx=>(zpa l y h.2 x hx).1,ih y h.2⟩
  exact key _ _ hg.ros.2.1
 have T0:=yaak (num:=a1) (W:=fun v=>v∈([]:List (List UInt8))) B hup
 obtain⟨z,e2,hz⟩:=yaa3 hg hn a2 ([]++a0.Roster.map fun n=>newS n a1 a0) [] [] T0 (by simp;omega) (by simp;omega)
 rw[e2,za1]
 rcases hz with rfl|⟨S',M',ws',rfl,T',hS'⟩
 rfl
 dsimp only
 have e3:=yaav hS' (fun s hs t ht n h1 h2=>T'.lives.agree hs ht n h1 h2) (fun s hs=>T'.lives.wished hs) (S'.length+1) 0 (by omega) (Nat.zero_le _)
 rw[show((0:Nat):Int)=0 from rfl] at e3
 rw[e3]
 rfl
end Go.Proofs
