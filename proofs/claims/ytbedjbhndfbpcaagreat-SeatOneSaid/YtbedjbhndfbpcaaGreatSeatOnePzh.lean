/- Texts of the proof. -/
import Derived.Test.YtbedjbhndfbpcaaGreatSeatOnePzg
namespace Go.Proofs
set_option linter.unusedSimpArgs false
set_option linter.unusedVariables false
open Classical
variable {mem : TGroup -> List (List UInt8) -> List Int} {g : TGroup} {W : List UInt8 -> Prop} {S : List TSeat} {M : List TMail} {X : Nat -> Px} {ms : Nat -> List Int}
def putL(n:Int)(k:Nat)(v:TVote):List TSeen->List TSeen
 |[]=>[⟨n,(k:Int)+1,v⟩]
 |y::r=>if y.Slot=(k:Int)+1 then {y with Vote:=v}::r else if(k:Int)+1<y.Slot then⟨n,(k:Int)+1,v⟩::y::r else y::putL n k v r
def putV(s:TSeat)(k:Nat)(v:TVote):TSeat:=if v=zan s k then s else {s with Votes:=putL s.Number k v s.Votes}
theorem zxo(n:Int)(k j:Nat)(v:TVote):∀l:List TSeen,((putL n k v l).find? fun x=>decide (x.Slot=(j:Int)+1)).map TSeen.Vote=if j=k then some v else(l.find? fun x=>decide (x.Slot=(j:Int)+1)).map TSeen.Vote
 |[]=>by
  by_cases e:j=k
  subst e;simp[putL]
  have:¬((k:Int)+1=(j:Int)+1):=by omega
  simp[putL,this,e]
 |y::r=>by
  simp only[putL]
  by_cases h1:y.Slot=(k:Int)+1
  rw[if_pos h1]
  by_cases e:j=k
  subst e;simp[h1]
  have h2:¬(y.Slot=(j:Int)+1):=by omega
  simp[List.find?_cons,h2,e]
  rw[if_neg h1]
  by_cases h3:(k:Int)+1<y.Slot
  rw[if_pos h3]
  by_cases e:j=k
  subst e;simp
  have h2:¬((k:Int)+1=(j:Int)+1):=by omega
  simp[List.find?_cons,h2,e]
  rw[if_neg h3]
  have ih:=zxo n k j v r
  by_cases h2:y.Slot=(j:Int)+1
  have e:¬j=k:=by rintro rfl;exact h1 h2
  simp[List.find?_cons,h2,e]
  simp only[List.find?_cons,h2,decide_false]
  exact ih
theorem zln(s:TSeat)(k:Nat):zan s k=((s.Votes.find? fun v=>decide (v.Slot=(k:Int)+1)).map TSeen.Vote).getD ⟨0,0,[]⟩:=by
 unfold zan
 cases s.Votes.find? fun v=>decide (v.Slot=(k:Int)+1)<;>rfl
theorem ziq(s:TSeat)(k:Nat)(v:TVote)(j:Nat):zan (putV s k v) j=if j=k then v else zan s j:=by
 unfold putV
 split
 rename_i e
 split
 rename_i c;rw[c,e]
 rfl
 rw[zln,zln]
 show((List.find? _ (putL _ _ _ _)).map _).getD _=_
 rw[zxo]
 split<;>rfl
theorem zgo(s:TSeat)(k:Nat)(v:TVote):(putV s k v).Me=s.Me/\(putV s k v).Number=s.Number/\(putV s k v).Group=s.Group/\(putV s k v).Log=s.Log/\(putV s k v).Try=s.Try/\(putV s k v).Wishes=s.Wishes/\(putV s k v).Heard=s.Heard:=by
 unfold putV
 split<;>exact⟨rfl,rfl,rfl,rfl,rfl,rfl,rfl⟩
def znh(s:TSeat)(v:List UInt8):TSeat:={s with Log:=s.Log++[v],Votes:=s.Votes.filter (fun x=>decide (x.Slot≠(s.Log.length:Int)+1)),Try:=⟨0,0,[],[],[],[],[]⟩,Heard:=0,Wishes:=s.Wishes.filter fun x=>decide (x≠v)}
theorem ya0i(s:TSeat)(v:List UInt8)(j:Nat)(hj:s.Log.length<j):zan (znh s v) j=zan s j:=by
 have:(s.Votes.filter (fun x=>decide (x.Slot≠(s.Log.length:Int)+1))).find? (fun x=>decide (x.Slot=(j:Int)+1))=s.Votes.find? fun x=>decide (x.Slot=(j:Int)+1):=by
  rw[List.find?_filter]
  congr 1
  funext x
  by_cases c:x.Slot=(j:Int)+1
  have:¬x.Slot=(s.Log.length:Int)+1:=by omega
  simp[c]
  omega
  simp[c]
 rw[zln,zln]
 show((List.find? _ (s.Votes.filter _)).map _).getD _=_
 rw[this]
def ze8(s:TSeat)(l:List Int)(m:TMail):List TMail:=(l.filter fun to=>decide (to≠s.Me)).map fun to=>{m with From:=s.Me,Group:=s.Number,To:=to}
theorem zvz{s:TSeat}{l:List Int}{m x:TMail}(h:x∈ze8 s l m):x.Kind=m.Kind/\x.Slot=m.Slot/\x.Ballot=m.Ballot/\x.Prior=m.Prior/\x.Value=m.Value/\x.From=s.Me:=by
 obtain⟨to,_,rfl⟩:=List.mem_map.1 h
 exact⟨rfl,rfl,rfl,rfl,rfl,rfl⟩
def ml(kind:Int)(k:Nat)(b p:Int)(v:List UInt8):TMail:=⟨0,0,kind,0,(k:Int)+1,b,p,v,0,0⟩
theorem ya18{s:TSeat}{l:List Int}{kind b p:Int}{v:List UInt8}{k:Nat}{x:TMail}(h:x∈ze8 s l (ml kind k b p v)):zc9 x=k/\1<=x.Slot:=by
 obtain⟨_,e,_⟩:=zvz h
 have e':x.Slot=(k:Int)+1:=e
 unfold zc9
 omega
theorem Link.send(h:Link mem g W S M X ms){s:TSeat}(l:List Int){kind b p:Int}{v:List UInt8}{k:Nat}(hop:1<=kind->kind<=6->Open S k)(h2:kind=2->zlc (X k) s.Me.toNat b p v)(h3:kind=3->(X k).told b v)(h4:kind=4->∃v,(X k).acc s.Me.toNat b v)(h6:kind=6->(X k).ch v)(h9:kind=9->W v):Link mem g W S (M++ze8 s l (ml kind k b p v)) X ms:=by
 refine h.mails fun x hx=>?_
 rcases List.mem_append.1 hx with hx|hx
 exact .inl hx
 obtain⟨e1,e2,e3,e4,e5,e6⟩:=zvz hx
 obtain⟨k1,k2⟩:=ya18 hx
 have e1:x.Kind=kind:=e1
 have e3:x.Ballot=b:=e3
 have e4:x.Prior=p:=e4
 have e5:x.Value=v:=e5
 refine .inr ⟨fun a b=>⟨k2,?_⟩,fun e=>?_,fun e=>?_,fun e=>?_,fun e=>?_,fun e=>?_⟩
 rw[k1];exact hop (by omega) (by omega)
 rw[k1,e3,e4,e5,e6];exact h2 (by omega)
 rw[k1,e3,e5];exact h3 (by omega)
 rw[k1,e3,e6];exact h4 (by omega)
 rw[k1,e5];exact h6 (by omega)
 rw[e5];exact h9 (by omega)
noncomputable def takenM(s:TSeat)(b q:Int):TSeat×List TMail:=
 if CanA s.Try b q then
  if(zb3 s.Try q).Phase=3 then(znh {s with Try:=zb3 s.Try q} (zb3 s.Try q).Value,ze8 s s.Group.Roster (ml 6 s.Log.length 0 0 (zb3 s.Try q).Value))
  else({s with Try:=zb3 s.Try q},[])
 else(s,[])
theorem zi0{S:List TSeat}{i:Nat}(hi:i<S.length):S.set i S[i]=S:=by
 apply List.ext_getElem
 simp
 intro j h1 h2
 rw[List.getElem_set]
 split
 rename_i e;subst e;rfl
 rfl
def zp3(mem:TGroup->List (List UInt8)->List Int)(g:TGroup)(W:List UInt8->Prop)(S:List TSeat)(M:List TMail):Prop:=∃X ms,Link mem g W S M X ms
theorem Link.takenM(h:Link mem g W S M X ms){i:Nat}(hi:i<S.length){b q:Int}(ha:∃v,(X S[i].Log.length).acc q.toNat b v):zp3 mem g W (S.set i (takenM S[i] b q).1) (M++(takenM S[i] b q).2):=by
 have hS:S[i]∈S:=List.getElem_mem hi
 unfold Go.Proofs.takenM
 split
 case isFalse=>rw[zi0 hi,zag];exact⟨X,ms,h⟩
 rename_i hc
 obtain⟨Y,k1,k2,k3⟩:=h.taken (s':={S[i] with Try:=zb3 S[i].Try q}) hi rfl rfl rfl rfl (h.wish S[i] hS) hc ha rfl
 split
 case isFalse=>rw[zag];exact⟨Y,ms,k1⟩
 rename_i h3
 have hch:=k3 h3
 generalize hs1:({S[i] with Try:=zb3 S[i].Try q}:TSeat)=s1 at k1 ⊢
 have eL:s1.Log=S[i].Log:=by rw[<-hs1]
 have eW:s1.Wishes=S[i].Wishes:=by rw[<-hs1]
 have l1:i<(S.set i s1).length:=by simpa using hi
 have e1:(S.set i s1)[i]=s1:=by simp
 obtain⟨Z,ms',z1,z2⟩:=k1.learn (s':=znh s1 (zb3 S[i].Try q).Value) (v:=(zb3 S[i].Try q).Value) l1 (by rw[e1];rfl) (by rw[e1];rfl) (by rw[e1];rfl) (by rw[e1,eL];exact hch) rfl (fun j hj=>by rw[e1] at hj ⊢;exact ya0i s1 _ j hj) (fun v hv=>h.wish _ hS v (by
  have hv:v∈s1.Wishes.filter _:=hv
  rw[eW] at hv
  exact(List.mem_filter.1 hv).1))
 rw[List.set_set] at z1
 refine⟨Z,ms',z1.send _ (fun _ _=>?_) (by simp) (by simp) (by simp) (fun _=>(z2 _).ch _ hch) (by simp)⟩
 refine⟨znh s1 (zb3 S[i].Try q).Value,List.mem_iff_getElem.2 ⟨i,by simpa using hi,by simp⟩,?_⟩
 show _<=(s1.Log++[_]).length
 rw[eL,zaq];simp
def VOk(v:TVote):Prop:=(v.Promised=0\/BOk v.Promised)/\(if v.Ballot=0 then v.Value=[] else BOk v.Ballot/\v.Ballot<=v.Promised/\v.Value.length<=1024)
def zns(v:TVote)(b:Int)(t:List UInt8):Prop:=VOk v/\BOk b/\t.length<=1024/\v.Promised<=b
noncomputable def ownV(s:TSeat)(b:Int)(v:List UInt8):TSeat×List TMail:=
 if s.Me∈s.Try.Members/\zns (zan s s.Log.length) b v then takenM (putV s s.Log.length ⟨b,b,v⟩) b s.Me else(s,[])
noncomputable def promisedM(s:TSeat)(b:Int)(p:TPromise):TSeat×List TMail:=
 if CanP s.Try b p then
  if(zad s.Try p).Phase=2 then
   ((ownV {s with Try:=zad s.Try p} b (zad s.Try p).Value).1,ze8 s (zad s.Try p).Members (ml 3 s.Log.length b 0 (zad s.Try p).Value)++(ownV {s with Try:=zad s.Try p} b (zad s.Try p).Value).2)
  else({s with Try:=zad s.Try p},[])
 else(s,[])
theorem Link.ownV(h:Link mem g W S M X ms){i:Nat}(hi:i<S.length){b:Int}{v:List UInt8}(ht:(X S[i].Log.length).told b v):zp3 mem g W (S.set i (ownV S[i] b v).1) (M++(ownV S[i] b v).2):=by
 have hS:S[i]∈S:=List.getElem_mem hi
 unfold Go.Proofs.ownV
 split
 case isFalse=>rw[zi0 hi,zag];exact⟨X,ms,h⟩
 rename_i hc
 generalize hs1:putV S[i] S[i].Log.length ⟨b,b,v⟩=s1
 obtain⟨r1,r2,r3,r4,r5,r6,r7⟩:=zgo S[i] S[i].Log.length ⟨b,b,v⟩
 rw[hs1] at r1 r2 r3 r4 r5 r6 r7
 obtain⟨Y,k1,k2,k3⟩:=h.accept (s':=s1) (k:=S[i].Log.length) (b:=b) (v:=v) hi r1 r3 r4 r5 (fun v hv=>h.wish _ hS v (r6▸hv)) (h.openS hi) (za4 _) hc.2.2.2.2 ht (by rw[<-hs1,ziq,if_pos rfl]) (fun j hj=>by rw[<-hs1,ziq,if_neg hj])
 have l1:i<(S.set i s1).length:=by simpa using hi
 have e1:(S.set i s1)[i]=s1:=by simp
 have z:=k1.takenM l1 (b:=b) (q:=S[i].Me) (by rw[e1,r4];exact⟨v,k3⟩)
 rw[e1,List.set_set] at z
 exact z
theorem Link.promisedM(h:Link mem g W S M X ms){i:Nat}(hi:i<S.length){b:Int}{p:TPromise}(hp:zlc (X S[i].Log.length) p.Node.toNat b p.Ballot p.Value):zp3 mem g W (S.set i (promisedM S[i] b p).1) (M++(promisedM S[i] b p).2):=by
 have hS:S[i]∈S:=List.getElem_mem hi
 unfold Go.Proofs.promisedM
 split
 case isFalse=>rw[zi0 hi,zag];exact⟨X,ms,h⟩
 rename_i hc
 obtain⟨Y,k1,k2,k3⟩:=h.promised (s':={S[i] with Try:=zad S[i].Try p}) hi rfl rfl rfl rfl (h.wish S[i] hS) hc hp rfl
 split
 case isFalse=>rw[zag];exact⟨Y,ms,k1⟩
 rename_i h2
 have ht:=k3.resolve_left (by omega)
 generalize hs1:({S[i] with Try:=zad S[i].Try p}:TSeat)=s1 at k1 ⊢
 have eL:s1.Log=S[i].Log:=by rw[<-hs1]
 have l1:i<(S.set i s1).length:=by simpa using hi
 have e1:(S.set i s1)[i]=s1:=by simp
 have o1:Open (S.set i s1) S[i].Log.length:=zjx hi (by rw[eL];exact za4 _) (h.openS hi)
 have k4:=k1.send (s:=S[i]) (zad S[i].Try p).Members (kind:=3) (b:=b) (p:=0) (v:=(zad S[i].Try p).Value) (k:=S[i].Log.length) (fun _ _=>o1) (by simp) (fun _=>ht) (by simp) (by simp) (by simp)
 have z:=k4.ownV l1 (b:=b) (v:=(zad S[i].Try p).Value) (by rw[e1,eL];exact ht)
 rw[e1,List.set_set,List.append_assoc] at z
 exact z
end Go.Proofs
namespace Go.Proofs
set_option linter.unusedSimpArgs false
set_option linter.unusedVariables false
open Classical
variable {mem : TGroup -> List (List UInt8) -> List Int} {g : TGroup} {W : List UInt8 -> Prop} {S : List TSeat} {M : List TMail} {X : Nat -> Px} {ms : Nat -> List Int}
def wl(v:List UInt8):TMail:=⟨0,0,9,0,0,0,0,v,0,0⟩
theorem Link.sendW(h:Link mem g W S M X ms){s:TSeat}(l:List Int){v:List UInt8}(hv:W v):Link mem g W S (M++ze8 s l (wl v)) X ms:=by
 refine h.mails fun x hx=>?_
 rcases List.mem_append.1 hx with hx|hx
 exact .inl hx
 obtain⟨e1,e2,e3,e4,e5,e6⟩:=zvz hx
 have e1:x.Kind=9:=e1
 have e5:x.Value=v:=e5
 exact .inr ⟨fun a b=>by omega,fun e=>by omega,fun e=>by omega,fun e=>by omega,fun e=>by omega,fun _=>by rw[e5];exact hv⟩
noncomputable def tickM(mem:TGroup->List (List UInt8)->List Int)(s:TSeat)(b:Option Int):TSeat×List TMail:=
 if s.Wishes=[]\/(s.Log.length:Int)+1>200 then(s,ze8 s s.Group.Roster (ml 7 s.Log.length 0 0 []))
 else if s.Me∉mem s.Group s.Log then(s,ze8 s s.Group.Roster (ml 7 s.Log.length 0 0 [])++ze8 s (mem s.Group s.Log) (wl (s.Wishes.headD [])))
 else match b with
  |none=>(s,ze8 s s.Group.Roster (ml 7 s.Log.length 0 0 []))
  |some b=>
   ((promisedM {putV s s.Log.length {zan s s.Log.length with Promised:=b} with Try:=⟨1,b,mem s.Group s.Log,s.Wishes.headD [],[],[],[]⟩} b ⟨s.Me,(zan s s.Log.length).Ballot,(zan s s.Log.length).Value⟩).1,
    ze8 s s.Group.Roster (ml 7 s.Log.length 0 0 [])++ze8 s (mem s.Group s.Log) (ml 1 s.Log.length b 0 [])++(promisedM {putV s s.Log.length {zan s s.Log.length with Promised:=b} with Try:=⟨1,b,mem s.Group s.Log,s.Wishes.headD [],[],[],[]⟩} b ⟨s.Me,(zan s s.Log.length).Ballot,(zan s s.Log.length).Value⟩).2)
theorem Link.tickM(h:Link mem g W S M X ms){i:Nat}(hi:i<S.length){b:Option Int}(hb:∀c,b=some c->0<c/\ownB c=S[i].Me.toNat/\(zan S[i] S[i].Log.length).Promised<c):zp3 mem g W (S.set i (tickM mem S[i] b).1) (M++(tickM mem S[i] b).2):=by
 have hS:S[i]∈S:=List.getElem_mem hi
 have h7:=h.send (s:=S[i]) S[i].Group.Roster (kind:=7) (b:=0) (p:=0) (v:=[]) (k:=S[i].Log.length) (fun a b=>by omega) (by simp) (by simp) (by simp) (by simp) (by simp)
 unfold Go.Proofs.tickM
 split
 rw[zi0 hi];exact⟨X,ms,h7⟩
 rename_i hw
 have hw0:W (S[i].Wishes.headD []):=by
  cases e:S[i].Wishes with
  |nil=>exact absurd (.inl e) hw
  |cons y r=>exact h.wish _ hS y (by rw[e];simp)
 split
 rw[zi0 hi,<-List.append_assoc];exact⟨X,ms,h7.sendW _ hw0⟩
 cases b with
 |none=>rw[zi0 hi];exact⟨X,ms,h7⟩
 |some b=>
  obtain⟨b1,b2,b3⟩:=hb b rfl
  have hg:=h.grp _ hS
  dsimp only
  generalize hs1:({putV S[i] S[i].Log.length {zan S[i] S[i].Log.length with Promised:=b} with Try:=⟨1,b,mem S[i].Group S[i].Log,S[i].Wishes.headD [],[],[],[]⟩}:TSeat)=s1
  obtain⟨r1,r2,r3,r4,r5,r6,r7⟩:=zgo S[i] S[i].Log.length {zan S[i] S[i].Log.length with Promised:=b}
  have ev:∀j,zan s1 j=zan (putV S[i] S[i].Log.length {zan S[i] S[i].Log.length with Promised:=b}) j:=fun j=>by rw[<-hs1];rfl
  have q1:s1.Me=S[i].Me:=by rw[<-hs1];exact r1
  have q3:s1.Group=S[i].Group:=by rw[<-hs1];exact r3
  have q4:s1.Log=S[i].Log:=by rw[<-hs1];exact r4
  have q6:s1.Wishes=S[i].Wishes:=by rw[<-hs1];exact r6
  obtain⟨Y,k1,k2⟩:=h7.begin_ (s':=s1) (b:=b) (v:=S[i].Wishes.headD []) hi q1 q3 q4 (fun v hv=>h.wish _ hS v (q6▸hv)) b1 b2 b3 (by rw[ev,ziq,if_pos rfl]) (fun j hj=>by rw[ev,ziq,if_neg hj]) (by rw[<-hs1,hg]) hw0
  have l1:i<(S.set i s1).length:=by simpa using hi
  have e1:(S.set i s1)[i]=s1:=by simp
  have in1:s1∈S.set i s1:=List.mem_iff_getElem.2 ⟨i,l1,e1⟩
  have o1:Open (S.set i s1) S[i].Log.length:=zjx hi (by rw[q4];exact za4 _) (h.openS hi)
  have k3:=k1.send (s:=S[i]) (mem S[i].Group S[i].Log) (kind:=1) (b:=b) (p:=0) (v:=[]) (k:=S[i].Log.length) (fun _ _=>o1) (by simp) (by simp) (by simp) (by simp) (by simp)
  have pr:=k3.promOK in1 (k:=S[i].Log.length) (by rw[q4];exact za4 _) (b:=b) (by rw[ev,ziq,if_pos rfl];exact Int.le_refl _)
  have ev1:(zan s1 S[i].Log.length).Ballot=(zan S[i] S[i].Log.length).Ballot/\(zan s1 S[i].Log.length).Value=(zan S[i] S[i].Log.length).Value:=by rw[ev,ziq,if_pos rfl];exact⟨rfl,rfl⟩
  rw[ev1.1,ev1.2] at pr
  have z:=k3.promisedM l1 (b:=b) (p:=⟨S[i].Me,(zan S[i] S[i].Log.length).Ballot,(zan S[i] S[i].Log.length).Value⟩) (by rw[e1,q4];rw[q1] at pr;exact pr)
  rw[e1,List.set_set,List.append_assoc,List.append_assoc] at z
  rw[List.append_assoc]
  exact z
noncomputable def askedM(s:TSeat)(m:TMail):TSeat×List TMail:=
 if zc9 m<s.Log.length then(s,ze8 s [m.From] (ml 6 (zc9 m) 0 0 (s.Log.getD (zc9 m) [])))
 else if m.Kind=3 then
  if zns (zan s (zc9 m)) m.Ballot m.Value then(putV s (zc9 m) ⟨m.Ballot,m.Ballot,m.Value⟩,ze8 s [m.From] (ml 4 (zc9 m) m.Ballot 0 []))
  else(s,ze8 s [m.From] (ml 5 (zc9 m) m.Ballot (zan s (zc9 m)).Promised []))
 else if zns (zan s (zc9 m)) m.Ballot [] then(putV s (zc9 m) {zan s (zc9 m) with Promised:=m.Ballot},ze8 s [m.From] (ml 2 (zc9 m) m.Ballot (zan s (zc9 m)).Ballot (zan s (zc9 m)).Value))
 else(s,ze8 s [m.From] (ml 5 (zc9 m) m.Ballot (zan s (zc9 m)).Promised []))
theorem Link.chAt(h:Link mem g W S M X ms){s:TSeat}(hs:s∈S){k:Nat}(hk:k<s.Log.length):(X k).ch (s.Log.getD k []):=by
 have:=h.log s hs k hk
 rwa [List.getD_eq_getElem?_getD,List.getElem?_eq_getElem hk]
theorem Link.askedM(h:Link mem g W S M X ms){i:Nat}(hi:i<S.length){m:TMail}(hm:MailOK S W X m)(hk:m.Kind=1\/m.Kind=3):zp3 mem g W (S.set i (askedM S[i] m).1) (M++(askedM S[i] m).2):=by
 have hS:S[i]∈S:=List.getElem_mem hi
 obtain⟨o1,o2⟩:=hm.op (by omega) (by omega)
 unfold Go.Proofs.askedM
 split
 rename_i hlt
 rw[zi0 hi]
 exact⟨X,ms,h.send _ (fun _ _=>o2) (by simp) (by simp) (by simp) (fun _=>h.chAt hS hlt) (by simp)⟩
 rename_i hlt
 have hle:S[i].Log.length<=zc9 m:=by omega
 have refuse:zp3 mem g W (S.set i S[i]) (M++ze8 S[i] [m.From] (ml 5 (zc9 m) m.Ballot (zan S[i] (zc9 m)).Promised [])):=by
  rw[zi0 hi]
  exact⟨X,ms,h.send _ (fun _ _=>o2) (by simp) (by simp) (by simp) (by simp) (by simp)⟩
 split
 ·rename_i h3
  split
  case isFalse=>exact refuse
  rename_i ha
  obtain⟨r1,r2,r3,r4,r5,r6,r7⟩:=zgo S[i] (zc9 m) ⟨m.Ballot,m.Ballot,m.Value⟩
  obtain⟨Y,k1,k2,k3⟩:=h.accept (s':=putV S[i] (zc9 m) ⟨m.Ballot,m.Ballot,m.Value⟩) (k:=zc9 m) (b:=m.Ballot) (v:=m.Value) hi r1 r3 r4 r5 (fun v hv=>h.wish _ hS v (r6▸hv)) o2 hle ha.2.2.2 (hm.k3 h3) (by rw[ziq,if_pos rfl]) (fun j hj=>by rw[ziq,if_neg hj])
  exact⟨Y,ms,k1.send _ (fun _ _=>zjx hi (by rw[r4];exact za4 _) o2) (by simp) (by simp) (fun _=>⟨_,k3⟩) (by simp) (by simp)⟩
 ·split
  case isFalse=>exact refuse
  rename_i ha
  obtain⟨r1,r2,r3,r4,r5,r6,r7⟩:=zgo S[i] (zc9 m) {zan S[i] (zc9 m) with Promised:=m.Ballot}
  obtain⟨Y,k1,k2,_⟩:=h.prepare (s':=putV S[i] (zc9 m) {zan S[i] (zc9 m) with Promised:=m.Ballot}) (k:=zc9 m) (b:=m.Ballot) hi r1 r3 r4 r5 (fun v hv=>h.wish _ hS v (r6▸hv)) o2 hle ha.2.2.2 (by rw[ziq,if_pos rfl]) (fun j hj=>by rw[ziq,if_neg hj])
  have in1:putV S[i] (zc9 m) {zan S[i] (zc9 m) with Promised:=m.Ballot}∈S.set i (putV S[i] (zc9 m) {zan S[i] (zc9 m) with Promised:=m.Ballot}):=List.mem_iff_getElem.2 ⟨i,by simpa using hi,by simp⟩
  have pr:=k1.promOK in1 (k:=zc9 m) (by rw[r4];exact hle) (b:=m.Ballot) (by rw[ziq,if_pos rfl];exact Int.le_refl _)
  rw[r1,ziq,if_pos rfl] at pr
  exact⟨Y,ms,k1.send _ (fun _ _=>zjx hi (by rw[r4];exact za4 _) o2) (fun _=>pr) (by simp) (by simp) (by simp) (by simp)⟩
noncomputable def wantS(tx:List UInt8->Bool)(s:TSeat)(v:List UInt8):TSeat:=
 if tx v=false\/v∈s.Log\/v∈s.Wishes\/s.Wishes.length=200 then s else {s with Wishes:=s.Wishes++[v]}
theorem Link.wantS(h:Link mem g W S M X ms){i:Nat}(hi:i<S.length){tx:List UInt8->Bool}{v:List UInt8}(hv:W v):Link mem g W (S.set i (wantS tx S[i] v)) M X ms:=by
 have hS:S[i]∈S:=List.getElem_mem hi
 unfold Go.Proofs.wantS
 split
 rw[zi0 hi];exact h
 refine h.rest hi rfl rfl rfl rfl rfl fun u hu=>?_
 rcases List.mem_append.1 hu with hu|hu
 exact h.wish S[i] hS u hu
 rw[List.mem_singleton] at hu
 rw[hu];exact hv
def haveM(s:TSeat)(to:Int):Nat->Nat->List TMail
 |0,_=>[]
 |f+1,k=>if k<s.Log.length then ze8 s [to] (ml 6 k 0 0 (s.Log.getD k []))++haveM s to f (k+1) else []
theorem Link.haveM(to:Int){i:Nat}(hi:i<S.length):∀(f k:Nat) (M:List TMail),Link mem g W S M X ms->Link mem g W S (M++haveM S[i] to f k) X ms
 |0,k,M,h=>by rw[Go.Proofs.haveM,zag];exact h
 |f+1,k,M,h=>by
  have hS:S[i]∈S:=List.getElem_mem hi
  rw[Go.Proofs.haveM]
  split
  rename_i hk
  rw[<-List.append_assoc]
  exact Link.haveM to hi f (k+1) _ (h.send _ (fun _ _=>⟨S[i],hS,Nat.le_of_lt hk⟩) (by simp) (by simp) (by simp) (fun _=>h.chAt hS hk) (by simp))
  rw[zag];exact h
noncomputable def handleM(tx:List UInt8->Bool)(s:TSeat)(m:TMail):TSeat×List TMail:=
 if m.Kind=1\/m.Kind=3 then if m.Kind=1\/tx m.Value=true then askedM s m else(s,[])
 else if m.Kind=2 then if m.Slot=(s.Log.length:Int)+1/\(m.Prior=0\/tx m.Value=true) then promisedM s m.Ballot ⟨m.From,m.Prior,m.Value⟩ else(s,[])
 else if m.Kind=4 then if m.Slot=(s.Log.length:Int)+1 then takenM s m.Ballot m.From else(s,[])
 else if m.Kind=5 then if m.Slot=(s.Log.length:Int)+1 then({s with Heard:=max s.Heard m.Prior},[]) else(s,[])
 else if m.Kind=6 then if m.Slot=(s.Log.length:Int)+1/\tx m.Value=true then(znh s m.Value,[]) else(s,[])
 else if m.Kind=7 then(s,haveM s m.From 8 (zc9 m))
 else if m.Kind=9 then(wantS tx s m.Value,[])
 else(s,[])
theorem Link.handleM(h:Link mem g W S M X ms){i:Nat}(hi:i<S.length){tx:List UInt8->Bool}{m:TMail}(hm:MailOK S W X m):zp3 mem g W (S.set i (handleM tx S[i] m).1) (M++(handleM tx S[i] m).2):=by
 have hS:S[i]∈S:=List.getElem_mem hi
 have same:zp3 mem g W (S.set i S[i]) (M++[]):=by rw[zi0 hi,zag];exact⟨X,ms,h⟩
 have sl:m.Slot=(S[i].Log.length:Int)+1->zc9 m=S[i].Log.length:=fun e=>by unfold zc9;omega
 unfold Go.Proofs.handleM
 split
 rename_i hk
 split
 exact h.askedM hi hm hk
 exact same
 split
 rename_i hk
 split
 rename_i hn
 have:=hm.k2 hk
 rw[sl hn.1] at this
 exact h.promisedM hi this
 exact same
 split
 rename_i hk
 split
 rename_i hn
 have:=hm.k4 hk
 rw[sl hn] at this
 exact h.takenM hi this
 exact same
 split
 split
 rw[zag];exact⟨X,ms,h.rest hi rfl rfl rfl rfl rfl (h.wish S[i] hS)⟩
 exact same
 split
 rename_i hk
 split
 rename_i hn
 have hc:=hm.k6 hk
 rw[sl hn.1] at hc
 obtain⟨Y,ms',k1,_⟩:=h.learn (s':=znh S[i] m.Value) hi rfl rfl rfl hc rfl (fun j hj=>ya0i S[i] _ j hj) (fun v hv=>h.wish S[i] hS v (List.mem_filter.1 hv).1)
 rw[zag]
 exact⟨Y,ms',k1⟩
 exact same
 split
 rw[zi0 hi];exact⟨X,ms,Link.haveM m.From hi 8 _ M h⟩
 split
 rename_i hk
 rw[zag];exact⟨X,ms,h.wantS hi (hm.k9 hk)⟩
 exact same
def againS(s:TSeat):TSeat:={s with Try:=⟨0,0,[],[],[],[],[]⟩,Wishes:=[],Heard:=0}
theorem Link.againS(h:Link mem g W S M X ms){i:Nat}(hi:i<S.length):zp3 mem g W (S.set i (againS S[i])) M:=by
 obtain⟨Y,k1,_⟩:=h.try_ (s':=Go.Proofs.againS S[i]) hi rfl rfl rfl rfl (fun v hv=>by cases hv) (fun k=>absurd rfl k)
 exact⟨Y,ms,k1⟩
def px0:Px:=⟨fun _ _ _=>False,fun _ _=>False,fun _=>⟨0,0,[]⟩,fun _=>⟨0,0,[],[],[],[],[]⟩,fun _ _ _ _=>False,fun _ _=>False,fun _ _=>False,fun _=>False⟩
theorem ya3d:Emp px0:=⟨fun _ _ _=>id,fun _ _=>id,fun _=>rfl,fun _=>rfl,fun _ _ _ _=>id,fun _ _=>id,fun _ _=>id,fun _=>id⟩
theorem yaa1(hg:∀s∈S,s.Group=g/\s.Log=[]/\s.Votes=[]/\s.Try=⟨0,0,[],[],[],[],[]⟩/\s.Wishes=[])(hme:∀s∈S,0<=s.Me/\s.Me<6)(hd:S.Pairwise fun s t=>s.Me≠t.Me):zp3 mem g W S []:=by
 refine⟨fun _=>px0,fun _=>mem g [],fun k=>ya3d.inv _ _,fun s hs=>(hg s hs).1,hme,hd,fun s hs k hk=>?_,fun s hs k hk=>?_,fun s hs k _=>?_,fun s hs=>(hg s hs).2.2.2.1.symm,fun s hs k _=>rfl,fun s hs v hv=>?_,(fun m hm=>by cases hm),fun _ _=>ya3d⟩
 rw[(hg s hs).2.1] at hk;exact absurd hk (Nat.not_lt_zero _)
 rw[(hg s hs).2.1];simp
 unfold zan;rw[(hg s hs).2.2.1];rfl
 rw[(hg s hs).2.2.2.2] at hv;cases hv
theorem zp3.agree(h:zp3 mem g W S M){s t:TSeat}(hs:s∈S)(ht:t∈S)(n:Nat)(h1:n<=s.Log.length)(h2:n<=t.Log.length):s.Log.take n=t.Log.take n:=by
 obtain⟨X,ms,k⟩:=h
 exact k.takes hs ht n h1 h2
theorem zp3.wished(h:zp3 mem g W S M){s:TSeat}(hs:s∈S):∀v∈s.Log,W v:=by
 obtain⟨X,ms,k⟩:=h
 intro v hv
 obtain⟨j,hj,rfl⟩:=List.getElem_of_mem hv
 exact k.wished hs j hj
end Go.Proofs
namespace Go.Proofs
set_option linter.unusedSimpArgs false
set_option linter.unusedVariables false
open Classical Go.Tm
def R8(b:Int):Prop:=0<=b/\b<=8388613
def BK(b:Int):Prop:=BOk b/\R8 b
theorem BK.rng{b:Int}(h:BK b):8<=b/\b<=8388613:=by
 obtain⟨⟨h1,h0⟩,h2,h3⟩:=h
 have e0:b.tdiv 8=b/8:=Int.tdiv_eq_ediv_of_nonneg h2
 have e1:b.tmod 8=b%8:=Int.tmod_eq_emod_of_nonneg h2
 have e:wr .i64 (b.tdiv 8)=b/8:=by rw[e0];exact zj6 _ _ (by show(-9223372036854775808:Int)<=_;omega) (by show _<=(9223372036854775807:Int);omega)
 rw[e] at h1
 exact⟨by omega,h3⟩
theorem BK.pos{b:Int}(h:BK b):0<b:=by have:=h.rng;omega
structure Base (mem:TGroup->List (List UInt8)->List Int) (tx:List UInt8->Bool) (g:TGroup):Prop where
 tl:∀v,tx v=true->v.length<=1024
 mem:∀L:List (List UInt8),(∀v∈L,tx v=true)->QOk (mem g L)/\∀n∈mem g L,n∈g.Roster
 ros:∀n∈g.Roster,0<=n/\n<6
structure VS (tx:List UInt8->Bool) (num:Int) (v:TSeen):Prop where
 g:v.Group=num
 hi:v.Slot<=200
 ok:VOk v.Vote
 p:v.Vote.Promised≠0
 r:R8 v.Vote.Promised
 rb:R8 v.Vote.Ballot
 t:v.Vote.Ballot>0->tx v.Vote.Value=true
structure SOk (mem:TGroup->List (List UInt8)->List Int) (tx:List UInt8->Bool) (g:TGroup) (num:Int) (s:TSeat):Prop where
 grp:s.Group=g
 nm:s.Number=num
 me:s.Me∈g.Roster
 log:∀v∈s.Log,tx v=true
 len:s.Log.length<=200
 h0:0<=s.Heard
 h1:s.Heard<=8388613
 wl:s.Wishes.length<=200
 wt:∀v∈s.Wishes,tx v=true/\v∉s.Log
 wd:s.Wishes.Nodup
 try_:zkw s.Try
 ph:s.Try.Phase<3
 tb:s.Try.Phase≠0->R8 s.Try.Ballot
 own:s.Try.Phase≠0->ownB s.Try.Ballot=s.Me.toNat
 tm:s.Try.Phase≠0->s.Try.Members=mem g s.Log
 tv:s.Try.Phase≠0->s.Try.Ballot<=(zan s s.Log.length).Promised
 tw:s.Try.Phase≠0->tx s.Try.Wish=true
 tp:s.Try.Phase≠0->∀p∈s.Try.Promises,p.Ballot>0->tx p.Value=true
 vs:∀v∈s.Votes,VS tx num v/\(s.Log.length:Int)<v.Slot
 vo:s.Votes.Pairwise fun a b=>a.Slot<b.Slot
def Sl(m:TMail):Prop:=1<=m.Slot/\m.Slot<=200
structure MW (g:TGroup) (num:Int) (m:TMail):Prop where
 frm:m.From∈g.Roster
 to:m.To∈g.Roster
 grp:m.Group=num
 idt:m.Id=0/\m.Time=0
 len:m.Value.length<=1024
 kind:(m.Kind=1/\Sl m/\BK m.Ballot/\m.Prior=0/\m.Value=[])\/(m.Kind=2/\Sl m/\BK m.Ballot/\(m.Prior=0/\m.Value=[]\/BK m.Prior))\/
  (m.Kind=3/\Sl m/\BK m.Ballot/\m.Prior=0)\/(m.Kind=4/\Sl m/\BK m.Ballot/\m.Prior=0/\m.Value=[])\/(m.Kind=5/\Sl m/\BK m.Ballot/\BK m.Prior/\m.Value=[])\/
  (m.Kind=6/\Sl m/\m.Ballot=0/\m.Prior=0)\/(m.Kind=7/\(1<=m.Slot/\m.Slot<=201)/\m.Ballot=0/\m.Prior=0/\m.Value=[])\/(m.Kind=9/\m.Slot=0/\m.Ballot=0/\m.Prior=0)
variable {mem : TGroup -> List (List UInt8) -> List Int} {tx : List UInt8 -> Bool} {g : TGroup} {num : Int}
theorem zvp(n:Int)(k:Nat)(v:TVote):∀(l:List TSeen),∀x∈putL n k v l,x∈l\/(x.Slot=(k:Int)+1/\x.Vote=v/\(x.Group=n\/∃y∈l,x.Group=y.Group))
 |[],x,hx=>by
  rw[putL,List.mem_singleton] at hx
  rw[hx];exact .inr ⟨rfl,rfl,.inl rfl⟩
 |y::r,x,hx=>by
  rw[putL] at hx
  split at hx
  rename_i e
  rcases List.mem_cons.1 hx with rfl|hx
  exact .inr ⟨e,rfl,.inr ⟨y,List.mem_cons_self ..,rfl⟩⟩
  exact .inl (zaw _ hx)
  split at hx
  rcases List.mem_cons.1 hx with rfl|hx
  exact .inr ⟨rfl,rfl,.inl rfl⟩
  exact .inl hx
  rcases List.mem_cons.1 hx with rfl|hx
  exact .inl (List.mem_cons_self ..)
  rcases zvp n k v r x hx with h|⟨h1,h2,h3⟩
  exact .inl (zaw _ h)
  exact .inr ⟨h1,h2,h3.imp id fun⟨z,hz,e⟩=>⟨z,zaw _ hz,e⟩⟩
theorem ya3e(n:Int)(k:Nat)(v:TVote):∀(l:List TSeen),l.Pairwise (fun a b=>a.Slot<b.Slot)->(putL n k v l).Pairwise fun a b=>a.Slot<b.Slot
 |[],_=>by rw[putL];simp
 |y::r,h=>by
  obtain⟨h1,h2⟩:=List.pairwise_cons.1 h
  rw[putL]
  split
  exact List.pairwise_cons.2 ⟨h1,h2⟩
  rename_i e
  split
  rename_i c
  refine List.pairwise_cons.2 ⟨fun x hx=>?_,h⟩
  show(k:Int)+1<x.Slot
  rcases List.mem_cons.1 hx with rfl|hx
  exact c
  have:=h1 x hx;omega
  rename_i c
  refine List.pairwise_cons.2 ⟨fun x hx=>?_,ya3e n k v r h2⟩
  rcases zvp n k v r x hx with hx|⟨hx,_⟩
  exact h1 x hx
  omega
theorem zom{s:TSeat}(h:SOk mem tx g num s)(k:Nat):VOk (zan s k)/\((zan s k).Ballot>0->tx (zan s k).Value=true)/\((zan s k).Promised≠0->(k:Int)+1<=200)/\R8 (zan s k).Promised/\R8 (zan s k).Ballot:=by
 unfold zan
 split
 rename_i v e
 have hm:=List.mem_of_find?_eq_some e
 have hs:=List.find?_some e
 have:=(h.vs v hm).1
 refine⟨this.ok,this.t,fun _=>?_,this.r,this.rb⟩
 have:=this.hi
 simp at hs
 omega
 exact⟨⟨.inl rfl,by simp⟩,fun h=>absurd h (by decide),fun h=>absurd rfl h,⟨by decide,by decide⟩,⟨by decide,by decide⟩⟩
theorem SOk.putV{s:TSeat}(h:SOk mem tx g num s){k:Nat}{v:TVote}(hk:s.Log.length<=k)(hk2:(k:Int)+1<=200)(hv:VOk v)(hp:v.Promised≠0)(ht:v.Ballot>0->tx v.Value=true)(hm:(zan s k).Promised<=v.Promised)(hr:R8 v.Promised)(hrb:R8 v.Ballot):SOk mem tx g num (putV s k v):=by
 obtain⟨r1,r2,r3,r4,r5,r6,r7⟩:=zgo s k v
 have hvs:∀x∈(Go.Proofs.putV s k v).Votes,VS tx num x/\(s.Log.length:Int)<x.Slot:=by
  intro x hx
  unfold Go.Proofs.putV at hx
  split at hx
  exact h.vs x hx
  rcases zvp _ _ _ _ x hx with hx|⟨e1,e2,e3⟩
  exact h.vs x hx
  refine⟨⟨?_,by omega,e2▸hv,e2▸hp,e2▸hr,e2▸hrb,e2▸ht⟩,by omega⟩
  rcases e3 with e3|⟨y,hy,e3⟩
  rw[e3,h.nm]
  rw[e3];exact(h.vs y hy).1.g
 have hvo:(Go.Proofs.putV s k v).Votes.Pairwise fun a b=>a.Slot<b.Slot:=by
  unfold Go.Proofs.putV
  split
  exact h.vo
  exact ya3e _ _ _ _ h.vo
 refine⟨r3.trans h.grp,r2.trans h.nm,r1▸h.me,r4▸h.log,r4▸h.len,r7▸h.h0,r7▸h.h1,r6▸h.wl,by rw[r6,r4];exact h.wt,r6▸h.wd,r5▸h.try_,r5▸h.ph,r5▸h.tb,by rw[r5,r1];exact h.own,by rw[r5,r4];exact h.tm,fun c=>?_,by rw[r5];exact h.tw,by rw[r5];exact h.tp,by rw[r4];exact hvs,hvo⟩
 rw[r5] at c ⊢
 have:=h.tv c
 rw[r4,ziq]
 split
 rename_i e;rw[e] at this;omega
 exact this
theorem SOk.learn{s:TSeat}(h:SOk mem tx g num s){v:List UInt8}(hv:tx v=true)(hl:(s.Log.length:Int)+1<=200):SOk mem tx g num (znh s v):=by
 have hlen:(znh s v).Log.length=s.Log.length+1:=by show(s.Log++[v]).length=_;simp
 have z:(znh s v).Try.Phase=0:=rfl
 refine⟨h.grp,h.nm,h.me,fun u hu=>?_,by omega,Int.le_refl _,(by show(0:Int)<=_;decide),?_,fun u hu=>?_,h.wd.filter _,?_,(by show(0:Int)<3;decide),fun c=>absurd z c,fun c=>absurd z c,fun c=>absurd z c,fun c=>absurd z c,fun c=>absurd z c,fun c=>absurd z c,fun x hx=>?_,h.vo.filter _⟩
 rcases List.mem_append.1 hu with hu|hu
 exact h.log u hu
 rw[List.mem_singleton.1 hu];exact hv
 have:=List.length_filter_le (fun x=>decide (x≠v)) s.Wishes
 have:=h.wl
 show(s.Wishes.filter _).length<=200
 omega
 obtain⟨h1,h2⟩:=List.mem_filter.1 hu
 have:=h.wt u h1
 refine⟨this.1,fun c=>?_⟩
 rcases List.mem_append.1 c with c|c
 exact this.2 c
 rw[List.mem_singleton] at c
 simp[c] at h2
 show(if _ then _ else _)
 rw[if_pos z];rfl
 obtain⟨h1,h2⟩:=List.mem_filter.1 hx
 have:=h.vs x h1
 refine⟨this.1,?_⟩
 rw[hlen]
 have h2:=of_decide_eq_true h2
 have:=this.2
 omega
theorem zlh(B:Base mem tx g){s:TSeat}(h:SOk mem tx g num s){l:List Int}(hl:∀n∈l,n∈g.Roster){m x:TMail}(hm:m.Id=0/\m.Time=0)(hlen:m.Value.length<=1024)
  (hk:(m.Kind=1/\Sl m/\BK m.Ballot/\m.Prior=0/\m.Value=[])\/(m.Kind=2/\Sl m/\BK m.Ballot/\(m.Prior=0/\m.Value=[]\/BK m.Prior))\/
  (m.Kind=3/\Sl m/\BK m.Ballot/\m.Prior=0)\/(m.Kind=4/\Sl m/\BK m.Ballot/\m.Prior=0/\m.Value=[])\/(m.Kind=5/\Sl m/\BK m.Ballot/\BK m.Prior/\m.Value=[])\/
  (m.Kind=6/\Sl m/\m.Ballot=0/\m.Prior=0)\/(m.Kind=7/\(1<=m.Slot/\m.Slot<=201)/\m.Ballot=0/\m.Prior=0/\m.Value=[])\/(m.Kind=9/\m.Slot=0/\m.Ballot=0/\m.Prior=0)) (hx:x∈ze8 s l m):MW g num x:=by
 obtain⟨to,ht,rfl⟩:=List.mem_map.1 hx
 exact⟨h.me,hl to (List.mem_filter.1 ht).1,h.nm,hm,hlen,hk⟩
theorem SOk.tk{s:TSeat}(h:SOk mem tx g num s)(h0:s.Try.Phase≠0):BK s.Try.Ballot:=⟨(h.try_.kept h0).ballot,h.tb h0⟩
theorem SOk.takenM(B:Base mem tx g){s:TSeat}(h:SOk mem tx g num s){b q:Int}:SOk mem tx g num (takenM s b q).1/\∀x∈(takenM s b q).2,MW g num x:=by
 unfold Go.Proofs.takenM
 split
 case isFalse=>exact⟨h,by simp⟩
 rename_i hc
 have hph:s.Try.Phase≠0:=by have:=hc.2.1;omega
 have hk:=zq5 (a:=s.Try) (n:=q) ⟨hc.1,hc.2.1,rfl,hc.2.2.2⟩
 have K:=hc.1.kept hph
 have hpr:=h.tv hph
 have hbp:=(h.tk hph).pos
 have hsl:=(zom h s.Log.length).2.2.1 (by omega)
 have hph2:s.Try.Phase=2:=by have:=hc.2.1;have:=h.ph;omega
 have hval:tx s.Try.Value=true:=by
  rcases K.value with e|e
  omega
  obtain⟨p,h1,h2,h3⟩:=zu0 s.Try.Promises s.Try.Wish 0
  rcases h3 with⟨rfl,h3⟩|⟨h0,y,hy,h4,h5⟩
  rw[e,h3];exact h.tw hph
  rw[e,h5];exact h.tp hph y hy (by omega)
 split
 have h1:SOk mem tx g num {s with Try:=zb3 s.Try q}\/True:=.inr trivial
 have e2:(zb3 s.Try q).Value=s.Try.Value:=rfl
 have hL:=h.learn (v:=s.Try.Value) hval hsl
 refine⟨?_,fun x hx=>?_⟩
 rw[e2];exact hL
 rw[e2] at hx
 exact zlh B h (by rw[h.grp];exact fun n hn=>hn) ⟨rfl,rfl⟩ (B.tl _ hval) (.inr (.inr (.inr (.inr (.inr (.inl ⟨rfl,⟨by show(1:Int)<=(s.Log.length:Int)+1;omega,by show(s.Log.length:Int)+1<=200;omega⟩,rfl,rfl⟩)))))) hx
 rename_i h3
 have hp2:(zb3 s.Try q).Phase=2:=by
  have e:(zb3 s.Try q).Phase=if zhg s.Try.Members (zb3 s.Try q).Accepted=true then 3 else s.Try.Phase:=rfl
  rw[e] at h3 ⊢
  split at h3
  exact absurd rfl h3
  rename_i c;rw[if_neg c];exact hph2
 refine⟨⟨h.grp,h.nm,h.me,h.log,h.len,h.h0,h.h1,h.wl,h.wt,h.wd,hk.1,by show(zb3 s.Try q).Phase<3;omega,fun _=>h.tb hph,fun _=>h.own hph,fun _=>h.tm hph,fun _=>h.tv hph,fun _=>h.tw hph,fun _=>h.tp hph,h.vs,h.vo⟩,by simp⟩
end Go.Proofs
namespace Go.Proofs
set_option linter.unusedSimpArgs false
set_option linter.unusedVariables false
open Classical
variable {mem : TGroup -> List (List UInt8) -> List Int} {tx : List UInt8 -> Bool} {g : TGroup} {num : Int}
theorem SOk.val{s:TSeat}(h:SOk mem tx g num s)(h2:s.Try.Phase=2):tx s.Try.Value=true:=by
 have hph:s.Try.Phase≠0:=by omega
 have K:=h.try_.kept hph
 rcases K.value with e|e
 omega
 obtain⟨p,h1,h2,h3⟩:=zu0 s.Try.Promises s.Try.Wish 0
 rcases h3 with⟨rfl,h3⟩|⟨h0,y,hy,h4,h5⟩
 rw[e,h3];exact h.tw hph
 rw[e,h5];exact h.tp hph y hy (by omega)
theorem SOk.room{s:TSeat}(h:SOk mem tx g num s)(h2:s.Try.Phase≠0):(s.Log.length:Int)+1<=200:=by
 have K:=h.try_.kept h2
 have:=h.tv h2
 have:=(h.tk h2).pos
 exact(zom h s.Log.length).2.2.1 (by omega)
theorem SOk.ownV(B:Base mem tx g){s:TSeat}(h:SOk mem tx g num s){b:Int}{v:List UInt8}(hv:tx v=true)(hl:(s.Log.length:Int)+1<=200)(hr:R8 b):SOk mem tx g num (ownV s b v).1/\∀x∈(ownV s b v).2,MW g num x:=by
 unfold Go.Proofs.ownV
 split
 case isFalse=>exact⟨h,by simp⟩
 rename_i hc
 obtain⟨a1,a2,a3,a4⟩:=hc.2
 have hb:=BK.pos ⟨a2,hr⟩
 refine SOk.takenM B (h.putV (za4 _) hl ⟨.inr a2,?_⟩ (by show b≠0;omega) (fun _=>hv) a4 hr hr)
 rw[if_neg (by show ¬b=0;omega)]
 exact⟨a2,Int.le_refl _,a3⟩
theorem SOk.tryP(B:Base mem tx g){s:TSeat}(h:SOk mem tx g num s){b:Int}{p:TPromise}(htp:p.Ballot>0->tx p.Value=true)(hc:CanP s.Try b p):SOk mem tx g num {s with Try:=zad s.Try p}:=by
 obtain⟨hv,h1,hb,hpm,hmay⟩:=hc
 have hph:s.Try.Phase≠0:=by omega
 have hk:=zmb (a:=s.Try) (p:=p) ⟨hv,h1,rfl,hpm,hb▸hmay⟩
 obtain⟨e1,e2,e3,e4⟩:=zht s.Try p
 have hp3:(zad s.Try p).Phase<3:=by
  unfold zad zy9
  split
  omega
  split
  show(2:Int)<3;decide
  show s.Try.Phase<3;omega
 exact⟨h.grp,h.nm,h.me,h.log,h.len,h.h0,h.h1,h.wl,h.wt,h.wd,hk,hp3,fun _=>by show R8 (zad s.Try p).Ballot;rw[e1];exact h.tb hph,fun _=>by show ownB (zad s.Try p).Ballot=_;rw[e1];exact h.own hph,fun _=>by show(zad s.Try p).Members=_;rw[e2];exact h.tm hph,fun _=>by show(zad s.Try p).Ballot<=_;rw[e1];exact h.tv hph,fun _=>by show tx (zad s.Try p).Wish=true;rw[e3];exact h.tw hph,fun _ q hq hq0=>by
  rcases zrc q hq with rfl|hq
  exact htp hq0
  exact h.tp hph q hq hq0,h.vs,h.vo⟩
theorem SOk.promisedM(B:Base mem tx g){s:TSeat}(h:SOk mem tx g num s){b:Int}{p:TPromise}(htp:p.Ballot>0->tx p.Value=true):SOk mem tx g num (promisedM s b p).1/\∀x∈(promisedM s b p).2,MW g num x:=by
 unfold Go.Proofs.promisedM
 split
 case isFalse=>exact⟨h,by simp⟩
 rename_i hc
 have hc0:=hc
 obtain⟨hv,h1,hb,hpm,hmay⟩:=hc
 have hph:s.Try.Phase≠0:=by omega
 have K:=hv.kept hph
 have hk:=zmb (a:=s.Try) (p:=p) ⟨hv,h1,rfl,hpm,hb▸hmay⟩
 obtain⟨e1,e2,e3,e4⟩:=zht s.Try p
 have hroom:=h.room hph
 have S1:=SOk.tryP B h htp hc0
 split
 case isFalse=>exact⟨S1,by simp⟩
 rename_i h2
 have hval:=S1.val h2
 obtain⟨k1,k2⟩:=SOk.ownV B S1 (b:=b) (v:=(zad s.Try p).Value) hval hroom (by rw[hb];exact h.tb hph)
 refine⟨k1,fun x hx=>?_⟩
 rcases List.mem_append.1 hx with hx|hx
 refine zlh B h (fun n hn=>?_) ⟨rfl,rfl⟩ (B.tl _ hval) (.inr (.inr (.inl ⟨rfl,⟨by show(1:Int)<=(s.Log.length:Int)+1;omega,by show(s.Log.length:Int)+1<=200;omega⟩,by show BK b;rw[hb];exact h.tk hph,rfl⟩))) hx
 rw[e2,h.tm hph] at hn
 exact(B.mem _ h.log).2 n hn
 exact k2 x hx
theorem zzj{b:Int}{l:List Int}{w:List UInt8}(hb:BOk b)(hl:QOk l)(hw:w.length<=1024):zkw ⟨1,b,l,w,[],[],[]⟩:=by
 show(if(1:Int)=0 then _ else _)
 rw[if_neg (by decide)]
 exact⟨.inl ⟨rfl,rfl,rfl⟩,hb,hl,hw,rfl,rfl,fun p hp=>absurd hp (by simp),ya0c l,ya0c l,.inl rfl⟩
theorem SOk.begun(B:Base mem tx g){s:TSeat}(h:SOk mem tx g num s){b:Int}(hroom:(s.Log.length:Int)+1<=200)(hw0:tx (s.Wishes.headD [])=true)(b1:BK b)(b2:ownB b=s.Me.toNat)(b3:(zan s s.Log.length).Promised<b):
  SOk mem tx g num {Go.Proofs.putV s s.Log.length {zan s s.Log.length with Promised:=b} with Try:=⟨1,b,mem s.Group s.Log,s.Wishes.headD [],[],[],[]⟩}:=by
 have hbp:=b1.pos
 obtain⟨v1,v2,_,v3,v4⟩:=zom h s.Log.length
 obtain⟨r1,r2,r3,r4,r5,r6,r7⟩:=zgo s s.Log.length {zan s s.Log.length with Promised:=b}
 have hv2:VOk {zan s s.Log.length with Promised:=b}:=by
  refine⟨.inr b1.1,?_⟩
  have:=v1.2
  show(if(zan s s.Log.length).Ballot=0 then _ else _)
  split at this
  rename_i e;rw[if_pos e];exact this
  rename_i e;rw[if_neg e];exact⟨this.1,by show(zan s s.Log.length).Ballot<=b;omega,this.2.2⟩
 have P:=h.putV (za4 _) hroom hv2 (by show b≠0;omega) v2 (by show _<=b;omega) b1.2 v4
 refine⟨P.grp,P.nm,P.me,P.log,P.len,P.h0,P.h1,P.wl,P.wt,P.wd,zzj b1.1 (by rw[h.grp];exact(B.mem _ h.log).1) (B.tl _ hw0),by show(1:Int)<3;decide,fun _=>b1.2,fun _=>?_,fun _=>?_,fun _=>?_,fun _=>hw0,fun _ p hp=>absurd hp (by simp),P.vs,P.vo⟩
 show ownB b=(Go.Proofs.putV _ _ _).Me.toNat;rw[r1];exact b2
 show mem s.Group s.Log=mem g (Go.Proofs.putV _ _ _).Log;rw[r4,h.grp]
 show b<=(zan (Go.Proofs.putV _ _ _) (Go.Proofs.putV _ _ _).Log.length).Promised
 rw[r4,ziq,if_pos rfl];exact Int.le_refl _
theorem SOk.tickM(B:Base mem tx g){s:TSeat}(h:SOk mem tx g num s){b:Option Int}(hb:∀c,b=some c->BK c/\ownB c=s.Me.toNat/\(zan s s.Log.length).Promised<c):SOk mem tx g num (tickM mem s b).1/\∀x∈(tickM mem s b).2,MW g num x:=by
 have hl:=h.len
 have m7:∀x∈ze8 s s.Group.Roster (ml 7 s.Log.length 0 0 []),MW g num x:=fun x hx=>
  zlh B h (by rw[h.grp];exact fun n hn=>hn) ⟨rfl,rfl⟩ (Nat.zero_le _) (.inr (.inr (.inr (.inr (.inr (.inr (.inl ⟨rfl,⟨by show(1:Int)<=(s.Log.length:Int)+1;omega,by show(s.Log.length:Int)+1<=201;omega⟩,rfl,rfl,rfl⟩))))))) hx
 have mm:∀n∈mem s.Group s.Log,n∈g.Roster:=by rw[h.grp];exact(B.mem _ h.log).2
 unfold Go.Proofs.tickM
 split
 exact⟨h,m7⟩
 rename_i hw
 have hroom:(s.Log.length:Int)+1<=200:=Int.not_lt.1 fun c=>hw (.inr c)
 have hw0:tx (s.Wishes.headD [])=true:=by
  cases e:s.Wishes with
  |nil=>exact absurd (.inl e) hw
  |cons y r=>exact(h.wt y (by rw[e];simp)).1
 split
 refine⟨h,fun x hx=>?_⟩
 rcases List.mem_append.1 hx with hx|hx
 exact m7 x hx
 exact zlh B h mm ⟨rfl,rfl⟩ (B.tl _ hw0) (.inr (.inr (.inr (.inr (.inr (.inr (.inr ⟨rfl,rfl,rfl,rfl⟩))))))) hx
 cases b with
 |none=>exact⟨h,m7⟩
 |some b=>
  obtain⟨b1,b2,b3⟩:=hb b rfl
  dsimp only
  have S1:=SOk.begun B h hroom hw0 b1 b2 b3
  obtain⟨v1,v2,_,v3,v4⟩:=zom h s.Log.length
  obtain⟨k1,k2⟩:=SOk.promisedM B S1 (b:=b) (p:=⟨s.Me,(zan s s.Log.length).Ballot,(zan s s.Log.length).Value⟩) v2
  refine⟨k1,fun x hx=>?_⟩
  rcases List.mem_append.1 hx with hx|hx
  rcases List.mem_append.1 hx with hx|hx
  exact m7 x hx
  exact zlh B h mm ⟨rfl,rfl⟩ (Nat.zero_le _) (.inl ⟨rfl,⟨by show(1:Int)<=(s.Log.length:Int)+1;omega,by show(s.Log.length:Int)+1<=200;omega⟩,b1,rfl,rfl⟩) hx
  exact k2 x hx
theorem SOk.askedM(B:Base mem tx g){s:TSeat}(h:SOk mem tx g num s){m:TMail}(hf:m.From∈g.Roster)(hs:Sl m)(hb:BK m.Ballot)(hlen:m.Value.length<=1024)(h3:m.Kind=3->tx m.Value=true):SOk mem tx g num (askedM s m).1/\∀x∈(askedM s m).2,MW g num x:=by
 obtain⟨s1,s2⟩:=hs
 have hsn:((zc9 m:Nat):Int)+1=m.Slot:=by unfold zc9;omega
 have one:∀n∈[m.From],n∈g.Roster:=fun n hn=>by rw[List.mem_singleton.1 hn];exact hf
 have hl:=h.len
 have hbp:=hb.pos
 obtain⟨v1,v2,_,v3,v4⟩:=zom h (zc9 m)
 have sl:1<=((zc9 m:Nat):Int)+1/\((zc9 m:Nat):Int)+1<=200:=⟨by omega,by omega⟩
 have refuse:∀t:List UInt8,t.length<=1024->¬zns (zan s (zc9 m)) m.Ballot t->∀x∈ze8 s [m.From] (ml 5 (zc9 m) m.Ballot (zan s (zc9 m)).Promised []),MW g num x:=by
  intro t ht hn x hx
  have hlt:¬(zan s (zc9 m)).Promised<=m.Ballot:=fun c=>hn ⟨v1,hb.1,ht,c⟩
  exact zlh (m:=ml 5 (zc9 m) m.Ballot (zan s (zc9 m)).Promised []) B h one ⟨rfl,rfl⟩ (Nat.zero_le _) (.inr (.inr (.inr (.inr (.inl ⟨rfl,⟨sl.1,sl.2⟩,hb,⟨v1.1.resolve_left (by omega),v3⟩,rfl⟩))))) hx
 unfold Go.Proofs.askedM
 split
 rename_i hlt
 refine⟨h,fun x hx=>?_⟩
 have ht:tx (s.Log.getD (zc9 m) [])=true:=by
  rw[List.getD_eq_getElem?_getD,List.getElem?_eq_getElem hlt]
  exact h.log _ (List.getElem_mem hlt)
 exact zlh (m:=ml 6 (zc9 m) 0 0 (s.Log.getD (zc9 m) [])) B h one ⟨rfl,rfl⟩ (B.tl _ ht) (.inr (.inr (.inr (.inr (.inr (.inl ⟨rfl,⟨sl.1,sl.2⟩,rfl,rfl⟩)))))) hx
 rename_i hlt
 have hle:s.Log.length<=zc9 m:=by omega
 split
 ·rename_i k3
  split
  case isFalse=>rename_i hn;exact⟨h,refuse _ hlen hn⟩
  rename_i ha
  refine⟨h.putV hle (by omega) ⟨.inr hb.1,?_⟩ (by show m.Ballot≠0;omega) (fun _=>h3 k3) ha.2.2.2 hb.2 hb.2,fun x hx=>?_⟩
  rw[if_neg (by show ¬m.Ballot=0;omega)];exact⟨hb.1,Int.le_refl _,hlen⟩
  exact zlh (m:=ml 4 (zc9 m) m.Ballot 0 []) B h one ⟨rfl,rfl⟩ (Nat.zero_le _) (.inr (.inr (.inr (.inl ⟨rfl,⟨sl.1,sl.2⟩,hb,rfl,rfl⟩)))) hx
 ·split
  case isFalse=>rename_i hn;exact⟨h,refuse _ (Nat.zero_le _) hn⟩
  rename_i ha
  have hv:=v1.2
  refine⟨h.putV hle (by omega) ⟨.inr hb.1,?_⟩ (by show m.Ballot≠0;omega) v2 ha.2.2.2 hb.2 v4,fun x hx=>?_⟩
  show(if(zan s (zc9 m)).Ballot=0 then _ else _)
  split at hv
  rename_i e;rw[if_pos e];exact hv
  rename_i e;rw[if_neg e];exact⟨hv.1,Int.le_trans hv.2.1 ha.2.2.2,hv.2.2⟩
  refine zlh (m:=ml 2 (zc9 m) m.Ballot (zan s (zc9 m)).Ballot (zan s (zc9 m)).Value) B h one ⟨rfl,rfl⟩ ?_ (.inr (.inl ⟨rfl,⟨sl.1,sl.2⟩,hb,?_⟩)) hx
  show(zan s (zc9 m)).Value.length<=1024
  split at hv
  rw[hv];exact Nat.zero_le _
  exact hv.2.2
  show((zan s (zc9 m)).Ballot=0/\(zan s (zc9 m)).Value=[])\/BK (zan s (zc9 m)).Ballot
  split at hv
  rename_i e;exact .inl ⟨e,hv⟩
  exact .inr ⟨hv.1,v4⟩
theorem SOk.wantS{s:TSeat}(h:SOk mem tx g num s){v:List UInt8}:SOk mem tx g num (wantS tx s v):=by
 unfold Go.Proofs.wantS
 split
 exact h
 rename_i hc
 have c1:tx v=true:=by cases e:tx v with|true=>rfl|false=>exact absurd (.inl e) hc
 have c2:v∉s.Log:=fun k=>hc (.inr (.inl k))
 have c3:v∉s.Wishes:=fun k=>hc (.inr (.inr (.inl k)))
 have c4:s.Wishes.length≠200:=fun k=>hc (.inr (.inr (.inr k)))
 have:=h.wl
 refine⟨h.grp,h.nm,h.me,h.log,h.len,h.h0,h.h1,by show(s.Wishes++[v]).length<=200;simp;omega,fun u hu=>?_,?_,h.try_,h.ph,h.tb,h.own,h.tm,h.tv,h.tw,h.tp,h.vs,h.vo⟩
 rcases List.mem_append.1 hu with hu|hu
 exact h.wt u hu
 rw[List.mem_singleton.1 hu];exact⟨c1,c2⟩
 show(s.Wishes++[v]).Nodup
 rw[List.nodup_append]
 refine⟨h.wd,by simp,fun a ha b hb=>?_⟩
 rw[List.mem_singleton.1 hb]
 rintro rfl
 exact c3 ha
theorem SOk.haveM(B:Base mem tx g){s:TSeat}(h:SOk mem tx g num s){to:Int}(ht:to∈g.Roster):∀(f k:Nat),∀x∈haveM s to f k,MW g num x
 |0,k,x,hx=>by rw[Go.Proofs.haveM] at hx;cases hx
 |f+1,k,x,hx=>by
  rw[Go.Proofs.haveM] at hx
  split at hx
  rename_i hlt
  have hl:=h.len
  rcases List.mem_append.1 hx with hx|hx
  have htx:tx (s.Log.getD k [])=true:=by
   rw[List.getD_eq_getElem?_getD,List.getElem?_eq_getElem hlt]
   exact h.log _ (List.getElem_mem hlt)
  exact zlh B h (fun n hn=>by rw[List.mem_singleton.1 hn];exact ht) ⟨rfl,rfl⟩ (B.tl _ htx) (.inr (.inr (.inr (.inr (.inr (.inl ⟨rfl,⟨by show(1:Int)<=(k:Int)+1;omega,by show(k:Int)+1<=200;omega⟩,rfl,rfl⟩)))))) hx
  exact SOk.haveM B h ht f (k+1) x hx
  cases hx
theorem SOk.handleM(B:Base mem tx g){s:TSeat}(h:SOk mem tx g num s){m:TMail}(hm:MW g num m):SOk mem tx g num (handleM tx s m).1/\∀x∈(handleM tx s m).2,MW g num x:=by
 have K:=hm.kind
 have same:SOk mem tx g num (s,([]:List TMail)).1/\∀x∈(s,([]:List TMail)).2,MW g num x:=⟨h,fun x hx=>by cases hx⟩
 unfold Go.Proofs.handleM
 split
 ·rename_i hk
  split
  ·rename_i ht
   have:Sl m/\BK m.Ballot:=by
    rcases K with k|k|k|k|k|k|k|k
    exact⟨k.2.1,k.2.2.1⟩
    omega
    exact⟨k.2.1,k.2.2.1⟩
    all_goals omega
   exact SOk.askedM B h hm.frm this.1 this.2 hm.len (fun k3=>ht.resolve_left (by omega))
  exact same
 split
 split
 rename_i hk ht
 exact SOk.promisedM B h (fun hp=>ht.2.resolve_left (by show ¬m.Prior=0;have:m.Prior>0:=hp;omega))
 exact same
 split
 split
 exact SOk.takenM B h
 exact same
 split
 ·rename_i hk
  split
  ·have hp:BK m.Prior:=by
    rcases K with k|k|k|k|k|k|k|k
    all_goals first|omega|exact k.2.2.2.1
   have hpos:=hp.pos
   have hhi:=hp.rng.2
   have:=h.h0;have:=h.h1
   exact⟨⟨h.grp,h.nm,h.me,h.log,h.len,by show 0<=max s.Heard m.Prior;omega,by show max s.Heard m.Prior<=8388613;omega,h.wl,h.wt,h.wd,h.try_,h.ph,h.tb,h.own,h.tm,h.tv,h.tw,h.tp,h.vs,h.vo⟩,fun x hx=>by cases hx⟩
  exact same
 split
 ·rename_i hk
  split
  ·rename_i ht
   have hs:Sl m:=by
    rcases K with k|k|k|k|k|k|k|k
    all_goals first|omega|exact k.2.1
   have:=hs.2
   exact⟨h.learn ht.2 (by omega),fun x hx=>by cases hx⟩
  exact same
 split
 exact⟨h,SOk.haveM B h hm.frm 8 _⟩
 split
 exact⟨h.wantS,fun x hx=>by cases hx⟩
 exact same
theorem SOk.againS{s:TSeat}(h:SOk mem tx g num s):SOk mem tx g num (againS s):=by
 have z:(Go.Proofs.againS s).Try.Phase=0:=rfl
 refine⟨h.grp,h.nm,h.me,h.log,h.len,Int.le_refl _,(by show(0:Int)<=_;decide),Nat.zero_le _,fun u hu=>(by cases hu),List.nodup_nil,?_,(by show(0:Int)<3;decide),fun c=>absurd z c,fun c=>absurd z c,fun c=>absurd z c,fun c=>absurd z c,fun c=>absurd z c,fun c=>absurd z c,h.vs,h.vo⟩
 show(if _ then _ else _)
 rw[if_pos z];rfl
end Go.Proofs
namespace Go.Proofs
set_option linter.unusedSimpArgs false
set_option linter.unusedVariables false
open Classical
variable {mem : TGroup -> List (List UInt8) -> List Int} {tx : List UInt8 -> Bool} {g : TGroup} {num : Int} {W : List UInt8 -> Prop} {S : List TSeat} {M : List TMail}
structure TownOk (mem:TGroup->List (List UInt8)->List Int) (tx:List UInt8->Bool) (g:TGroup) (num:Int) (W:List UInt8->Prop) (S:List TSeat) (M:List TMail):Prop where
 lives:zp3 mem g W S M
 ok:∀s∈S,SOk mem tx g num s
 mw:∀m∈M,MW g num m
theorem ya09{i:Nat}{s':TSeat}(h:∀s∈S,SOk mem tx g num s)(h':SOk mem tx g num s'):∀s∈S.set i s',SOk mem tx g num s:=by
 intro s hs
 rcases zvy hs with rfl|⟨j,hj,_,rfl⟩
 exact h'
 exact h _ (List.getElem_mem hj)
theorem TownOk.less(h:TownOk mem tx g num W S M){M':List TMail}(hM:∀m∈M',m∈M):TownOk mem tx g num W S M':=by
 obtain⟨X,ms,k⟩:=h.lives
 exact⟨⟨X,ms,k.mails fun m hm=>.inl (hM m hm)⟩,h.ok,fun m hm=>h.mw m (hM m hm)⟩
theorem TownOk.more(h:TownOk mem tx g num W S M){W':List UInt8->Prop}(hw:∀v,W v->W' v):TownOk mem tx g num W' S M:=by
 obtain⟨X,ms,k⟩:=h.lives
 exact⟨⟨X,ms,k.more hw⟩,h.ok,h.mw⟩
theorem TownOk.tick(B:Base mem tx g)(h:TownOk mem tx g num W S M){i:Nat}(hi:i<S.length){b:Option Int}(hb:∀c,b=some c->BK c/\ownB c=S[i].Me.toNat/\(zan S[i] S[i].Log.length).Promised<c):
  TownOk mem tx g num W (S.set i (tickM mem S[i] b).1) (M++(tickM mem S[i] b).2):=by
 obtain⟨X,ms,k⟩:=h.lives
 obtain⟨k1,k2⟩:=(h.ok _ (List.getElem_mem hi)).tickM B hb
 refine⟨k.tickM hi fun c e=>⟨(hb c e).1.pos,(hb c e).2⟩,ya09 h.ok k1,fun m hm=>?_⟩
 rcases List.mem_append.1 hm with hm|hm
 exact h.mw m hm
 exact k2 m hm
theorem TownOk.come(B:Base mem tx g)(h:TownOk mem tx g num W S M){i:Nat}(hi:i<S.length){m:TMail}(hm:m∈M){M':List TMail}(hM:∀m∈M',m∈M):
  TownOk mem tx g num W (S.set i (handleM tx S[i] m).1) (M'++(handleM tx S[i] m).2):=by
 obtain⟨X,ms,k⟩:=h.lives
 obtain⟨k1,k2⟩:=(h.ok _ (List.getElem_mem hi)).handleM B (h.mw m hm)
 refine⟨(k.mails (M':=M') fun m hm=>.inl (hM m hm)).handleM hi (k.mail m hm),ya09 h.ok k1,fun x hx=>?_⟩
 rcases List.mem_append.1 hx with hx|hx
 exact h.mw x (hM x hx)
 exact k2 x hx
theorem TownOk.again(h:TownOk mem tx g num W S M){i:Nat}(hi:i<S.length):TownOk mem tx g num W (S.set i (againS S[i])) M:=by
 obtain⟨X,ms,k⟩:=h.lives
 exact⟨k.againS hi,ya09 h.ok (h.ok _ (List.getElem_mem hi)).againS,h.mw⟩
theorem TownOk.want(h:TownOk mem tx g num W S M){i:Nat}(hi:i<S.length){v:List UInt8}(hv:W v):TownOk mem tx g num W (S.set i (wantS tx S[i] v)) M:=by
 obtain⟨X,ms,k⟩:=h.lives
 exact⟨⟨X,ms,k.wantS hi hv⟩,ya09 h.ok (h.ok _ (List.getElem_mem hi)).wantS,h.mw⟩
def newS(me num:Int)(g:TGroup):TSeat:=⟨me,num,g,[],[],⟨0,0,[],[],[],[],[]⟩,[],0⟩
theorem ya3m(hme:∀n∈g.Roster,0<=n/\n<6){me:Int}(h:me∈g.Roster):SOk mem tx g num (newS me num g):=by
 have z:(newS me num g).Try.Phase=0:=rfl
 refine⟨rfl,rfl,h,fun v hv=>(by cases hv),Nat.zero_le _,Int.le_refl _,(by show(0:Int)<=_;decide),Nat.zero_le _,fun v hv=>(by cases hv),List.nodup_nil,?_,(by show(0:Int)<3;decide),fun c=>absurd z c,fun c=>absurd z c,fun c=>absurd z c,fun c=>absurd z c,fun c=>absurd z c,fun c=>absurd z c,fun v hv=>(by cases hv),List.Pairwise.nil⟩
 show(if _ then _ else _)
 rw[if_pos z];rfl
theorem yaak(B:Base mem tx g)(hr:g.Roster.Pairwise fun a b=>a<b):TownOk mem tx g num W (g.Roster.map fun n=>newS n num g) []:=by
 refine⟨yaa1 (fun s hs=>?_) (fun s hs=>?_) ?_,fun s hs=>?_,fun m hm=>(by cases hm)⟩
 obtain⟨n,hn,rfl⟩:=List.mem_map.1 hs;exact⟨rfl,rfl,rfl,rfl,rfl⟩
 obtain⟨n,hn,rfl⟩:=List.mem_map.1 hs;exact B.ros n hn
 rw[List.pairwise_map];exact hr.imp fun h=>Int.ne_of_lt h
 obtain⟨n,hn,rfl⟩:=List.mem_map.1 hs;exact ya3m B.ros hn
end Go.Proofs
