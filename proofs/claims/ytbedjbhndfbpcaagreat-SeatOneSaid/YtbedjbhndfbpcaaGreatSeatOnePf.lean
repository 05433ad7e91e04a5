/- Texts of the proof. -/
import Derived.DeepKeys
import Derived.DeepKeys3
import Derived.Laws.StructEq
import Derived.Test.YtbedjbhndfbpcaaGreatSeatOnePc
import Derived.Test.YtbedjbhndfbpcaaGreatSeatOnePe
set_option linter.unusedVariables false
set_option linter.unusedSimpArgs false
namespace Go.Tm
open Go.RowKit Go.WideShapes
def zmh:D->Lit
 |.int k n=>.int k n
 |.str s=>.string s
 |.bool b=>.bool b
 | _=>.bool false
def zgy:List D->List D->Bool
 |[],[]=>true
 |.int k _::z,.int k1 _::l=>decide (k1=k)&&zgy z l
 |.str _::z,.str _::l=>zgy z l
 |.bool _::z,.bool _::l=>zgy z l
 | _,_=>false
theorem zv5:∀(z l l':List D) (r:Bool),zgc z l l'=some r->zgy z l=true/\zgy z l'=true/\(r=true↔l.map zmh=l'.map zmh):=by
 intro z
 induction z with
 |nil=>
  intro l l' r h
  cases l with
  |nil=>
   cases l' with
   |nil=>simp[zgc] at h;subst h;simp[zgy]
   |cons _ _=>simp[zgc] at h
  |cons _ _=>simp[zgc] at h
 |cons z0 z ih=>
  intro l l' r h
  unfold zgc at h
  split at h
  rename_i e;cases e
  rename_i k n z' k1 a l k2 b l' e
  cases e
  cases hk:decide (k1=k)&&decide (k2=k)
  rw[hk] at h;cases h
  rw[hk] at h
  simp only[cond_true] at h
  simp only[za0,decide_eq_true_eq] at hk
  obtain⟨rfl,rfl⟩:=hk
  split at h
  rename_i r' hr
  cases h
  obtain⟨h1,h2,h3⟩:=ih _ _ _ hr
  simp[zgy,h1,h2,zmh,h3]
  cases h
  rename_i z' a l b l' e
  cases e
  split at h
  rename_i r' hr
  cases h
  obtain⟨h1,h2,h3⟩:=ih _ _ _ hr
  simp[zgy,h1,h2,zmh,h3]
  cases h
  rename_i z' a l b l' e
  cases e
  split at h
  rename_i r' hr
  cases h
  obtain⟨h1,h2,h3⟩:=ih _ _ _ hr
  simp[zgy,h1,h2,zmh,h3]
  cases h
  cases h
theorem zni{P:Program}{C:Cx}:∀(fs:List Field) (j:Nat) (z l:List D) (pre cs:List Value),pre.length=j->zlv P j fs z=true->zgy z l=true->reps C l cs->
  (fs.mapM fun f=>P.keyLits 1 f.type (((pre++cs).drop f.offset).take (P.cellsOf f.type)))=some (l.map fun d=>[zmh d])/\fs.all (·.name != "_")=true/\cs.length=fs.length
 |[],j,z,l,pre,cs,hp,hf,hl,hr=>by
  cases z with
  |nil=>
   cases l with
   |nil=>simp only[reps] at hr;subst hr;simp
   |cons d l=>simp[zgy] at hl
  |cons _ _=>simp[zlv] at hf
 |f::fs,j,z,l,pre,cs,hp,hf,hl,hr=>by
  cases z with
  |nil=>simp[zlv] at hf
  |cons z0 z=>
   simp only[zlv,za0] at hf
   obtain⟨⟨⟨⟨h1,h2⟩,h3⟩,h4⟩,h5⟩:=hf
   have h1:=nb h1
   have h2:=nb h2
   cases l with
   |nil=>cases z0<;>simp[zgy] at hl
   |cons d l=>
    simp only[reps] at hr
    obtain⟨v,vs,rfl,hd,hr⟩:=hr
    have hrest:zgy z l=true/\P.keyLits 1 f.type [v]=some [zmh d]:=by
     unfold zgy at hl
     split at hl
     rename_i e _;cases e
     rename_i k n z' k1 m l' e e'
     cases e;cases e'
     simp only[za0,decide_eq_true_eq] at hl
     obtain⟨rfl,hl⟩:=hl
     simp only[rep] at hd
     obtain⟨rfl,hd⟩:=hd
     refine⟨hl,?_⟩
     split at h4
     rename_i k k' n' hu hz
     cases hz
     simp only[decide_eq_true_eq] at h4
     subst h4
     simp[Program.keyLits,hu,Lit.wf,hd,zmh]
     rename_i hz;cases hz
     rename_i hz;cases hz
     cases h4
     rename_i s z' t l' e e'
     cases e;cases e'
     simp only[rep] at hd
     obtain⟨rfl,hd⟩:=hd
     refine⟨hl,?_⟩
     split at h4
     rename_i hz;cases hz
     rename_i hu hz
     have:(ByteArray.mk t.toArray).size<=maxLen:=by
      have e:(ByteArray.mk t.toArray).size=t.length:=by simp[ByteArray.size]
      rw[e];show t.length<=9223372036854775807;omega
     simp[Program.keyLits,hu,zmh,this]
     rename_i hz;cases hz
     cases h4
     rename_i b z' b' l' e e'
     cases e;cases e'
     simp only[rep] at hd
     subst hd
     refine⟨hl,?_⟩
     split at h4
     rename_i hz;cases hz
     rename_i hz;cases hz
     rename_i hu hz
     simp[Program.keyLits,hu,zmh]
     cases h4
     cases hl
    obtain⟨g1,g2,g3⟩:=zni fs (j+1) z l (pre++[v]) vs (by simp[hp]) h5 hrest.1 hr
    have hd1:((pre++v::vs).drop f.offset).take (P.cellsOf f.type)=[v]:=by
     rw[h1,h2,<-hp,List.drop_left];rfl
    rw[List.append_assoc,List.singleton_append] at g1
    refine⟨?_,by simp[g2,h3],by simp[g3]⟩
    rw[List.mapM_cons,hd1,hrest.2,g1]
    rfl
theorem ya0p:∀l:List D,(l.map fun d=>[zmh d]).flatten=l.map zmh
 |[]=>rfl
 |d::l=>by simp[ya0p l]
theorem znv:∀(n:Nat) (z l:List D),zgy z l=true->zgy (z.take n) (l.take n)=true/\zgy (z.drop n) (l.drop n)=true
 |0,z,l,h=>by simp[zgy,h]
 |n+1,[],l,h=>by cases l<;>simp[zgy] at h ⊢
 |n+1,d::z,[],h=>by cases d<;>simp[zgy] at h
 |n+1,d::z,e::l,h=>by
  unfold zgy at h
  split at h
  rename_i e1 _;cases e1
  rename_i e1 e2;cases e1;cases e2
  simp only[za0] at h
  obtain⟨h1,h2⟩:=znv n _ _ h.2
  exact⟨by simp only[List.take_succ_cons,zgy,h.1,h1,Bool.and_self],by simpa using h2⟩
  rename_i e1 e2;cases e1;cases e2
  obtain⟨h1,h2⟩:=znv n _ _ h
  exact⟨by simp only[List.take_succ_cons,zgy,h1],by simpa using h2⟩
  rename_i e1 e2;cases e1;cases e2
  obtain⟨h1,h2⟩:=znv n _ _ h
  exact⟨by simp only[List.take_succ_cons,zgy,h1],by simpa using h2⟩
  cases h
theorem zix:∀(z l:List D),zgy z l=true->l.length=z.length
 |[],[],_=>rfl
 |[],_::_,h=>by simp[zgy] at h
 |d::z,[],h=>by cases d<;>simp[zgy] at h
 |d::z,e::l,h=>by
  unfold zgy at h
  split at h
  rename_i e1 _;cases e1
  rename_i e1 e2;cases e1;cases e2
  simp only[za0] at h
  simp[zix _ _ h.2]
  rename_i e1 e2;cases e1;cases e2;simp[zix _ _ h]
  rename_i e1 e2;cases e1;cases e2;simp[zix _ _ h]
  cases h
theorem zqb{C:Cx}:∀(n:Nat) (l:List D) (cs:List Value),reps C l cs->reps C (l.take n) (cs.take n)/\reps C (l.drop n) (cs.drop n)/\cs.length=l.length
 |0,l,cs,h=>by
  refine⟨by simp[reps],by simpa using h,?_⟩
  induction l generalizing cs with
  |nil=>simp only[reps] at h;subst h;rfl
  |cons d l ih=>simp only[reps] at h;obtain⟨v,vs,rfl,_,h2⟩:=h;simp[ih vs h2]
 |n+1,[],cs,h=>by simp only[reps] at h;subst h;simp[reps]
 |n+1,d::l,cs,h=>by
  simp only[reps] at h
  obtain⟨v,vs,rfl,h1,h2⟩:=h
  obtain⟨g1,g2,g3⟩:=zqb n l vs h2
  refine⟨?_,by simpa using g2,by simp[g3]⟩
  simp only[List.take_succ_cons,reps]
  exact⟨v,_,rfl,h1,g1⟩
theorem ya5z{P:Program}{C:Cx}{t:TypeId}{z l:List D}{cs:List Value}(h4:ya7r P t z=true)(hl:zgy z l=true)(hr:reps C l cs)(hz:P.cellsOf t=z.length):P.keyLits 2 t cs=some (l.map zmh):=by
 unfold ya7r at h4
 split at h4
 rename_i k k' n hu
 cases l with
 |nil=>simp[zgy] at hl
 |cons d l=>
  unfold zgy at hl
  split at hl<;>(rename_i e1 e2;first|cases e1|skip)<;>(first|cases e2|cases hl)
  rename_i l' k1 m
  simp only[za0,decide_eq_true_eq] at hl h4
  obtain⟨rfl,hl⟩:=hl
  subst h4
  have:=zix _ _ hl
  obtain rfl:l=[]:=zah this
  simp only[reps] at hr
  obtain⟨v,vs,rfl,hd,rfl⟩:=hr
  simp only[rep] at hd
  obtain⟨rfl,hd⟩:=hd
  simp[Program.keyLits,hu,Lit.wf,hd,zmh]
 rename_i s hu
 cases l with
 |nil=>simp[zgy] at hl
 |cons d l=>
  unfold zgy at hl
  split at hl<;>(rename_i e1 e2;first|cases e1|skip)<;>(first|cases e2|cases hl)
  have:=zix _ _ hl
  obtain rfl:l=[]:=zah this
  simp only[reps] at hr
  obtain⟨v,vs,rfl,hd,rfl⟩:=hr
  simp only[rep] at hd
  obtain⟨rfl,hd⟩:=hd
  rename_i w
  have:(ByteArray.mk w.toArray).size<=maxLen:=by
   have e:(ByteArray.mk w.toArray).size=w.length:=by simp[ByteArray.size]
   rw[e];show w.length<=9223372036854775807;omega
  simp[Program.keyLits,hu,zmh,this]
 rename_i b hu
 cases l with
 |nil=>simp[zgy] at hl
 |cons d l=>
  unfold zgy at hl
  split at hl<;>(rename_i e1 e2;first|cases e1|skip)<;>(first|cases e2|cases hl)
  have:=zix _ _ hl
  obtain rfl:l=[]:=zah this
  simp only[reps] at hr
  obtain⟨v,vs,rfl,hd,rfl⟩:=hr
  simp only[rep] at hd
  subst hd
  simp[Program.keyLits,hu,zmh]
 rename_i fs hu
 simp only[za0,beq_iff_eq] at h4
 obtain⟨g1,g2,g3⟩:=zni fs.toList 0 _ l [] cs rfl h4.1 hl hr
 rw[zas] at g1
 unfold Program.keyLits
 simp only[hu]
 rw[if_pos ⟨by rw[h4.2];simpa using g3,by rw[<-Array.all_toList];exact g2⟩,g1]
 simp[ya0p]
 cases h4
theorem zof{P:Program}{C:Cx}:∀(fs:List Field) (j:Nat) (z l:List D) (pre cs:List Value),pre.length=j->zk3 P j fs z=true->zgy z l=true->reps C l cs->
  ∃L:List (List Lit),(fs.mapM fun f=>P.keyLits 2 f.type (((pre++cs).drop f.offset).take (P.cellsOf f.type)))=some L/\L.flatten=l.map zmh/\fs.all (·.name != "_")=true
 |[],j,z,l,pre,cs,hp,hf,hl,hr=>by
  simp only[zk3,List.isEmpty_iff] at hf
  subst hf
  have:=zix _ _ hl
  obtain rfl:l=[]:=zah this
  exact⟨[],rfl,rfl,rfl⟩
 |f::fs,j,z,l,pre,cs,hp,hf,hl,hr=>by
  simp only[zk3,za0] at hf
  obtain⟨⟨⟨⟨h1,h2⟩,h3⟩,h4⟩,h5⟩:=hf
  have h1:=nb h1
  have h3:=lb h3
  obtain⟨a1,a2⟩:=znv (P.cellsOf f.type) z l hl
  obtain⟨b1,b2,b3⟩:=zqb (P.cellsOf f.type) l cs hr
  have hlen:=zix _ _ hl
  have ht:(cs.take (P.cellsOf f.type)).length=P.cellsOf f.type:=by rw[List.length_take];omega
  have g0:=ya5z h4 a1 b1 (by rw[List.length_take];omega)
  obtain⟨L,g1,g2,g3⟩:=zof fs (j+P.cellsOf f.type) (z.drop (P.cellsOf f.type)) (l.drop (P.cellsOf f.type)) (pre++cs.take (P.cellsOf f.type)) (cs.drop (P.cellsOf f.type)) (by rw[zaq,hp,ht]) h5 a2 b2
  have hd1:((pre++cs).drop f.offset).take (P.cellsOf f.type)=cs.take (P.cellsOf f.type):=by rw[h1,<-hp,List.drop_left]
  rw[List.append_assoc,List.take_append_drop] at g1
  refine⟨((l.take (P.cellsOf f.type)).map zmh)::L,?_,?_,by simp[g3,h2]⟩
  rw[List.mapM_cons,hd1,g0,g1];rfl
  rw[List.flatten_cons,g2,<-List.map_append,List.take_append_drop]
theorem zwj{P:Program}{C:Cx}{t:TypeId}{z:List D}{fs:Array Field}(hfs:P.underlying t=some (.struct fs))(hfe:zk3 P 0 fs.toList z=true)(hsz:P.cellsOf t=z.length)(l:List D)(cs:List Value)(hl:zgy z l=true)(hr:reps C l cs):
  P.keyLits 3 t cs=some (l.map zmh)/\cs.length=z.length:=by
 obtain⟨L,g1,g2,g3⟩:=zof fs.toList 0 z l [] cs rfl hfe hl hr
 have hlen:cs.length=z.length:=by rw[(zqb 0 l cs hr).2.2,zix _ _ hl]
 refine⟨?_,hlen⟩
 rw[zas] at g1
 unfold Program.keyLits
 simp only[hfs]
 rw[if_pos ⟨by rw[hsz];exact hlen,by rw[<-Array.all_toList];exact g3⟩,g1]
 simp[g2]
theorem zww{P:Program}{C:Cx}{t:TypeId}{l l' z:List D}{r:Bool}{fs:Array Field}{cs cs':List Value}
  (hk:P.keyTypeAt 3 t=true) (hfs:P.underlying t=some (.struct fs)) (hfe:zk3 P 0 fs.toList z=true) (hsz:P.cellsOf t=z.length)
  (h:zgc z l l'=some r) (hr:reps C l cs) (hr':reps C l' cs') (w:World):(Op.equal t (.agg cs.toArray) (.agg cs'.toArray)).run P w=.ok r w:=by
 obtain⟨h1,h2,h3⟩:=zv5 z l l' r h
 obtain⟨k1,n1⟩:=zwj hfs hfe hsz l cs h1 hr
 obtain⟨k2,n2⟩:=zwj hfs hfe hsz l' cs' h2 hr'
 obtain⟨r',e1,e2⟩:=run_equalIn_deep (P:=P) 9997 3 t hk w 3 3 (.agg cs.toArray) (.agg cs'.toArray) _ _ (by simp[Value.formed,hfs,n1,hsz]) (by simp[Value.formed,hfs,n2,hsz]) k1 k2
 have hrr:r'=r:=by
  rw[Bool.eq_iff_iff];exact e2.trans h3.symm
 subst hrr
 exact e1
theorem ya71{P:Program}{C:Cx}{w:World}{o:Oper}{a:Act}{op:BinOp}{t ty:TypeId}{x y:Operand}{l l' z:List D}{r:Bool}{d:D}{fs:Array Field}(ho:o.op=.binOp op t x y ty)
  (hk:P.keyTypeAt 3 t=true) (hg:P.eqGuardType P.depth t=false) (hfs:P.underlying t=some (.struct fs)) (hfe:zk3 P 0 fs.toList z=true) (hsz:P.cellsOf t=z.length)
  (h:zgc z l l'=some r) (hu:rep C (.agg l) (a.eval x)) (hv:rep C (.agg l') (a.eval y)) (hop:op=.eql/\d=.bool r\/op=.neq/\d=.bool (!r)):zg2 P C a o d w:=by
 simp only[rep] at hu hv
 obtain⟨cs,hu,hr⟩:=hu
 obtain⟨cs',hv,hr'⟩:=hv
 have e1:=zww hk hfs hfe hsz h hr hr' w
 unfold zg2 execOp
 simp only[ho,hu,hv]
 rcases hop with⟨rfl,rfl⟩|⟨rfl,rfl⟩
 refine⟨.bool r,?_,by simp only[rep]⟩
 simp only[Sem.run_bind,run_eqGuard_agg _ _ _ _ _ _ _ hg,Result.andThen_ok,binOp,e1,Sem.run_pure]
 refine⟨.bool (!r),?_,by simp only[rep]⟩
 simp only[Sem.run_bind,run_eqGuard_agg _ _ _ _ _ _ _ hg,Result.andThen_ok,binOp,e1,Sem.run_pure]
theorem zo3:∀(z l l':List D) (r0 r:Bool),zgc z l l=some r0->zgc l l l'=some r->zgc z l l'=some r
 |[],l,l',r0,r,h,h'=>by
  cases l with
  |nil=>exact h'
  |cons d l=>simp[zgc] at h
 |z0::z,l,l',r0,r,h,h'=>by
  cases l with
  |nil=>unfold zgc at h;split at h<;>simp_all
  |cons d l=>
   unfold zgc at h
   split at h
   rename_i e _;cases e
   rename_i k n z' k1 a l1 k2 b l2 e1 e2 e3
   cases e1;cases e2;cases e3
   cases l' with
   |nil=>cases h'
   |cons d' l'=>
    cases d' with
    |int k' b'=>
     simp only[zgc,decide_true,Bool.true_and] at h'
     cases hb:decide (k'=k1)
     rw[hb] at h';cases h'
     rw[hb] at h'
     simp only[cond_true] at h'
     cases hd:decide (k1=k)&&decide (k1=k)
     rw[hd] at h;cases h
     rw[hd] at h
     simp only[cond_true] at h
     simp only[Bool.and_self,decide_eq_true_eq] at hd
     simp only[decide_eq_true_eq] at hb
     subst hd hb
     split at h
     rename_i r1 hr1
     split at h'
     rename_i r2 hr2
     cases h'
     simp only[zgc,decide_true,Bool.and_true,cond_true,zo3 z l l' r1 r2 hr1 hr2]
     cases h'
     cases h
    | _=>simp[zgc] at h'
   rename_i z' a l1 b l2 e1 e2 e3
   cases e1;cases e2;cases e3
   cases l' with
   |nil=>cases h'
   |cons d' l'=>
    cases d' with
    |str b'=>
     simp only[zgc] at h'
     split at h
     rename_i r1 hr1
     split at h'
     rename_i r2 hr2
     cases h'
     simp only[zgc,zo3 z l l' r1 r2 hr1 hr2]
     cases h'
     cases h
    | _=>simp[zgc] at h'
   rename_i z' a l1 b l2 e1 e2 e3
   cases e1;cases e2;cases e3
   cases l' with
   |nil=>cases h'
   |cons d' l'=>
    cases d' with
    |bool b'=>
     simp only[zgc] at h'
     split at h
     rename_i r1 hr1
     split at h'
     rename_i r2 hr2
     cases h'
     simp only[zgc,zo3 z l l' r1 r2 hr1 hr2]
     cases h'
     cases h
    | _=>simp[zgc] at h'
   cases h
theorem ya68{C:Cx}(n:Nat):∀(z l l':List D) (cs cs':List Value),zgc z l l'=some true->reps C l cs->reps C l' cs'->cs'.length=cs.length/\(cs'.zip cs).all (fun(x,y)=>Instr.sameBits n x y)=true:=by
 intro z
 induction z with
 |nil=>
  intro l l' cs cs' h hr hr'
  cases l with
  |nil=>
   cases l' with
   |nil=>
    simp only[reps] at hr hr'
    subst hr hr'
    exact⟨rfl,rfl⟩
   |cons _ _=>simp[zgc] at h
  |cons _ _=>simp[zgc] at h
 |cons z0 z ih=>
  intro l l' cs cs' h hr hr'
  unfold zgc at h
  split at h
  rename_i e;cases e
  rename_i k n' z' k1 a l1 k2 b l2 e
  cases e
  cases hk:decide (k1=k)&&decide (k2=k)
  rw[hk] at h;cases h
  rw[hk] at h
  simp only[cond_true] at h
  simp only[za0,decide_eq_true_eq] at hk
  obtain⟨rfl,rfl⟩:=hk
  split at h
  rename_i r' hr1
  simp only[za5,za0,beq_iff_eq] at h
  obtain⟨rfl,rfl⟩:=h
  simp only[reps] at hr hr'
  obtain⟨v,vs,rfl,h1,h2⟩:=hr
  obtain⟨v',vs',rfl,h1',h2'⟩:=hr'
  simp only[rep] at h1 h1'
  obtain⟨g1,g2⟩:=ih _ _ _ _ hr1 h2 h2'
  refine⟨by simp[g1],?_⟩
  rw[h1.1,h1'.1]
  simp only[List.zip_cons_cons,List.all_cons,za0]
  exact⟨by simp[Instr.sameBits],g2⟩
  cases h
  rename_i z' a l1 b l2 e
  cases e
  split at h
  rename_i r' hr1
  simp only[za5,za0,beq_iff_eq] at h
  obtain⟨rfl,rfl⟩:=h
  simp only[reps] at hr hr'
  obtain⟨v,vs,rfl,h1,h2⟩:=hr
  obtain⟨v',vs',rfl,h1',h2'⟩:=hr'
  simp only[rep] at h1 h1'
  obtain⟨g1,g2⟩:=ih _ _ _ _ hr1 h2 h2'
  refine⟨by simp[g1],?_⟩
  rw[h1.1,h1'.1]
  simp only[List.zip_cons_cons,List.all_cons,za0]
  have hb:∀s:ByteArray,(s==s)=true:=fun s=>by
   show(s.data==s.data)=true
   simp
  exact⟨by simp[Instr.sameBits,hb],g2⟩
  cases h
  rename_i z' a l1 b l2 e
  cases e
  split at h
  rename_i r' hr1
  simp only[za5,za0,beq_iff_eq] at h
  obtain⟨rfl,rfl⟩:=h
  simp only[reps] at hr hr'
  obtain⟨v,vs,rfl,h1,h2⟩:=hr
  obtain⟨v',vs',rfl,h1',h2'⟩:=hr'
  simp only[rep] at h1 h1'
  obtain⟨g1,g2⟩:=ih _ _ _ _ hr1 h2 h2'
  refine⟨by simp[g1],?_⟩
  rw[h1,h1']
  simp only[List.zip_cons_cons,List.all_cons,za0]
  exact⟨by simp[Instr.sameBits],g2⟩
  cases h
  cases h
def ya54(P:Program)(kt:TypeId)(k:D):Prop:=
 (∃i n j,k=.int i n/\P.underlying kt=some (.int j))\/(∃l,k=.str l/\P.underlying kt=some .string)\/
 ∃l z fs,k=.agg l/\P.keyTypeAt 3 kt=true/\P.underlying kt=some (.struct fs)/\zk3 P 0 fs.toList z=true/\P.cellsOf kt=z.length/\∃r,zgc z l l=some r
structure Finder (C:Cx) (k:D) (kv:Value) (Find:List MapEntry->Nat->Option (Nat×Value)->Prop):Prop where
 nil:∀i,Find [] i none
 hit:∀x e ens i,zos k x=some true->rep C x e.key->Find (e::ens) i (some (i,e.val))
 miss:∀x e ens i q,zos k x=some false->rep C x e.key->Find ens (i+1) q->Find (e::ens) i q
 bits:∀x (e:MapEntry),zos k x=some true->rep C x e.key->Instr.sameBits 10000 e.key kv=true
theorem zp8{P:Program}{w:World}{empty:Bool}{kt:TypeId}{td:TypeDesc}{v:Value}(hu:P.underlying kt=some td)(htd:(∃i,td=.int i)\/td=.string)(m:Nat):(Instr.checkKey empty (m+1) kt v).run P w=.ok () w:=by
 rcases htd with⟨i,rfl⟩|rfl<;>simp[Instr.checkKey,run_underlying hu]
theorem ya4a{P:Program}{C:Cx}{kt:TypeId}{k:D}{kv:Value}(hko:ya54 P kt k)(hk:rep C k kv):
  ∃Find:List MapEntry->Nat->Option (Nat×Value)->Prop,Finder C k kv Find/\(∀ens q,Find ens 0 q->∀w,(Instr.findKey kt kv ens).run P w=.ok q w)/\∀empty w,(Instr.checkKey empty 10000 kt kv).run P w=.ok () w:=by
 rcases hko with⟨i,n,j,rfl,hu⟩|⟨l,rfl,hu⟩|⟨l,z,fs,rfl,hkt,hfs,hfe,hsz,r0,hr0⟩
 simp only[rep] at hk
 obtain⟨rfl,_⟩:=hk
 have same:∀x e r,zos (.int i n) x=some r->rep C x e->Instr.sameNow (.int j) (.int i n) e=some r/\(r=true->Instr.sameBits 10000 e (.int i n)=true):=by
  intro x e r h hx
  cases x<;>simp only[zos,reduceCtorEq] at h
  rename_i i' b
  simp only[rep] at hx
  obtain⟨rfl,_⟩:=hx
  cases hd:decide (i=i')
  rw[hd] at h;cases h
  rw[hd] at h
  simp only[decide_eq_true_eq] at hd
  subst hd
  simp only[cond_true,za5] at h
  refine⟨by simp[Instr.sameNow,h],fun hr=>?_⟩
  rw[hr] at h
  simp only[beq_iff_eq] at h
  simp[Instr.sameBits,h]
 refine⟨fun ens i' q=>Instr.findNow (.int j) (.int i n) ens i'=some q,⟨fun _=>rfl,fun x e ens i' h hx=>?_,fun x e ens i' q h hx hq=>?_,fun x e h hx=>(same x e.key _ h hx).2 rfl⟩,fun ens q hq w=>?_,fun em w=>?_⟩
 simp only[Instr.findNow,(same x e.key _ h hx).1]
 simp only[Instr.findNow,(same x e.key _ h hx).1];exact hq
 simp[Instr.findKey,run_underlying hu,hq]
 exact zp8 hu (.inl ⟨j,rfl⟩) 9999
 simp only[rep] at hk
 obtain⟨rfl,_⟩:=hk
 have same:∀x e r,zos (.str l) x=some r->rep C x e->Instr.sameNow .string (.string ⟨l.toArray⟩) e=some r/\(r=true->Instr.sameBits 10000 e (.string ⟨l.toArray⟩)=true):=by
  intro x e r h hx
  cases x<;>simp only[zos,reduceCtorEq] at h
  rename_i l'
  simp only[rep] at hx
  obtain⟨rfl,_⟩:=hx
  cases h
  have hh:((ByteArray.mk l.toArray)==(ByteArray.mk l'.toArray))=(l==l'):=by
   show(l.toArray==l'.toArray)=(l==l');simp
  refine⟨by simp only[Instr.sameNow,hh],fun hr=>?_⟩
  simp only[beq_iff_eq] at hr
  rw[hr]
  simp only[Instr.sameBits]
  show(l'.toArray==l'.toArray)=true
  simp
 refine⟨fun ens i' q=>Instr.findNow .string (.string ⟨l.toArray⟩) ens i'=some q,⟨fun _=>rfl,fun x e ens i' h hx=>?_,fun x e ens i' q h hx hq=>?_,fun x e h hx=>(same x e.key _ h hx).2 rfl⟩,fun ens q hq w=>?_,fun em w=>?_⟩
 simp only[Instr.findNow,(same x e.key _ h hx).1]
 simp only[Instr.findNow,(same x e.key _ h hx).1];exact hq
 simp[Instr.findKey,run_underlying hu,hq]
 exact zp8 hu (.inr rfl) 9999
 simp only[rep] at hk
 obtain⟨cs,rfl,hr⟩:=hk
 have like:=(zv5 z l l r0 hr0).1
 obtain⟨k1,n1⟩:=zwj hfs hfe hsz l cs like hr
 have same:∀x e r,zos (.agg l) x=some r->rep C x e->(∀w,(Op.equal kt (.agg cs.toArray) e).run P w=.ok r w)/\(r=true->Instr.sameBits 10000 e (.agg cs.toArray)=true):=by
  intro x e r h hx
  cases x<;>simp only[zos,reduceCtorEq] at h
  rename_i l'
  simp only[rep] at hx
  obtain⟨cs',rfl,hr'⟩:=hx
  have hz:=zo3 z l l' r0 r hr0 h
  refine⟨fun w=>zww hkt hfs hfe hsz hz hr hr' w,fun hrr=>?_⟩
  subst hrr
  obtain⟨g1,g2⟩:=ya68 9999 z l l' cs cs' hz hr hr'
  simp only[Instr.sameBits,za0,beq_iff_eq]
  exact⟨by simpa using g1,g2⟩
 refine⟨fun ens i' q=>∀w,(Instr.findAsking kt (.agg cs.toArray) ens i').run P w=.ok q w,⟨fun _ w=>by simp[Instr.findAsking],fun x e ens i' h hx w=>?_,fun x e ens i' q h hx hq w=>?_,fun x e h hx=>(same x e.key _ h hx).2 rfl⟩,fun ens q hq w=>?_,fun em w=>?_⟩
 simp[Instr.findAsking,(same x e.key _ h hx).1]
 simp[Instr.findAsking,(same x e.key _ h hx).1,hq]
 cases ens with
 |nil=>
  have:=hq w
  simp[Instr.findAsking] at this
  simp[Instr.findKey,run_underlying hfs,Instr.findNow,this]
 |cons e ens=>
  have hn:Instr.findNow (.struct fs) (.agg cs.toArray) (e::ens) 0=none:=by simp[Instr.findNow,Instr.sameNow]
  simp[Instr.findKey,run_underlying hfs,hn,hq]
 exact run_checkKey_deep em 9997 3 kt hkt w 3 (.agg cs.toArray) _ (by simp[Value.formed,hfs,n1,hsz]) k1
theorem zxp{C:Cx}{k:D}{kv:Value}{Find:List MapEntry->Nat->Option (Nat×Value)->Prop}(hF:Finder C k kv Find):
  ∀(es:List (D×D)) (ens:List MapEntry) (i:Nat) (r:Option D),zey C es ens->ztb k es=some r->∃q,Find ens i q/\(match r,q with|some d,some (_,x)=>rep C d x|none,none=>True| _,_=>False)
 |[],ens,i,r,h,hf=>by
  simp only[zey] at h
  subst h
  simp only[ztb,za5] at hf
  subst hf
  exact⟨none,hF.nil i,trivial⟩
 |(x,y)::es,ens,i,r,h,hf=>by
  simp only[zey] at h
  obtain⟨e,ens',rfl,⟨h1,h2⟩,h3⟩:=h
  simp only[ztb] at hf
  split at hf
  rename_i hke
  cases hf
  exact⟨some (i,e.val),hF.hit x e ens' i hke h1,h2⟩
  rename_i hke
  obtain⟨q,h4,h5⟩:=zxp hF es ens' (i+1) r h3 hf
  exact⟨q,hF.miss x e ens' i q hke h1 h4,h5⟩
  cases hf
theorem zzs{C:Cx}{k d:D}{kv v:Value}{Find:List MapEntry->Nat->Option (Nat×Value)->Prop}(hF:Finder C k kv Find)(hk:rep C k kv)(hd:rep C d v):
  ∀(es es':List (D×D)) (ens:List MapEntry) (i:Nat),zey C es ens->updD k d es=some es'->∃q,Find ens i q/\
   (match q with
   |some (j,_)=>i<=j/\(∃e,ens[j-i]?=some e/\Instr.sameBits 10000 e.key kv=true)/\zey C es' (ens.modify (j-i) fun e=>{e with key:=kv,val:=v})
   |none=>es'=es++[(k,d)])
 |[],es',ens,i,h,hf=>by
  simp only[zey] at h
  subst h
  simp only[updD,za5] at hf
  subst hf
  exact⟨none,hF.nil i,rfl⟩
 |(x,y)::es,es',ens,i,h,hf=>by
  simp only[zey] at h
  obtain⟨e,ens',rfl,⟨h1,h2⟩,h3⟩:=h
  simp only[updD] at hf
  split at hf
  rename_i hke
  cases hf
  refine⟨some (i,e.val),hF.hit x e ens' i hke h1,za4 _,⟨e,by simp,hF.bits x e hke h1⟩,?_⟩
  simp only[Nat.sub_self,List.modify_zero_cons,zey]
  exact⟨_,_,rfl,⟨hk,hd⟩,h3⟩
  rename_i hke
  split at hf
  rename_i l hl
  cases hf
  obtain⟨q,h4,h5⟩:=zzs hF hk hd es l ens' (i+1) h3 hl
  refine⟨q,hF.miss x e ens' i q hke h1 h4,?_⟩
  cases q with
  |none=>simp only at h5 ⊢;rw[h5];rfl
  |some z=>
   obtain⟨j,u⟩:=z
   obtain⟨g1,⟨e',g2,g3⟩,g4⟩:=h5
   have ej:j-i=(j-(i+1))+1:=by omega
   refine⟨by omega,⟨e',by rw[ej];simpa using g2,g3⟩,?_⟩
   rw[ej]
   simp only[List.modify_succ_cons,zey]
   exact⟨_,_,rfl,⟨h1,h2⟩,g4⟩
  cases hf
  cases hf
theorem ya0y{C:Cx}{k:D}{kv:Value}{Find:List MapEntry->Nat->Option (Nat×Value)->Prop}(hF:Finder C k kv Find):
  ∀(es es':List (D×D)) (ens:List MapEntry) (i:Nat),zey C es ens->delD k es=some es'->∃q,Find ens i q/\
   (match q with
   |some (j,_)=>i<=j/\zey C es' (ens.eraseIdx (j-i))
   |none=>es'=es)
 |[],es',ens,i,h,hf=>by
  simp only[zey] at h
  subst h
  simp only[delD,za5] at hf
  subst hf
  exact⟨none,hF.nil i,rfl⟩
 |(x,y)::es,es',ens,i,h,hf=>by
  simp only[zey] at h
  obtain⟨e,ens',rfl,⟨h1,h2⟩,h3⟩:=h
  simp only[delD] at hf
  split at hf
  rename_i hke
  cases hf
  refine⟨some (i,e.val),hF.hit x e ens' i hke h1,za4 _,?_⟩
  simpa only[Nat.sub_self,List.eraseIdx_cons_zero] using h3
  rename_i hke
  split at hf
  rename_i l hl
  cases hf
  obtain⟨q,h4,h5⟩:=ya0y hF es l ens' (i+1) h3 hl
  refine⟨q,hF.miss x e ens' i q hke h1 h4,?_⟩
  cases q with
  |none=>simp only at h5 ⊢;rw[h5]
  |some z=>
   obtain⟨j,u⟩:=z
   obtain⟨g1,g4⟩:=h5
   have ej:j-i=(j-(i+1))+1:=by omega
   refine⟨by omega,?_⟩
   rw[ej]
   simp only[List.eraseIdx_cons_succ,zey]
   exact⟨_,_,rfl,⟨h1,h2⟩,g4⟩
  cases hf
  cases hf
theorem zpp{C:Cx}:∀(es:List (D×D)) (ens:List MapEntry) (x:D×D) (e:MapEntry),zey C es ens->yaab C x e->zey C (es++[x]) (ens++[e])
 |[],ens,x,e,h,h'=>by simp only[zey] at h;subst h;simp only[zas,zey];exact⟨e,[],rfl,h',rfl⟩
 |y::es,ens,x,e,h,h'=>by
  simp only[zey] at h
  obtain⟨e',es',rfl,h1,h2⟩:=h
  simp only[zb2,zey]
  exact⟨e',_,rfl,h1,zpp es es' x e h2 h'⟩
theorem zzt{P:Program}{t:TypeId}{ti:TI}(h:zd3 P t ti=true)(hk:ti.kind=9):∃k v,P.underlying t=some (.map k v)/\(∃j,P.info? v=some j/\∃z,j.zero=some z/\zfp ti.ezero z.cells.toList=true/\zpl z=ti.eagg):=by
 obtain⟨i,d,hi,hd,hs,_,hm⟩:=zcp h
 cases d<;>simp only[hk] at hm<;>try (first|exact hm.elim|(exfalso;omega)|(exfalso;have:=hm.1;omega))
 obtain⟨_,_,⟨j,h4,_,h5⟩,_⟩:=hm
 exact⟨_,_,hd,j,h4,h5⟩
section
variable {P : Program} {E : En} {n : Nat} {F : FrS} {a : Act} {w : World} {g : Gh} (hR : Rel E n F a w g)
include hR
omit hR in
theorem zlo{r:Nat}{es:Array MapEntry}{c:Nat}(h:w.heap[r]?=some (.map es c)):(getObj r).run P w=.ok (.map es c) w:=by
 simp only[getObj,Sem.run,h]
omit hR in
theorem zp9{r:Nat}{es:Array MapEntry}{c:Nat}{o:Obj}(h:w.heap[r]?=some (.map es c)):(setObj r o).run P w=.ok () {w with heap:=w.heap.setIfInBounds r o}:=by
 simp only[setObj,Sem.run,h]
theorem zxu{o:Oper}{t:TypeId}{ti:TI}{r:Option Operand}{id:Nat}(hn:F.nu id=true)(ho:o.op=.makeMap t r)(hr:r=none\/∃x k m,r=some x/\rep (cx w g F.hp) (.int k m) (a.eval x)/\zd3 P t ti=true/\ti.kind=9):
  ze7 P E n a o (F.eff [(id,some (.map []))] (id,id+1)) (.mref id) w:=by
 have hrun:(execOp a.eval o).run P w=.ok (.value (.map (some w.heap.size))) (w.alloc (.map #[] 0)):=by
  rcases hr with rfl|⟨x,k,m,rfl,hx,ht,hk⟩
  unfold execOp;simp[ho,Instr.makeMap]
  obtain⟨kt,vt,hu,_⟩:=zzt ht hk
  simp only[rep] at hx
  unfold execOp;simp[ho,Instr.makeMap,hx.1,run_underlying hu,asInt,asIntOf]
 have hK:Keep (fun _=>False) w (w.alloc (.map #[] 0)):=Keep.alloc _ _ _
 obtain⟨h2,h3⟩:=Rel.made hR (m:=id) (blk:=.map []) (loc:=some (w.heap.size,0)) (kl:=none) hn (hK.mono fun _ _ h=>h.elim) (by rintro b o h;cases h;exact .inl (za4 _)) (by
  intro C hC hle hrf hσ
  exact⟨w.heap.size,#[],0,hσ,by subst hC;exact heap_alloc_new w _,by simp only[zey]⟩)
 refine⟨_,_,_,.inl hrun,?_,h2⟩
 simp only[rep]
 exact⟨rfl,w.heap.size,0,by simp[cx,setσ],rfl⟩
theorem ztg{o:Oper}{t:TypeId}{ti:TI}{x y z:Operand}{id:Nat}{k d:D}{es es':List (D×D)}(ho:o.op=.mapUpdate t x y z\/o.op=.insert t x y z)(ht:zd3 P t ti=true)(hk:ti.kind=9)
  (hx:rep (cx w g F.hp) (.mref id) (a.eval x)) (hy:rep (cx w g F.hp) k (a.eval y)) (hz:rep (cx w g F.hp) d (a.eval z)) (hb:F.hp id=some (.map es)) (hu':updD k d es=some es')
  (hkt:∀kt vt,P.underlying t=some (.map kt vt)->ya54 P kt k):
  ze7 P E n a o (F.eff [(id,some (.map es'))] (0,0)) .undef w:=by
 obtain⟨kt,vt,hu,_⟩:=zzt ht hk
 obtain⟨Find,hF,hfk0,hck0⟩:=ya4a (hkt _ _ hu) hy
 simp only[rep] at hx
 obtain⟨_,b,o',hσ,he⟩:=hx
 obtain⟨b',ens,clock,hσ',hblk,hes⟩:=hR.mem.hd id _ hb
 have e':=hσ'.symm.trans hσ
 simp only[za5,zaa] at e'
 obtain⟨rfl,rfl⟩:=e'
 have hblk0:w.heap[b']?=some (.map ens clock):=hblk
 have hlt:b'<w.heap.size:=(Array.getElem?_eq_some_iff.1 hblk0).1
 obtain⟨q,hq,hq2⟩:=zzs hF hy hz es es' ens.toList 0 hes hu'
 have hfk:∀w,(Instr.findKey kt (a.eval y) ens.toList).run P w=.ok q w:=hfk0 _ _ hq
 have hck:=hck0 false w
 have fin:∀ens' clock',(Instr.mapUpdate t (.map (some b')) (a.eval y) (a.eval z)).run P w=.ok () {w with heap:=w.heap.setIfInBounds b' (.map ens' clock')}->(∀C:Cx,Cx.Le (cx w g F.hp) C->zey C es' ens'.toList)->
   ze7 P E n a o (F.eff [(id,some (.map es'))] (0,0)) .undef w:=by
  intro ens' clock' hrun hents
  refine⟨undef,_,g,.inr ⟨?_,rfl⟩,by simp only[rep],Rel.wrote hR (w':={w with heap:=w.heap.setIfInBounds b' (.map ens' clock')}) (by rw[hb];simp) hσ' ?_ ?_⟩
  unfold execOp
  rcases ho with ho|ho<;>(simp only[ho,he];simp only[Sem.run_bind,hrun,Result.andThen_ok,Sem.run_pure])
  refine⟨rfl,rfl,rfl,by simp,fun k _ hk=>?_,fun k _=>?_⟩
  simp[Array.getElem?_setIfInBounds_ne (Ne.symm hk)]
  by_cases e:k=b'
  subst e
  have h1:({w with heap:=w.heap.setIfInBounds k (.map ens' clock')}:World).heap[k]?=some (.map ens' clock'):=by simp[hlt]
  unfold World.shape?
  rw[h1,hblk0]
  have h1:({w with heap:=w.heap.setIfInBounds b' (.map ens' clock')}:World).heap[k]?=w.heap[k]?:=by simp[Array.getElem?_setIfInBounds_ne (Ne.symm e)]
  unfold World.shape?
  rw[h1]
  intro C hC hle hrf hσC
  refine⟨b',ens',clock',hσC,?_,hents C hle⟩
  subst hC
  simp[cx,hlt]
 cases q with
 |none=>
  refine fin (ens.push {key:=a.eval y,val:=a.eval z,born:=clock}) (clock+1) ?_ ?_
  simp only[Instr.mapUpdate,Sem.run_bind,run_underlying hu,Result.andThen_ok]
  simp[zlo hblk0,zp9 hblk0,hck,hfk]
  intro C hle
  simp only at hq2
  rw[hq2,Array.toList_push]
  exact zpp _ _ _ _ (zlw hle _ _ hes) ⟨zfv hle _ _ hy,zfv hle _ _ hz⟩
 |some z'=>
  obtain⟨j,u⟩:=z'
  obtain⟨_,⟨e0,g2,g3⟩,g4⟩:=hq2
  simp only[Nat.sub_zero] at g2 g4
  have g2':ens[j]?=some e0:=by simpa using g2
  refine fin (ens.modify j fun e=>{e with key:=a.eval y,val:=a.eval z}) clock ?_ ?_
  simp only[Instr.mapUpdate,Sem.run_bind,run_underlying hu,Result.andThen_ok]
  simp[zlo hblk0,zp9 hblk0,hck,hfk,g2',Instr.keyThatStays,g3]
  intro C hle
  rw[Array.toList_modify]
  exact zlw hle _ _ g4
theorem ya60{o:Oper}{c:Call}{t t':TypeId}{ti:TI}{x y:Operand}{id:Nat}{k:D}{es es':List (D×D)}(ho:o.op=.call c)(hc:c.callee=.builtin .delete)(hca:c.args.toList=[x,y])(hct:c.argTypes.toList=[t,t'])(ht:zd3 P t ti=true)(hk:ti.kind=9)
  (hx:rep (cx w g F.hp) (.mref id) (a.eval x)) (hy:rep (cx w g F.hp) k (a.eval y)) (hb:F.hp id=some (.map es)) (hu':delD k es=some es')
  (hkt:∀kt vt,P.underlying t=some (.map kt vt)->ya54 P kt k):
  ze7 P E n a o (F.eff [(id,some (.map es'))] (0,0)) (.tuple []) w:=by
 obtain⟨kt,vt,hu,_⟩:=zzt ht hk
 obtain⟨Find,hF,hfk0,hck0⟩:=ya4a (hkt _ _ hu) hy
 simp only[rep] at hx
 obtain⟨_,b,o',hσ,he⟩:=hx
 obtain⟨b',ens,clock,hσ',hblk,hes⟩:=hR.mem.hd id _ hb
 have e':=hσ'.symm.trans hσ
 simp only[za5,zaa] at e'
 obtain⟨rfl,rfl⟩:=e'
 have hblk0:w.heap[b']?=some (.map ens clock):=hblk
 have hlt:b'<w.heap.size:=(Array.getElem?_eq_some_iff.1 hblk0).1
 have e1:c.args=#[x,y]:=by rw[<-Array.toList_inj];simpa using hca
 have e2:c.argTypes=#[t,t']:=by rw[<-Array.toList_inj];simpa using hct
 obtain⟨q,hq,hq2⟩:=ya0y hF es es' ens.toList 0 hes hu'
 have hfk:∀w,(Instr.findKey kt (a.eval y) ens.toList).run P w=.ok q w:=hfk0 _ _ hq
 have hck:=hck0 ens.isEmpty w
 have fin:∀ens',(∀ty,(Builtin.delete_ #[t,t'] ty #[.map (some b'),a.eval y]).run P w=.ok (.tuple #[]) {w with heap:=w.heap.setIfInBounds b' (.map ens' clock)})->(∀C:Cx,Cx.Le (cx w g F.hp) C->zey C es' ens'.toList)->
   ze7 P E n a o (F.eff [(id,some (.map es'))] (0,0)) (.tuple []) w:=by
  intro ens' hrun hents
  refine⟨.tuple #[],_,g,.inl ?_,by simp only[rep,reps];exact⟨[],rfl,rfl⟩,Rel.wrote hR (w':={w with heap:=w.heap.setIfInBounds b' (.map ens' clock)}) (by rw[hb];simp) hσ' ?_ ?_⟩
  unfold execOp
  simp[ho,resolve,hc,e1,e2,he,invoke,builtin,hrun]
  refine⟨rfl,rfl,rfl,by simp,fun k _ hk=>?_,fun k _=>?_⟩
  simp[Array.getElem?_setIfInBounds_ne (Ne.symm hk)]
  by_cases e:k=b'
  subst e
  have h1:({w with heap:=w.heap.setIfInBounds k (.map ens' clock)}:World).heap[k]?=some (.map ens' clock):=by simp[hlt]
  unfold World.shape?
  rw[h1,hblk0]
  have h1:({w with heap:=w.heap.setIfInBounds b' (.map ens' clock)}:World).heap[k]?=w.heap[k]?:=by simp[Array.getElem?_setIfInBounds_ne (Ne.symm e)]
  unfold World.shape?
  rw[h1]
  intro C hC hle hrf hσC
  refine⟨b',ens',clock,hσC,?_,hents C hle⟩
  subst hC
  simp[cx,hlt]
 cases q with
 |none=>
  refine fin ens (fun ty=>?_) ?_
  simp[Builtin.delete_,run_underlying hu,zlo hblk0,zp9 hblk0,hck,hfk]
  intro C hle
  simp only at hq2
  rw[hq2]
  exact zlw hle _ _ hes
 |some z'=>
  obtain⟨j,u⟩:=z'
  obtain⟨_,g4⟩:=hq2
  simp only[Nat.sub_zero] at g4
  refine fin (ens.eraseIdxIfInBounds j) (fun ty=>?_) ?_
  simp[Builtin.delete_,run_underlying hu,zlo hblk0,zp9 hblk0,hck,hfk]
  intro C hle
  rw[Array.toList_eraseIdxIfInBounds]
  exact zlw hle _ _ g4
theorem ya02{o:Oper}{t:TypeId}{ti:TI}{x y:Operand}{ok:Bool}{dx k:D}{r:Option D}(ho:o.op=.lookup t x y ok)(ht:zd3 P t ti=true)(hk:ti.kind=9)
  (hx:rep (cx w g F.hp) dx (a.eval x)) (hy:rep (cx w g F.hp) k (a.eval y)) (hd:(dx=.nilmap/\r=none)\/∃id es,dx=.mref id/\F.hp id=some (.map es)/\ztb k es=some r)
  (hkt:∀kt vt,P.underlying t=some (.map kt vt)->ya54 P kt k):
  zg2 P (cx w g F.hp) a o (bif ok then .tuple [r.getD (zdi ti),.bool r.isSome] else r.getD (zdi ti)) w:=by
 obtain⟨kt,vt,hu,j,hj,z,hz,hzc,hza⟩:=zzt ht hk
 obtain⟨Find,hF,hfk0,hck0⟩:=ya4a (hkt _ _ hu) hy
 have hzr:rep (cx w g F.hp) (zdi ti) z:=znt hzc hza
 have hzv:(zeroValue vt).run P w=.ok z w:=by simp[zeroValue,typeInfo,hj,hz]
 have fin:∀v,rep (cx w g F.hp) (r.getD (zdi ti)) v->(Instr.lookup t (a.eval x) (a.eval y) ok).run P w=.ok (if ok then .tuple #[v,.bool r.isSome] else v) w->
   zg2 P (cx w g F.hp) a o (bif ok then .tuple [r.getD (zdi ti),.bool r.isSome] else r.getD (zdi ti)) w:=by
  intro v hv hrun
  refine⟨_,by unfold execOp;simp only[ho];simp only[Sem.run_bind,hrun,Result.andThen_ok,Sem.run_pure];rfl,?_⟩
  cases ok
  simpa using hv
  simp only[cond_true,if_true,rep,reps]
  exact⟨_,rfl,_,_,rfl,hv,_,_,rfl,rfl,rfl⟩
 rcases hd with⟨rfl,rfl⟩|⟨id,es,rfl,hb,hf⟩
 simp only[rep] at hx
 refine fin z hzr ?_
 have hck:=hck0 true w
 have hfk:(Instr.findKey kt (a.eval y) []).run P w=.ok none w:=hfk0 _ _ (hF.nil 0) w
 simp[Instr.lookup,hx,run_underlying hu,hck,hfk,hzv]
 simp only[rep] at hx
 obtain⟨_,b,o',hσ,he⟩:=hx
 obtain⟨b',ens,clock,hσ',hblk,hes⟩:=hR.mem.hd id _ hb
 have e':=hσ'.symm.trans hσ
 simp only[za5,zaa] at e'
 obtain⟨rfl,rfl⟩:=e'
 have hblk0:w.heap[b']?=some (.map ens clock):=hblk
 obtain⟨q,hq,hq2⟩:=zxp hF es ens.toList 0 r hes hf
 have hck:=fun e=>hck0 e w
 have hfk:(Instr.findKey kt (a.eval y) ens.toList).run P w=.ok q w:=hfk0 _ _ hq w
 cases r with
 |none=>
  cases q with
  |some _=>exact hq2.elim
  |none=>
   refine fin z hzr ?_
   simp[Instr.lookup,he,run_underlying hu,zlo hblk0,hck,hfk,hzv]
 |some d=>
  cases q with
  |none=>exact hq2.elim
  |some u=>
   obtain⟨i,v⟩:=u
   refine fin v hq2 ?_
   simp[Instr.lookup,he,run_underlying hu,zlo hblk0,hck,hfk]
end
end Go.Tm
