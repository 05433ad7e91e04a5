/- Texts of the proof. -/
import Derived.Test.YtbedjbhndfbpcaaGreatSeatOnePb
set_option linter.unusedVariables false
set_option linter.unusedSimpArgs false
namespace Go.Tm
open Go.RowKit Go.WideShapes
section
variable {P : Program} {C : Cx} {a : Act} {w : World}
theorem ze9{k:IntKind}{i:Int}{y:Nat}{code:BoundsCode}(h0:0<=i)(h1:i<=y):(Instr.sliceBound (.int k i) y code).run P w=.ok i.toNat w:=by
 simp[Instr.sliceBound,asIntOf,h0,h1]
def zhp(C:Cx)(a:Act):Option Operand->Option D->Prop
 |none,none=>True
 |some x,some d=>rep C d (a.eval x)
 | _,_=>False
theorem zke{isS:Bool}{len cap L:Nat}{lo hi:Option Operand}{dlo dhi:Option D}{i j:Int}{v:Bool}
  (hlo:zhp C a lo dlo) (hhi:zhp C a hi dhi) (h:zgn L dlo dhi=some (i,j,v)) (hv:v=true) (hc:L<=cap) (hL:dhi=none->L=len):
  (Instr.sliceBounds isS len cap (lo.map a.eval) (hi.map a.eval) none).run P w=.ok (i.toNat,j.toNat,cap) w/\0<=i/\i<=j/\j<=L:=by
 cases lo with
 |none=>
  cases dlo with
  |some d=>exact hlo.elim
  |none=>
   cases hi with
   |none=>
    cases dhi with
    |some d=>exact hhi.elim
    |none=>
     simp only[zgn,za5,zaa] at h
     obtain⟨rfl,rfl,rfl⟩:=h
     have:=hL rfl
     subst this
     simp[Instr.sliceBounds]
   |some y=>
    cases dhi with
    |none=>exact hhi.elim
    |some d=>
     cases d<;>simp only[zgn,za5,zaa,reduceCtorEq] at h
     rename_i k b
     obtain⟨rfl,rfl,rfl⟩:=h
     simp only[zhp,rep] at hhi
     simp only[za0,decide_eq_true_eq] at hv
     simp[Instr.sliceBounds,hhi.1,ze9 (P:=P) (w:=w) (k:=k) hv.1 (show b<=cap by omega),hv.1,hv.2]
 |some x=>
  cases dlo with
  |none=>exact hlo.elim
  |some dl=>
   cases hi with
   |none=>
    cases dhi with
    |some d=>exact hhi.elim
    |none=>
     cases dl<;>simp only[zgn,za5,zaa,reduceCtorEq] at h
     rename_i k b
     obtain⟨rfl,rfl,rfl⟩:=h
     simp only[zhp,rep] at hlo
     have:=hL rfl
     subst this
     simp only[za0,decide_eq_true_eq] at hv
     simp[Instr.sliceBounds,hlo.1,ze9 (P:=P) (w:=w) (k:=k) hv.1 hv.2,hv.1,hv.2]
   |some y=>
    cases dhi with
    |none=>exact hhi.elim
    |some dh=>
     cases dl<;>cases dh<;>simp only[zgn,za5,zaa,reduceCtorEq] at h
     rename_i k b k' b'
     obtain⟨rfl,rfl,rfl⟩:=h
     simp only[zhp,rep] at hlo hhi
     simp only[za0,decide_eq_true_eq] at hv
     obtain⟨⟨v1,v2⟩,v3⟩:=hv
     have e1:=fun c=>ze9 (P:=P) (w:=w) (k:=k') (code:=c) (show 0<=b' by omega) (show b'<=cap by omega)
     have e2:=fun c=>ze9 (P:=P) (w:=w) (k:=k) (y:=b'.toNat) (code:=c) v1 (by omega)
     simp[Instr.sliceBounds,hlo.1,hhi.1,e1,e2,v1,v2,v3]
theorem zqa{len cap L:Nat}{lo hi:Option Operand}{mx:Operand}{dlo dhi:Option D}{dmx:D}{i j m:Int}{v:Bool}
  (hlo:zhp C a lo dlo) (hhi:zhp C a hi dhi) (hmx:rep C dmx (a.eval mx)) (h:zld L dlo dhi (some dmx)=some (i,j,m,v)) (hv:v=true) (hc:L<=cap):
  (Instr.sliceBounds true len cap (lo.map a.eval) (hi.map a.eval) (some (a.eval mx))).run P w=.ok (i.toNat,j.toNat,m.toNat) w/\0<=i/\i<=j/\j<=m/\m<=L:=by
 unfold zld at h
 split at h
 rename_i k b k' m' he2
 cases he2
 simp only[rep] at hmx
 cases hi with
 |none=>exact hhi.elim
 |some y=>
  simp only[zhp,rep] at hhi
  split at h
  cases lo with
  |some x=>exact hlo.elim
  |none=>
   simp only[za5,zaa] at h
   obtain⟨rfl,rfl,rfl,rfl⟩:=h
   simp only[za0,decide_eq_true_eq] at hv
   obtain⟨⟨v1,v2⟩,v3⟩:=hv
   have e1:=fun c=>ze9 (P:=P) (w:=w) (k:=k') (code:=c) (show 0<=m' by omega) (show m'<=cap by omega)
   have e2:=fun c=>ze9 (P:=P) (w:=w) (k:=k) (y:=m'.toNat) (code:=c) v1 (by omega)
   simp[Instr.sliceBounds,hmx.1,hhi.1,e1,e2,v1,v2,v3]
  cases lo with
  |none=>exact hlo.elim
  |some x=>
   rename_i k2 a2
   simp only[zhp,rep] at hlo
   simp only[za5,zaa] at h
   obtain⟨rfl,rfl,rfl,rfl⟩:=h
   simp only[za0,decide_eq_true_eq] at hv
   obtain⟨⟨⟨v1,v2⟩,v3⟩,v4⟩:=hv
   have e1:=fun c=>ze9 (P:=P) (w:=w) (k:=k') (code:=c) (show 0<=m' by omega) (show m'<=cap by omega)
   have e2:=fun c=>ze9 (P:=P) (w:=w) (k:=k) (y:=m'.toNat) (code:=c) (show 0<=b by omega) (by omega)
   have e3:=fun c=>ze9 (P:=P) (w:=w) (k:=k2) (y:=b.toNat) (code:=c) v1 (by omega)
   simp[Instr.sliceBounds,hmx.1,hhi.1,hlo.1,e1,e2,e3,v1,v2,v3,v4]
  cases h
 cases h
theorem zhl{C:Cx}:∀(l:List D) (k b o s:Nat),zcf C l b o s->zcf C (l.take k) b o s
 |l,0,b,o,s,h=>by simp only[List.take_zero,zcf]
 |[],k+1,b,o,s,h=>by simp only[List.take_nil,zcf]
 |d::ds,k+1,b,o,s,h=>by
  simp only[zcf] at h
  simp only[List.take_succ_cons,zcf]
  exact⟨h.1,zhl ds k b (o+s) s h.2⟩
theorem ya45{s c c':Nat}{l:List D}{ad:Option Addr}{cap i j m:Nat}(hx:rep C (.imm s l c) (.slice ad l.length cap))(h1:i<=j)(h2:j<=l.length)(h3:j<=m)(h4:m<=cap)
  (hc:c%8=0/\c'=c\/c'/8=c/8/\(c'%8=4\/c'%8=3/\m=j\/c'%8=1/\m=j/\(c%8=1\/c%8=2))):
  rep C (.imm s ((l.take j).drop i) c') (.slice (if m=i then ad else ad.map (·.add (i*s))) (j-i) (m-i)):=by
 simp only[rep] at hx ⊢
 obtain⟨ad',cap',he,g1,g2,g3,g4,g5,g6,hfl,g7⟩:=hx
 simp only[Value.slice.injEq] at he
 obtain⟨rfl,_,rfl⟩:=he
 have hlen:((l.take j).drop i).length=j-i:=by simp;omega
 have hc8:c'/8=c/8:=by rcases hc with⟨_,rfl⟩|h;rfl;exact h.1
 rw[hc8]
 refine⟨_,_,by rw[hlen],by omega,by omega,?_,?_,?_,?_,hfl,?_⟩
 intro h0
 rcases hc with⟨hc,rfl⟩|⟨_,hc⟩
 have:=g3 hc
 subst this
 simp
 omega
 intro h0
 rcases hc with⟨hc,rfl⟩|⟨_,hc⟩
 omega
 have:=g4 (by omega)
 split
 exact this
 simpa using this
 intro h0
 rcases hc with⟨hc,rfl⟩|⟨_,hc⟩
 have h5:=g5 (by omega)
 have h6:=g6 (g3 hc)
 omega
 omega
 intro hn
 have:ad=none:=by split at hn<;>simpa using hn
 have:=g6 this
 omega
 ·rcases g7 with rfl|g7
  left;simp
  by_cases he:j-i=0
  left
  exact zah (by omega)
  right
  intro Z hZ
  obtain⟨a0,rfl,hsp,hM,hlo',hbk,hel⟩:=g7 Z hZ
  have hne:m≠i:=by omega
  refine⟨⟨a0.block,a0.off+i*s,none⟩,?_,rfl,hM,hlo',⟨hbk.1,fun h=>by omega⟩,?_⟩
  ·simp only[hne,if_false,Option.map_some,za5]
   unfold Addr.add
   split
   ·cases a0;simp_all
   rfl
  exact zjc _ _ _ _ _ (zhl _ _ _ _ _ hel)
theorem ya39{id s off len:Nat}{oc oc':Option Nat}{ad:Option Addr}{cap i j m:Nat}(hx:rep C (.ref id s off len oc) (.slice ad len cap))(h1:i<=j)(h3:j<=m)(h4:m<=cap)(hc:∀c,oc'=some c->capK c=true->m-i=c)(hn:oc'=none->oc=none/\m=cap):
  rep C (.ref id s (off+i) (j-i) oc') (.slice (if m=i then ad else ad.map (·.add (i*s))) (j-i) (m-i)):=by
 simp only[rep] at hx ⊢
 obtain⟨h0,ad',cap',he,g1,g2,g3,goc,g4⟩:=hx
 simp only[Value.slice.injEq] at he
 obtain⟨rfl,_,rfl⟩:=he
 refine⟨h0,_,_,rfl,by omega,by omega,?_,⟨hc,fun ho=>?_⟩,?_⟩
 rotate_left
 obtain⟨k1,k2⟩:=hn ho
 obtain⟨b,T,nn,hσ,hsh,hnn⟩:=goc.2 k1
 refine⟨b,T,nn,hσ,hsh,?_⟩
 subst k2
 have e1:(off+i)*s=off*s+i*s:=Nat.add_mul _ _ _
 have e2:(m-i)*s=m*s-i*s:=Nat.sub_mul _ _ _
 have e4:i*s<=m*s:=Nat.mul_le_mul_right _ (by omega)
 omega
 rotate_left
 intro hn
 have:ad=none:=by split at hn<;>simpa using hn
 have:=g3 this
 omega
 by_cases he:m-i=0
 exact .inl he
 right
 rcases g4 with g4|⟨b,T,nn,hσ,rfl,hsh,hn⟩
 omega
 have hne:m≠i:=by omega
 refine⟨b,T,nn,hσ,?_,hsh,?_⟩
 simp only[hne,if_false,Option.map_some,za5]
 unfold Addr.add
 split
 rename_i h0
 simp only[Nat.add_mul,h0,Nat.add_zero]
 simp only[Nat.add_mul]
 have e1:(off+i)*s=off*s+i*s:=Nat.add_mul _ _ _
 have e2:(m-i)*s=m*s-i*s:=Nat.sub_mul _ _ _
 have e3:m*s<=cap*s:=Nat.mul_le_mul_right _ h4
 have e4:i*s<=m*s:=Nat.mul_le_mul_right _ (by omega)
 omega
theorem zkf{t e:TypeId}{ji:TypeInfo}{ad:Option Addr}{len cap:Nat}{lo hi mx:Option Value}{i j m:Nat}(hu:P.underlying t=some (.slice e))(hj:P.info? e=some ji)
  (hb:(Instr.sliceBounds true len cap lo hi mx).run P w=.ok (i,j,m) w):
  (Instr.sliceAt t (.slice ad len cap) lo hi mx).run P w=.ok (.slice (if m=i then ad else ad.map (·.add (i*ji.size))) (j-i) (m-i)) w:=by
 simp[Instr.sliceAt,Instr.slice,run_underlying hu,hb,sizeOf,typeInfo,hj]
theorem ya00{C:Cx}{s s' c:Nat}{l:List D}{v:Value}(h:rep C (.imm s l c) v)(hs:(Nat.beq s s'||l.isEmpty)=true):rep C (.imm s' l c) v:=by
 simp only[zau,List.isEmpty_iff] at hs
 rcases hs with hs|rfl
 rw[<-nb hs];exact h
 simp only[rep] at h ⊢;exact h
theorem zyo{o:Oper}{t:TypeId}{ti:TI}{x:Operand}{lo hi:Option Operand}{dlo dhi:Option D}{s c:Nat}{l:List D}{i j:Int}{v:Bool}(ho:o.op=.slice t x lo hi none)
  (ht:zd3 P t ti=true) (hk:ti.kind=3) (hx:rep C (.imm s l c) (a.eval x)) (hlo:zhp C a lo dlo) (hhi:zhp C a hi dhi) (h:zgn l.length dlo dhi=some (i,j,v)) (hv:v=true) (hs:s=ti.esz):
  zg2 P C a o (.imm s ((l.take j.toNat).drop i.toNat) (bif c%8==0 then c else c-c%8+4)) w:=by
 obtain⟨e,ji,hu,hj,hj1,hj2,hj3,hj4,_,_⟩:=zcs ht hk
 have hx':=hx
 simp only[rep] at hx'
 obtain⟨ad,cap,he,g1,_⟩:=hx'
 rw[he] at hx
 obtain⟨hb,b0,b1,b2⟩:=zke (P:=P) (w:=w) (isS:=true) (len:=l.length) (cap:=cap) hlo hhi h hv g1 (fun _=>rfl)
 have hsl:=zkf (ad:=ad) hu hj hb
 refine⟨_,by unfold execOp;simp only[ho,Option.map_none,he];simp only[Sem.run_bind,hsl,Result.andThen_ok,Sem.run_pure];rfl,?_⟩
 rw[hj1,<-hs]
 refine ya45 hx (by omega) (by omega) (by omega) (za4 _) ?_
 cases hc:c%8==0
 right
 simp only[cond_false]
 exact⟨by omega,.inl (by omega)⟩
 left
 exact⟨by simpa using hc,rfl⟩
theorem zyn{o:Oper}{t:TypeId}{ti:TI}{x:Operand}{lo hi:Option Operand}{dlo dhi:Option D}{id s off len L:Nat}{oc:Option Nat}{i j:Int}{v:Bool}(ho:o.op=.slice t x lo hi none)
  (ht:zd3 P t ti=true) (hk:ti.kind=3) (hx:rep C (.ref id s off len oc) (a.eval x)) (hlo:zhp C a lo dlo) (hhi:zhp C a hi dhi) (h:zgn L dlo dhi=some (i,j,v)) (hv:v=true) (hs:s=ti.esz)
  (hL:L=len\/(∀ad cap,a.eval x=.slice ad len cap->L<=cap)/\dhi≠none):
  zg2 P C a o (.ref id s (off+i.toNat) (j-i).toNat (capS oc i.toNat)) w:=by
 obtain⟨e,ji,hu,hj,hj1,hj2,hj3,hj4,_,_⟩:=zcs ht hk
 have hx':=hx
 simp only[rep] at hx'
 obtain⟨_,ad,cap,he,g1,_,_,goc,_⟩:=hx'
 rw[he] at hx
 have hLc:L<=cap:=by
  rcases hL with rfl|⟨h1,_⟩
  exact g1
  exact h1 _ _ he
 obtain⟨hb,b0,b1,b2⟩:=zke (P:=P) (w:=w) (isS:=true) (len:=len) (cap:=cap) hlo hhi h hv hLc (fun hn=>by
  rcases hL with h|⟨_,h⟩
  exact h
  exact absurd hn h)
 have hsl:=zkf (ad:=ad) hu hj hb
 refine⟨_,by unfold execOp;simp only[ho,Option.map_none,he];simp only[Sem.run_bind,hsl,Result.andThen_ok,Sem.run_pure];rfl,?_⟩
 rw[hj1,<-hs,show(j-i).toNat=j.toNat-i.toNat by omega]
 refine ya39 hx (by omega) (by omega) (za4 _) ?_ (fun h=>⟨by cases oc<;>simp_all[capS],rfl⟩)
 intro c hc hkc
 cases oc with
 |none=>cases hc
 |some c0=>
  simp only[capS,za5] at hc
  cases hk0:capK c0
  rw[hk0] at hc
  simp only[cond_false] at hc
  rw[<-hc,hk0] at hkc;cases hkc
  rw[hk0] at hc
  simp only[cond_true] at hc
  have:=goc.1 _ rfl hk0
  omega
theorem zx1{o:Oper}{t:TypeId}{ti:TI}{x mx:Operand}{lo hi:Option Operand}{dlo dhi:Option D}{dmx:D}{s c:Nat}{l:List D}{i j m:Int}{v:Bool}(ho:o.op=.slice t x lo hi (some mx))
  (ht:zd3 P t ti=true) (hk:ti.kind=3) (hx:rep C (.imm s l c) (a.eval x)) (hlo:zhp C a lo dlo) (hhi:zhp C a hi dhi) (hmx:rep C dmx (a.eval mx)) (h:zld l.length dlo dhi (some dmx)=some (i,j,m,v)) (hv:v=true) (hs:s=ti.esz):
  zg2 P C a o (.imm s ((l.take j.toNat).drop i.toNat) (bif c%8==0 then c else bif m==j then(bif (c%8==1||c%8==2) then c-c%8+1 else c-c%8+3) else c-c%8+4)) w:=by
 obtain⟨e,ji,hu,hj,hj1,hj2,hj3,hj4,_,_⟩:=zcs ht hk
 have hx':=hx
 simp only[rep] at hx'
 obtain⟨ad,cap,he,g1,_⟩:=hx'
 rw[he] at hx
 obtain⟨hb,b0,b1,b2,b3⟩:=zqa (P:=P) (w:=w) (len:=l.length) (cap:=cap) hlo hhi hmx h hv g1
 have hsl:=zkf (ad:=ad) hu hj hb
 refine⟨_,by unfold execOp;simp only[ho,Option.map_some,he];simp only[Sem.run_bind,hsl,Result.andThen_ok,Sem.run_pure];rfl,?_⟩
 rw[hj1,<-hs]
 refine ya45 hx (by omega) (by omega) (by omega) (by omega) ?_
 cases hc:c%8==0
 right
 simp only[cond_false]
 cases hm:m==j
 simp only[cond_false]
 exact⟨by omega,.inl (by omega)⟩
 simp only[cond_true]
 simp only[beq_iff_eq] at hm
 cases hd:(c%8==1||c%8==2)
 simp only[cond_false]
 exact⟨by omega,.inr (.inl ⟨by omega,by omega⟩)⟩
 simp only[cond_true]
 simp only[zau,beq_iff_eq] at hd
 exact⟨by omega,.inr (.inr ⟨by omega,by omega,hd⟩)⟩
 left
 exact⟨by simpa using hc,rfl⟩
theorem znb{o:Oper}{t:TypeId}{ti:TI}{x mx:Operand}{lo hi:Option Operand}{dlo dhi:Option D}{dmx:D}{id s off len L:Nat}{oc:Option Nat}{i j m:Int}{v:Bool}(ho:o.op=.slice t x lo hi (some mx))
  (ht:zd3 P t ti=true) (hk:ti.kind=3) (hx:rep C (.ref id s off len oc) (a.eval x)) (hlo:zhp C a lo dlo) (hhi:zhp C a hi dhi) (hmx:rep C dmx (a.eval mx)) (h:zld L dlo dhi (some dmx)=some (i,j,m,v)) (hv:v=true) (hs:s=ti.esz)
  (hL:L=len\/oc=some L/\capK L=true):
  zg2 P C a o (.ref id s (off+i.toNat) (j-i).toNat (some (m-i).toNat)) w:=by
 obtain⟨e,ji,hu,hj,hj1,hj2,hj3,hj4,_,_⟩:=zcs ht hk
 have hx':=hx
 simp only[rep] at hx'
 obtain⟨_,ad,cap,he,g1,_,_,goc,_⟩:=hx'
 rw[he] at hx
 have hLc:L<=cap:=by
  rcases hL with rfl|h1
  exact g1
  exact Nat.le_of_eq (goc.1 _ h1.1 h1.2).symm
 obtain⟨hb,b0,b1,b2,b3⟩:=zqa (P:=P) (w:=w) (len:=len) (cap:=cap) hlo hhi hmx h hv hLc
 have hsl:=zkf (ad:=ad) hu hj hb
 refine⟨_,by unfold execOp;simp only[ho,Option.map_some,he];simp only[Sem.run_bind,hsl,Result.andThen_ok,Sem.run_pure];rfl,?_⟩
 rw[hj1,<-hs,show(j-i).toNat=j.toNat-i.toNat by omega]
 refine ya39 hx (by omega) (by omega) (by omega) ?_ (fun h=>by cases h)
 intro c hc _
 simp only[za5] at hc
 omega
theorem zma{o:Oper}{t:TypeId}{ti:TI}{x mx:Operand}{lo hi:Option Operand}{dlo dhi:Option D}{dmx:D}{id s off len L:Nat}{oc:Option Nat}{i j m:Int}{v:Bool}(ho:o.op=.slice t x lo hi (some mx))
  (ht:zd3 P t ti=true) (hk:ti.kind=3) (hx:rep C (.ref id s off len oc) (a.eval x)) (hlo:zhp C a lo dlo) (hhi:zhp C a hi dhi) (hmx:rep C dmx (a.eval mx)) (h:zld L dlo dhi (some dmx)=some (i,j,m,v)) (hv:v=true) (_:s=ti.esz)
  (hL:L=len\/oc=some L/\capK L=true) (him:i=m) (hnz:∀ad cap,a.eval x=.slice ad len cap->0<cap):
  zg2 P C a o (.imm ti.esz [] 1) w:=by
 obtain⟨e,ji,hu,hj,hj1,hj2,hj3,hj4,_,_⟩:=zcs ht hk
 have hx':=hx
 simp only[rep] at hx'
 obtain⟨_,ad,cap,he,g1,_,g3,goc,_⟩:=hx'
 have hpos:=hnz ad cap he
 have hLc:L<=cap:=by
  rcases hL with rfl|h1
  exact g1
  exact Nat.le_of_eq (goc.1 _ h1.1 h1.2).symm
 obtain⟨hb,b0,b1,b2,b3⟩:=zqa (P:=P) (w:=w) (len:=len) (cap:=cap) hlo hhi hmx h hv hLc
 have hsl:=zkf (ad:=ad) hu hj hb
 refine⟨_,by unfold execOp;simp only[ho,Option.map_some,he];simp only[Sem.run_bind,hsl,Result.andThen_ok,Sem.run_pure];rfl,?_⟩
 subst him
 simp only[rep,zbo]
 have e1:j.toNat-i.toNat=0:=by omega
 refine⟨ad,0,by simp[e1],by simp,by simp,by simp,fun _ hn=>?_,by simp,by simp,by simp,.inl trivial⟩
 have:=g3 hn
 omega
theorem zym{o:Oper}{t:TypeId}{ti:TI}{x:Operand}{lo hi:Option Operand}{dlo dhi:Option D}{l:List UInt8}{i j:Int}{v:Bool}(ho:o.op=.slice t x lo hi none)
  (ht:zd3 P t ti=true) (hk:ti.kind=5) (hx:rep C (.str l) (a.eval x)) (hlo:zhp C a lo dlo) (hhi:zhp C a hi dhi) (h:zgn l.length dlo dhi=some (i,j,v)) (hv:v=true):
  zg2 P C a o (.str ((l.take j.toNat).drop i.toNat)) w:=by
 have hu:=zjd ht hk
 simp only[rep] at hx
 obtain⟨hx,hl⟩:=hx
 have hsz:(⟨l.toArray⟩:ByteArray).size=l.length:=by simp[ByteArray.size]
 obtain⟨hb,b0,b1,b2⟩:=zke (P:=P) (w:=w) (isS:=false) (len:=l.length) (cap:=l.length) hlo hhi h hv (za4 _) (fun _=>rfl)
 have hsl:(Instr.sliceAt t (.string ⟨l.toArray⟩) (lo.map a.eval) (hi.map a.eval) none).run P w=.ok (.string ((⟨l.toArray⟩:ByteArray).extract i.toNat j.toNat)) w:=by
  simp[Instr.sliceAt,Instr.slice,run_underlying hu,hsz,hb]
 refine⟨_,by unfold execOp;simp only[ho,Option.map_none,hx];simp only[Sem.run_bind,hsl,Result.andThen_ok,Sem.run_pure];rfl,?_⟩
 simp only[rep]
 refine⟨?_,by simp;omega⟩
 congr 1
 apply bytes_inj
 simp only[ByteArray.data_extract,List.extract_toArray,List.drop_take]
theorem ya6x{o:Oper}{t:TypeId}{ti:TI}{x:Operand}{d:D}{n:Nat}{c:Call}(ho:o.op=.call c)(hc:c.callee=.builtin .len)(hca:c.args.toList=[x])(hct:c.argTypes.toList=[t])(ht:zd3 P t ti=true)
  (hx:rep C d (a.eval x)) (hd:(ti.kind=3/\((∃s l k,d=.imm s l k/\n=l.length)\/∃id s off oc,d=.ref id s off n oc))\/ti.kind=5/\∃l,d=.str l/\n=l.length):
  zg2 P C a o (.int .i64 n) w:=by
 have e1:c.args=#[x]:=by apply Array.ext';simpa using hca
 have e2:c.argTypes=#[t]:=by apply Array.ext';simpa using hct
 have run:∀v,a.eval x=v->(Builtin.len_ #[t] o.type #[v]).run P w=.ok (.int .i64 n) w->zg2 P C a o (.int .i64 n) w\/¬((n:Int)<=9223372036854775807):=by
  intro v hv hr
  by_cases hn:(n:Int)<=9223372036854775807
  left
  refine⟨.int .i64 n,?_,?_⟩
  unfold execOp;simp[ho,resolve,hc,e1,e2,hv,invoke,builtin,hr]
  simp only[rep]
  refine⟨trivial,?_,?_⟩<;>simp[IntKind.min,IntKind.max,IntKind.signed,IntKind.bits]<;>omega
  exact .inr hn
 rcases hd with⟨hk,⟨s,l,k,rfl,rfl⟩|⟨id,s,off,oc,rfl⟩⟩|⟨hk,l,rfl,rfl⟩
 obtain⟨e,ji,hu,hj,_⟩:=zcs ht hk
 simp only[rep] at hx
 obtain⟨ad,cap,hx,g1,g2,_⟩:=hx
 exact(run _ hx (by simp[Builtin.len_,run_underlying hu,goInt])).resolve_right (by omega)
 obtain⟨e,ji,hu,hj,_⟩:=zcs ht hk
 simp only[rep] at hx
 obtain⟨_,ad,cap,hx,g1,g2,_⟩:=hx
 exact(run _ hx (by simp[Builtin.len_,run_underlying hu,goInt])).resolve_right (by omega)
 have hu:=zjd ht hk
 simp only[rep] at hx
 obtain⟨hx,hl⟩:=hx
 have hsz:(⟨l.toArray⟩:ByteArray).size=l.length:=by simp[ByteArray.size]
 exact(run _ hx (by simp[Builtin.len_,run_underlying hu,goInt,hsz])).resolve_right (by omega)
theorem zki{rd:Nat->D}(hr:∀t,rep C (rd t) (a.eval (.tmp t))):∀(l:List Operand) (ds:List D) (p:Bool),opds true rd l=(ds,p)->p->l.all zd0=true->reps C ds (l.map a.eval)
 |[],ds,p,h,_,_=>by simp only[opds] at h;cases h;simp only[reps,List.map_nil]
 |x::r,ds,p,h,hp,hk=>by
  simp only[opds] at h
  cases h1:opd true rd x with
  |mk d p1=>
   cases h2:opds true rd r with
   |mk ds' p2=>
    rw[h1,h2] at h
    cases h
    simp only[List.all_cons,za0] at hk
    simp only[reps,zai]
    have hp:=(za0 _ _).mp hp
    exact⟨_,_,rfl,zkk hr hk.1 h1 hp.1 rfl,zki hr r ds' p2 h2 hp.2 hk.2⟩
theorem ya1l{o:Oper}{k:FuncId}{caps:Array Operand}{ds:List D}(ho:o.op=.makeFunc (.func k) #[] caps)(hr:reps C ds (caps.toList.map a.eval)):zg2 P C a o (.fn (.func k) ds) w:=by
 refine⟨.func (.func k) #[] (caps.map a.eval),by unfold execOp;simp[ho,Instr.makeFunc],?_⟩
 simp only[rep]
 exact⟨_,by show _=Value.func _ #[] _;congr 1;apply Array.ext';simp,hr⟩
theorem ya3a{o:Oper}{k:FuncId}{x:Operand}{d:D}(ho:o.op=.makeFunc (.func k) #[x] #[])(hr:rep C d (a.eval x)):zg2 P C a o (.fn (.yield k) [d]) w:=by
 refine⟨.func (.func k) #[a.eval x] #[],by unfold execOp;simp[ho,Instr.makeFunc],?_⟩
 simp only[rep]
 exact⟨[a.eval x],rfl,by simp only[reps];exact⟨_,_,rfl,hr,rfl⟩⟩
theorem yaar{o:Oper}{x y:Operand}{k:IntKind}{m m':Int}{c:Call}(ho:o.op=.call c)(hc:c.callee=.builtin .max)(hca:c.args.toList=[x,y])
  (hx:rep C (.int k m) (a.eval x)) (hy:rep C (.int k m') (a.eval y)):zg2 P C a o (.int k (max m m')) w:=by
 have e1:c.args=#[x,y]:=by apply Array.ext';simpa using hca
 simp only[rep] at hx hy
 refine⟨.int k (max m m'),?_,by simp only[rep];refine⟨trivial,?_,?_⟩<;>omega⟩
 unfold execOp
 simp[ho,resolve,hc,e1,hx.1,hy.1,invoke,builtin,Builtin.max_,Builtin.max2]
 split<;>omega
theorem yaaq{o:Oper}{x y:Operand}{k:IntKind}{m m':Int}{c:Call}(ho:o.op=.call c)(hc:c.callee=.builtin .min)(hca:c.args.toList=[x,y])
  (hx:rep C (.int k m) (a.eval x)) (hy:rep C (.int k m') (a.eval y)):zg2 P C a o (.int k (min m m')) w:=by
 have e1:c.args=#[x,y]:=by apply Array.ext';simpa using hca
 simp only[rep] at hx hy
 refine⟨.int k (min m m'),?_,by simp only[rep];refine⟨trivial,?_,?_⟩<;>omega⟩
 unfold execOp
 simp[ho,resolve,hc,e1,hx.1,hy.1,invoke,builtin,Builtin.min_,Builtin.min2]
 split<;>omega
theorem zkj{C:Cx}:∀(l l':List D) (vs vs':List Value),reps C l vs->reps C l' vs'->reps C (l++l') (vs++vs')
 |[],l',vs,vs',h,h'=>by simp only[reps] at h;subst h;simpa using h'
 |d::ds,l',vs,vs',h,h'=>by
  simp only[reps] at h
  obtain⟨v,vs1,rfl,hd,h⟩:=h
  simp only[zb2,reps]
  exact⟨v,_,rfl,hd,zkj ds l' vs1 vs' h h'⟩
theorem zpc{C:Cx}:∀(l:List D) (vs:List Value),zfp l vs=true->reps C l vs:=by
 intro l vs h
 fun_induction zfp l vs with
 |case1=>simp only[reps]
 |case2 b ds b' vs ih=>
  simp only[za0,beq_iff_eq] at h
  simp only[reps,rep]
  exact⟨_,_,rfl,by rw[h.1],ih h.2⟩
 |case3 k n ds k' n' vs ih=>
  simp only[za0,beq_iff_eq,decide_eq_true_eq] at h
  obtain⟨⟨⟨⟨rfl,rfl⟩,h1⟩,h2⟩,h3⟩:=h
  simp only[reps,rep]
  exact⟨_,_,rfl,⟨rfl,h1,h2⟩,ih h3⟩
 |case4 ds s vs ih=>
  simp only[za0,beq_iff_eq] at h
  simp only[reps,rep]
  refine⟨_,_,rfl,⟨?_,by simp⟩,ih h.2⟩
  congr 1
  apply bytes_inj
  have:s.data.size=0:=h.1
  simp[Array.size_eq_zero_iff.1 this]
 |case5 s ds vs ih=>
  simp only[reps,rep]
  exact⟨_,_,rfl,⟨none,0,rfl,by simp⟩,ih h⟩
 |case6 ds vs ih=>simp only[reps,rep];exact⟨_,_,rfl,rfl,ih h⟩
 |case7 ds vs ih=>simp only[reps,rep];exact⟨_,_,rfl,rfl,ih h⟩
 |case8 ds vs ih=>simp only[reps,rep];exact⟨_,_,rfl,rfl,ih h⟩
 |case9 ds vs ih=>simp only[reps,rep];exact⟨_,_,rfl,rfl,ih h⟩
 |case10=>cases h
theorem zt8:∀(l:List Value) (k off:Nat) (cs:Array Value),off+k+l.length<=cs.size->
  ((l.zipIdx k).foldl (fun cs (c,j)=>cs.setIfInBounds (off+j) c) cs).toList=cs.toList.take (off+k)++l++cs.toList.drop (off+k+l.length)
 |[],k,off,cs,_=>by simp
 |v::l,k,off,cs,h=>by
  simp only[zak] at h
  simp only[List.zipIdx_cons,List.foldl_cons]
  rw[zt8 l (k+1) off _ (by simp;omega)]
  have hlt:off+k<cs.toList.length:=by simp;omega
  simp only[Array.toList_setIfInBounds,zak]
  rw[List.take_set,List.drop_set_of_lt (by omega)]
  rw[show off+(k+1)=off+k+1 by omega,List.take_succ_eq_append_getElem hlt]
  rw[List.set_append_right _ _ (by simp;omega)]
  have:off+k-(cs.toList.take (off+k)).length=0:=by simp;omega
  rw[this]
  simp[Nat.add_comm 1 l.length,Nat.add_assoc]
theorem zlx{C:Cx}{d:D}{v:Value}(h:rep C d v)(hl:d.cells.length=v.cells.size):reps C d.cells v.cells.toList:=by
 cases d with
 |agg l=>
  simp only[rep] at h
  obtain⟨cs,rfl,h⟩:=h
  simpa[D.cells,Value.cells] using h
 |tuple l=>simp only[D.cells,zbo] at hl;simp only[D.cells,reps];exact zah (by simpa using hl.symm)
 |undef=>simp only[D.cells,zbo] at hl;simp only[D.cells,reps];exact zah (by simpa using hl.symm)
 |«when» c d=>simp only[D.cells,zbo] at hl;simp only[D.cells,reps];exact zah (by simpa using hl.symm)
 | _=>
  have hv:v.cells=#[v]:=by
   simp only[rep] at h
   first
    |(subst h;rfl)
    |(obtain⟨_,rfl,_⟩:=h;exact znj _ _)
    |(obtain⟨_,rfl,_⟩:=h;rw[znj];rfl)
    |(obtain⟨rfl,_⟩:=h;rfl)
    |(obtain⟨_,_,rfl,_⟩:=h;rfl)
    |(obtain⟨_,_,_,rfl,_⟩:=h;rfl)
    |(obtain⟨_,_,_,_,_,rfl⟩:=h;rfl)
    |(obtain⟨_,_,_,_,rfl⟩:=h;rfl)
    |(obtain⟨_,rfl,_⟩:=h;rfl)
    |(cases v<;>first|rfl|cases h)
  rw[hv]
  simp only[D.cells,reps]
  exact⟨v,[],rfl,h,rfl⟩
theorem zij{C:Cx}{d:D}{v:Value}(h:rep C d v)(hd:d.cells≠[]):v.cells.size=d.cells.length:=by
 cases d with
 |agg l=>
  simp only[rep] at h
  obtain⟨cs,rfl,h⟩:=h
  simpa[D.cells,Value.cells] using zdh _ _ h
 |tuple l=>exact absurd rfl hd
 |undef=>exact absurd rfl hd
 |«when» c d=>exact absurd rfl hd
 | _=>
  simp only[rep] at h
  first
   |(subst h;rfl)
   |(obtain⟨_,rfl,_⟩:=h;exact znj _ _)
   |(obtain⟨_,rfl,_⟩:=h;rw[znj];rfl)
   |(obtain⟨rfl,_⟩:=h;rfl)
   |(obtain⟨_,_,rfl,_⟩:=h;rfl)
   |(obtain⟨_,_,_,rfl,_⟩:=h;rfl)
   |(obtain⟨_,_,_,_,_,rfl⟩:=h;rfl)
   |(obtain⟨_,_,_,_,rfl⟩:=h;rfl)
   |(obtain⟨_,rfl,_⟩:=h;rfl)
   |(cases v<;>first|rfl|cases h)
theorem zop{C:Cx}{l new:List D}{vs vnew:List Value}{off:Nat}(h:reps C l vs)(hn:reps C new vnew):reps C (zn7 l off new) (vs.take off++vnew++vs.drop (off+vnew.length)):=by
 unfold zn7
 rw[zdh _ _ hn]
 exact zkj _ _ _ _ (zkj _ _ _ _ (zse _ _ _ h) hn) (zsf _ _ _ h)
theorem zvi{C:Cx}{offs:List (Nat×Nat×Bool)}{place:Nat->Option (Nat×Nat)}(hpl:∀i o n b,offs[i]?=some (o,n,b)->place i=some (o,n)/\n≠0):
  ∀(parts:List (Nat×D)) (vparts:List (Nat×Value)) (cells c:List D) (cv:Array Value) (p:Bool),
   parts.map (·.1)=vparts.map (·.1)->reps C (parts.map (·.2)) (vparts.map (·.2))->reps C cells cv.toList->zqp offs cells parts=some (c,p)->p->
   ∃cv',Instr.fill place cv vparts=some cv'/\reps C c cv'.toList
 |[],vparts,cells,c,cv,p,hm,hr,hc,h,hp=>by
  cases vparts with
  |nil=>simp only[zqp,za5,zaa] at h;obtain⟨rfl,_⟩:=h;exact⟨cv,rfl,hc⟩
  |cons x xs=>simp at hm
 |(i,d)::r,vparts,cells,c,cv,p,hm,hr,hc,h,hp=>by
  cases vparts with
  |nil=>simp at hm
  |cons x xs=>
   obtain⟨i',v⟩:=x
   simp only[zai,List.cons.injEq] at hm
   obtain⟨rfl,hm⟩:=hm
   simp only[zai,reps] at hr
   obtain⟨v',vs',he,hd,hr⟩:=hr
   obtain⟨rfl,rfl⟩:=List.cons.inj he
   simp only[zqp] at h
   split at h
   rename_i o n b ho
   split at h
   rename_i c' p' hf
   simp only[za5,zaa] at h
   obtain⟨rfl,rfl⟩:=h
   simp only[za0] at hp
   obtain⟨⟨h1,h2⟩,h3⟩:=hp
   have h1:=nb h1
   have h2:=lb h2
   obtain⟨hpl1,hn0⟩:=hpl i o n b ho
   have hne:d.cells≠[]:=fun e=>by rw[e] at h1;simp at h1;omega
   have hvs:=zij hd hne
   have hcl:=zdh _ _ hc
   have hcl':cv.size=cells.length:=by simpa using hcl
   have hfold:=zt8 v.cells.toList 0 o cv (by simp;omega)
   have hz:v.cells.zipIdx=(v.cells.toList.zipIdx 0).toArray:=by apply Array.ext';simp
   simp only[Instr.fill,hpl1]
   rw[if_neg (by simp;omega)]
   refine zvi hpl r xs _ _ _ p' hm hr ?_ hf h3
   have e:(Array.foldl (fun cs x=>match x with|(c,j)=>cs.setIfInBounds (o+j) c) cv v.cells.zipIdx).toList=cv.toList.take (o+0)++v.cells.toList++cv.toList.drop (o+0+v.cells.toList.length):=by
    rw[<-hfold,hz]
    simp
   rw[e]
   exact zop hc (zlx hd hvs.symm)
   cases h
   cases h
theorem zup{rd:Nat->D}(hr:∀t,rep C (rd t) (a.eval (.tmp t))):∀(l:List (Nat×Operand)) (ds:List (Nat×D)) (p:Bool),zo5 true rd l=(ds,p)->p->(l.map (·.2)).all zd0=true->
  reps C (ds.map (·.2)) (l.map fun x=>a.eval x.2)/\ds.map (·.1)=l.map (·.1)
 |[],ds,p,h,_,_=>by simp only[zo5] at h;cases h;simp only[reps,List.map_nil];exact⟨trivial,trivial⟩
 |(i,x)::r,ds,p,h,hp,hk=>by
  simp only[zo5] at h
  cases h1:opd true rd x with
  |mk d p1=>
   cases h2:zo5 true rd r with
   |mk ds' p2=>
    rw[h1,h2] at h
    cases h
    simp only[zai,List.all_cons,za0] at hk
    have hp:=(za0 _ _).mp hp
    obtain⟨g1,g2⟩:=zup hr r ds' p2 h2 hp.2 hk.2
    simp only[reps,zai,g2]
    exact⟨⟨_,_,rfl,zkk hr hk.1 h1 hp.1 rfl,g1⟩,trivial⟩
theorem ya70{o:Oper}{t:TypeId}{ti:TI}{ps:Array (Nat×Operand)}{ds:List (Nat×D)}{c:List D}{q:Bool}(ho:o.op=.build t ps)(ht:zd3 P t ti=true)(hk:ti.kind=2)
  (hr:reps C (ds.map (·.2)) (ps.toList.map fun x=>a.eval x.2)) (hm:ds.map (·.1)=ps.toList.map (·.1)) (h:zqp ti.offs ti.zero ds=some (c,q)) (hq:q=true):zg2 P C a o (.agg c) w:=by
 obtain⟨i,d,hi,hd,hs,⟨z,hz,hzc⟩,_⟩:=zcp ht
 obtain⟨i',fs,hi',hu,hsz,hoffs,hall⟩:=zs3 ht hk
 have hzr:reps C ti.zero z.cells.toList:=zpc _ _ hzc
 have hsz:∀f∈fs.toList,(sizeOf f.type).run P w=.ok (P.cellsOf f.type) w:=by
  intro f hf
  obtain⟨j,hj⟩:=Option.isSome_iff_exists.1 (hall f hf).1
  simp[sizeOf,typeInfo,hj,Program.cellsOf]
 have hplaces:(fs.mapM fun f=>do pure (f.offset,<-sizeOf f.type):Sem (Array (Nat×Nat))).run P w=.ok (fs.map fun f=>(f.offset,P.cellsOf f.type)) w:=by
  have key:∀(l:List Field),(∀f∈l,(sizeOf f.type).run P w=.ok (P.cellsOf f.type) w)->(l.mapM (fun f=>Prod.mk f.offset<$>sizeOf f.type):Sem (List (Nat×Nat))).run P w=.ok (l.map fun f=>(f.offset,P.cellsOf f.type)) w:=by
   intro l
   induction l with
   |nil=>intro _;simp
   |cons f l ih=>
    intro h
    simp[List.mapM_cons,h f (by simp),ih fun g hg=>h g (by simp[hg])]
  have:=key fs.toList hsz
  rw[Array.mapM_eq_mapM_toList]
  simp only[bind_pure_comp,Sem.run_map,this,Result.andThen_ok]
  congr 1
  apply Array.ext';simp
 have hvp:(ps.map fun(i,x)=>(i,a.eval x)).toList.map (·.1)=ps.toList.map (·.1):=by simp
 have hvp2:(ps.map fun(i,x)=>(i,a.eval x)).toList.map (·.2)=ps.toList.map fun x=>a.eval x.2:=by simp
 obtain⟨cv,hf,hc⟩:=zvi (C:=C) (offs:=ti.offs) (place:=fun i=>(fs.map fun f=>(f.offset,P.cellsOf f.type))[i]?) (by
  intro i o n b h
  rw[hoffs] at h
  simp only[List.getElem?_map,Option.map_eq_some_iff,zaa] at h
  obtain⟨fd,hfd,rfl,rfl,rfl⟩:=h
  have hfd':fs[i]?=some fd:=by simpa using hfd
  exact⟨by simp[hfd'],(hall fd (List.mem_of_getElem? hfd)).2.2⟩) ds (ps.map fun(i,x)=>(i,a.eval x)).toList ti.zero c z.cells q (by rw[hm,hvp]) (by rw[hvp2];exact hr) hzr h hq
 refine⟨.agg cv,?_,by simp only[rep];exact⟨cv.toList,rfl,hc⟩⟩
 unfold execOp
 simp only[ho,Instr.build,zeroValue,typeInfo,hi,hz,Sem.run_bind,run_program,Result.andThen_ok,Sem.run_pure,run_underlying hu,hplaces,hf]
theorem ya5j{o:Oper}{t:TypeId}{ti:TI}{ps:Array (Nat×Operand)}{ds:List (Nat×D)}{c:List D}{q:Bool}(ho:o.op=.build t ps)(ht:zd3 P t ti=true)(hk:ti.kind=4)
  (hr:reps C (ds.map (·.2)) (ps.toList.map fun x=>a.eval x.2)) (hm:ds.map (·.1)=ps.toList.map (·.1)) (h:zqp ti.offs ti.zero ds=some (c,q)) (hq:q=true):zg2 P C a o (.agg c) w:=by
 obtain⟨i,d,hi,hd,hs,⟨z,hz,hzc⟩,_⟩:=zcp ht
 obtain⟨n,e,j,hu,hj,hj1,hsz,hoffs⟩:=zzv ht hk
 have hzr:reps C ti.zero z.cells.toList:=zpc _ _ hzc
 have hvp:(ps.map fun(i,x)=>(i,a.eval x)).toList.map (·.1)=ps.toList.map (·.1):=by simp
 have hvp2:(ps.map fun(i,x)=>(i,a.eval x)).toList.map (·.2)=ps.toList.map fun x=>a.eval x.2:=by simp
 obtain⟨cv,hf,hc⟩:=zvi (C:=C) (offs:=ti.offs) (place:=fun i=>some (i*1,1)) (by
  intro i o n b h
  rw[hoffs] at h
  simp only[List.getElem?_map,Option.map_eq_some_iff,zaa] at h
  obtain⟨fd,hfd,rfl,rfl,rfl⟩:=h
  obtain⟨h1,h2⟩:=List.getElem?_eq_some_iff.1 hfd
  simp only[List.getElem_range] at h2
  subst h2
  exact⟨by simp,by simp⟩) ds (ps.map fun(i,x)=>(i,a.eval x)).toList ti.zero c z.cells q (by rw[hm,hvp]) (by rw[hvp2];exact hr) hzr h hq
 refine⟨.agg cv,?_,by simp only[rep];exact⟨cv.toList,rfl,hc⟩⟩
 have hsz1:(sizeOf e).run P w=.ok 1 w:=by simp[sizeOf,typeInfo,hj,hj1]
 unfold execOp
 simp only[ho,Instr.build,zeroValue,typeInfo,hi,hz,Sem.run_bind,run_program,Result.andThen_ok,Sem.run_pure,run_underlying hu,hsz1,hf]
theorem ya9t{o:Oper}{t:TypeId}{ti:TI}{x:Operand}{d:D}{n:Nat}{c:Call}(ho:o.op=.call c)(hc:c.callee=.builtin .cap)(hca:c.args.toList=[x])(hct:c.argTypes.toList=[t])(ht:zd3 P t ti=true)(hk:ti.kind=3)
  (hx:rep C d (a.eval x)) (hd:(∃s l k,d=.imm s l k/\n=l.length/\(k%8<=1\/k%8=3))\/∃id s off len,d=.ref id s off len (some n)/\capK n=true):
  zg2 P C a o (.int .i64 n) w:=by
 have e1:c.args=#[x]:=by apply Array.ext';simpa using hca
 have e2:c.argTypes=#[t]:=by apply Array.ext';simpa using hct
 obtain⟨e,ji,hu,hj,_⟩:=zcs ht hk
 have run:∀ad len,a.eval x=.slice ad len n->((n:Int)<=9223372036854775807)->zg2 P C a o (.int .i64 n) w:=by
  intro ad len hv hn
  refine⟨.int .i64 n,?_,?_⟩
  unfold execOp;simp[ho,resolve,hc,e1,e2,hv,invoke,builtin,Builtin.cap_,run_underlying hu,goInt]
  simp only[rep]
  refine⟨trivial,?_,?_⟩<;>simp[IntKind.min,IntKind.max,IntKind.signed,IntKind.bits]<;>omega
 rcases hd with⟨s,l,k,rfl,rfl,hk⟩|⟨id,s,off,len,rfl,hkn⟩
 simp only[rep] at hx
 obtain⟨ad,cap,hx,g1,g2,g3,g4,g5,_⟩:=hx
 have:=g5 hk
 subst this
 exact run _ _ hx g2
 simp only[rep] at hx
 obtain⟨_,ad,cap,hx,g1,g2,g3,g4,_⟩:=hx
 have:=g4.1 _ rfl hkn
 subst this
 exact run _ _ hx g2
theorem ya1m{o:Oper}{t t':TypeId}{ti ti':TI}{x:Operand}{l:List UInt8}(ho:o.op=.convert t' t x)(ht:zd3 P t ti=true)(ht':zd3 P t' ti'=true)(hk:ti.kind=5)
  (hx:rep C (.str l) (a.eval x)):zg2 P C a o (.str l) w:=by
 have hu:=zjd ht hk
 obtain⟨i',d',hi',hd',_⟩:=zcp ht'
 have hx':=hx
 simp only[rep] at hx'
 obtain⟨hx',_⟩:=hx'
 rw[hx'] at hx
 refine⟨.string ⟨l.toArray⟩,?_,hx⟩
 unfold execOp
 cases d'<;>simp[ho,hx',convert,run_underlying hu,run_underlying hd']
theorem znt{ti:TI}{z:Value}(hzc:zfp ti.ezero z.cells.toList=true)(hsz:zpl z=ti.eagg):rep C (zdi ti) z:=by
 have:=zpc (C:=C) _ _ hzc
 unfold zdi
 cases he:ti.eagg
 rw[he] at hsz
 have hc:z.cells=#[z]:=by cases z<;>first|rfl|simp[zpl] at hsz
 rw[hc] at this
 simp only[cond_false]
 cases hl:ti.ezero with
 |nil=>rw[hl] at this;simp[reps] at this
 |cons d ds=>
  rw[hl] at this
  simp only[reps] at this
  obtain⟨u,us,h1,h2,_⟩:=this
  simp only[List.cons.injEq] at h1
  rw[h1.1];exact h2
 rw[he] at hsz
 simp only[cond_true,rep]
 cases z<;>simp[zpl] at hsz
 exact⟨_,by simp[Value.cells],this⟩
end
end Go.Tm
