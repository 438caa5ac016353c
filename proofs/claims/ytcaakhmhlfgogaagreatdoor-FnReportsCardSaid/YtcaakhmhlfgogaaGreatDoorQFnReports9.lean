/-
  Parts of the proof, put together by program.
-/
import Derived.Test.YtcaakhmhlfgogaaGreatDoorQFnReports8
set_option linter.defProp false
set_option linter.unusedVariables false
set_option maxRecDepth 100000
set_option linter.unusedSimpArgs false
set_option linter.unusedSectionVars false
open Go renaming Value→vL,World→wD,Program→pG
namespace Go.Proofs.YtcaakhmhlfgogaaGreatDoor
open Go Go.Sh Go.Proofs
open Rep (rep)
variable {W0 W1 W2 w w1 w4 wQ9:wD}{hi i j k lo m n:Nat}{v v0 v1 v2:vL}
def VS(m i:Nat):m >>> i<=m:=by rw[QL];exact Io _ _
def eh{A:List dB}(h1:Is W1 v1 A)(e1:aB W1 w)(hn:n<=60)(hA:∀ a∈A,(0<=a.fr/\a.fr<n)/\0<=a.to/\a.to<n)(hl:A.length<=2000) :
   aJ tp 87 [iV n,v1] w λr w'=>aB w w'/\eG w.heap.size w' r ((WK n (RP (eD n A))).map bN):=by
 refine co (g:=kf [(19,37778931862957161582336,[8,9])] [(4,1267650600228229401496703090640,[6,7]),(7,37778931862957161582336,[8,9,10]),(12,36893488078699629056,[9,36]),(23,9902915851373234884605652992,[12,79])] []) Tryz.func87 ?_;refine(Ww h1 e1 hn hA hl).mono ?_;rintro _ w1 ⟨gE,gJ⟩;have g3:=gJ.is;have hWl:(GB (eD n A) n).length=n:=Uw;have gq:∀i(h:i<(GB (eD n A) n).length),(GB (eD n A) n)[i]=eM (RP (eD n A) i) n:=λi h=>L3 h;generalize GB (eD n A) n=ws at *;generalize RP (eD n A)=way at *;have hs1:=gE.size;refine bV n (λk us w'=>∃out f told L,us=[out,.int .u64 ((eM told n:Nat):Int)]/\f+k=n/\tY n told<=f/\WK n way=L++zE n way f told/\L.length=k/\aB w1 w'/\∃lo hi,w1.heap.size<=lo/\lo<=w'.heap.size/\hi<=w'.heap.size/\bQ lo hi 31 w' out (L.map bN)) 0 (z0 _) ⟨_,n,λ_=>False,[],by rw[<-tn];rfl,rfl,Qq,rfl,rfl,xx,w1.heap.size,w1.heap.size,lr _,iD _,lr _,uC _ _ _ _⟩ ?_;rintro k mk _ w2 _ ⟨out,f,told,L,hu,_,gK,gr,gL,g5,lo,hi,gF,_,gM,gG⟩;obtain⟨gN,gO⟩:=dQ hu;rw[gN,gO];have V:eM told n<4611686018427387904:=DV hn;refine dJ.mk (λus w'=>w'=w2/\((vV n way told=none/\∃p,us=[iV (-1),.int .u64 p])\/∃i:Nat,vV n way told=some i/\us=[iV i,.int .u64 ((eM (kY way i) n:Nat):Int)])) ?_ ?_
 ·refine bV n (λi us w'=>w'=w2/\i<=n/\∃fd p,us=[iV fd,.int .u64 p,iV i]/\((fd=-1/\∀j,j<i->¬vJ n way told j)\/∃i0:Nat,fd=(i0:Int)/\vJ n way told i0/\(∀j,j<i0->¬vJ n way told j)/\p=((eM (kY way i0) n:Nat):Int))) 0 (z0 _) ⟨rfl,z0 _,-1,0,rfl,.inl ⟨rfl,λj hj=>oo⟩⟩ ?_;rintro i mi _ w3 _ ⟨rfl,_,fd,p,gP,D⟩;obtain⟨gs,gt,gx⟩:=Gr gP;rw[gs,gt,gx];refine bM<|br (λgQ=>?_) λgR=>?_
  case refine_2=>
    refine⟨rfl,?_⟩;rcases D with⟨rfl,g1⟩|⟨i0,rfl,Z,g4,rfl⟩
    ·exact .inl ⟨Bp.2 λj hj=>g1 j (by have:=hj.1;omega) hj,_,rfl⟩
    exact .inr ⟨i0,Kv Z g4,rfl⟩
  have gh:i<n:=oo;refine bM<|br (λgH=>?_) λgH=>?_
  case refine_2=>
    refine⟨rfl,?_⟩;rcases D with⟨rfl,g1⟩|⟨i0,rfl,Z,g4,rfl⟩
    ·exact absurd dD gH
    exact .inr ⟨i0,Kv Z g4,rfl⟩
  have g1:fd=-1/\∀j,j<i->¬vJ n way told j:=by
    rcases D with h|⟨i0,rfl,_⟩
    ·exact h
    omega
  obtain⟨rfl,g1⟩:=g1;refine sN kK sR oo<|TF V<|SK (n:=1) (uU (VS _ _) V) oo<|bI<|br (λhb=>?_) λhb=>?_
  ·rw[DG,nW]at hb;refine aU<|⟨mi-1,oo,i+1,oo,rfl,oo,-1,p,rfl,.inl ⟨rfl,λj hj=>?_⟩⟩;rcases FA (FD.1 hj)with h|rfl
   ·exact g1 j h
   exactλh=>h.2.1 hb.2
  have gS:¬told i:=λh=>hb (by rw[DG,nW];exact⟨gh,h⟩);refine sN kK sR oo<|Fx oo ?_;rw[zxa (way:=way) gh];refine bV n (λj us w'=>w'=w3/\j<=n/\us=[.int .u64 ((eM (GQ way i j) n:Nat):Int),iV j]) 0 (z0 _) ⟨rfl,z0 _,rfl⟩ ?_;rintro j mj _ w4 gT ⟨rfl,gU,gy⟩;obtain⟨g9,gb⟩:=dQ gy;rw[g9,gb];have M:∀j,eM (GQ way i j) n<4611686018427387904:=λj=>DV hn;have C:∀j,eM (way j) n<4611686018427387904:=λj=>DV hn;refine bM<|br (λ_=>?_) λ_=>?_
  ·have hj:j<n:=oo;refine Ej (i:=i) g3 g5 oo ?_;rw[gq];refine sN kK sR oo<|TF (C _)<|SK (n:=1) (uU (VS _ _) (C _)) oo<|bI<|br (λgi=>?_) λgi=>?_
   ·rw[DG,nW]at gi;refine Ej (i:=j) g3 g5 oo ?_;rw[gq];refine sN kK sR oo<|TF (C _)<|SK (n:=1) (uU (VS _ _) (C _)) oo<|bI<|br (λgj=>?_) λgj=>?_
    ·rw[DG,nW]at gj;refine sN kK sR oo<|Fx oo<|Dp (M _) (uU (tX (n:=2) oo (show j<=60 by omega)) dD) ?_;rw[zAT hj gi.2 gj.2];refine aU<|⟨mj-1,oo,j+1,oo,rfl,oo,rfl⟩
    rw[Re (n:=n) (j:=j) λh=>gj (by rw[DG,nW];exact⟨gh,h.2⟩)];refine aU<|⟨mj-1,oo,j+1,oo,rfl,oo,rfl⟩
   rw[Re (n:=n) (j:=j) λh=>gi (by rw[DG,nW];exact⟨hj,h.1⟩)];refine aU<|⟨mj-1,oo,j+1,oo,rfl,oo,rfl⟩
  have gz:j=n:=oo;rw[gz,fa];refine Ej (i:=i) g3 g5 oo ?_;rw[gq];refine W7 (C _) (DV hn)<|W7 (uU (PP _ _) (C _)) V<|bI ?_;have gc:=tg (way:=way) gh gS;refine br (λhb=>?_) λhb=>?_
  ·have Z:vJ n way told i:=gc.1 oo;refine aU<|⟨mi-1,oo,i+1,oo,rfl,oo,_,_,rfl,.inr ⟨i,rfl,Z,g1,rfl⟩⟩
  have Z:¬vJ n way told i:=λh=>hb (by rw[gc.2 h];rfl);refine aU<|⟨mi-1,oo,i+1,oo,rfl,oo,-1,_,rfl,.inl ⟨rfl,λj hj=>?_⟩⟩;rcases FA (FD.1 hj)with h|rfl
  ·exact g1 j h
  exact Z
 rintro _ w3 ⟨rfl,hJ⟩;rcases hJ with⟨gl,p,g0⟩|⟨i,gl,g0⟩
 ·obtain⟨O,g2⟩:=dQ g0;clear g0;rw[O];refine bM<|br (λ_=>?_) (λh=>absurd dD h);rw[Tn gl,oJ]at gr;rw[gr];exact⟨xx,gG.own.own.mono oo⟩
 obtain⟨O,g2⟩:=dQ g0;rw[O,g2];refine bM<|br (λh=>oo) λ_=>?_;have Z:=WM gl;obtain⟨f',gV,gA,_⟩:=u0 gK gl;refine bV n (λj us w'=>∃lv,us=[lv,iV j]/\j<=n/\aB w3 w'/\bQ w3.heap.size w'.heap.size 3 w' lv (bN (cC j (kY way i)))) 0 (z0 _) ⟨_,rfl,z0 _,xx,uC _ _ _ _⟩ ?_;rintro j mj _ w4 gT ⟨lv,gB,gU,gd,gn⟩;obtain⟨gf,gg⟩:=dQ gB;rw[gf,gg];have gI:=gd.size;have M:eM (kY way i) n<4611686018427387904:=DV hn;have hsl:(cC j (kY way i)).length<=j:=pC;refine bM<|br (λgQ=>?_) λgR=>?_
 ·have hj:j<n:=oo;refine sN kK sR oo<|TF M<|SK (n:=1) (uU (VS _ _) M) oo<|bI<|br (λhb=>?_) λhb=>?_
  ·rw[DG,nW]at hb;refine oS (lo2:=w4.heap.size) (hi2:=w4.heap.size) (x:=(j:Int)) bG aG z3 wQ dD gn gI (ownI_int io) (lr _) gI (by rw[eB,cB];omega) (by rw[cB];omega) λgC w9 gp gD=>aU<|⟨mj-1,oo,j+1,oo,gC,rfl,oo,gd.xI gp (lr _),?_⟩;rw[AS hb.2,HG];exact gD
  refine aU<|⟨mj-1,oo,j+1,oo,lv,rfl,oo,gd,?_⟩;rw[xU λh=>hb (by rw[DG,nW];exact⟨hj,h⟩)];exact gn
 have gz:j=n:=oo;rw[gz]at gn;refine oS (lo2:=w3.heap.size) (hi2:=w4.heap.size) (x:=bN (cC n (kY way i))) vR dT Av Cj dD (gG.ext gd) oo gn.own gM oo (by rw[eB,kL];omega) (by rw[kL];omega) λgC w9 gp gD=>Dp V M ?_;rw[rz (n:=n) Z.1];have hs9:=gp.size;refine⟨mk-1,oo,k+1,oo,gC,f',AT way told i,L++[cC n (kY way i)],rfl,oo,gA,by rw[gr,gV,fR];rfl,by simp[gL],(g5.t gd).xI gp gF,lo,w9.heap.size,gF,oo,lr _,?_⟩;rw[wJ];exact gD
section
variable {nx:Nat->List Nat}{n m i j k t:Nat}{A:List dB}{p q:Nat->Prop}
noncomputable def lO(nx:Nat->List Nat)(n m k j:Nat):List (List Bool):=(List.range n).map λi=>cZ n λx=>eZ nx (if i<k\/(i=k/\x<j)then m+1 else m) i x
def Tw:(lO nx n m k j).length=n:=by simp[lO]
def BL(h:i<(lO nx n m k j).length):(lO nx n m k j)[i]=cZ n λx=>eZ nx (if i<k\/(i=k/\x<j)then m+1 else m) i x:=by simp[lO]
def E3(h:i<(lO nx n m k j).length){x:Nat}(hx:x<((lO nx n m k j)[i]).length):((lO nx n m k j)[i])[x]=true↔eZ nx (if i<k\/(i=k/\x<j)then m+1 else m) i x:=by
 rw[<-kS hx,BL,lY];rw[BL,dZ]at hx;exact⟨λh=>h.2,λh=>⟨hx,h⟩⟩
def Bw:eZ nx 0 i j↔j∈nx i:=.rfl
def zo:eZ nx (m+1) k m↔eZ nx m k m:=⟨eZ.old,.inl⟩
def sq:eZ nx (m+1) m j↔eZ nx m m j:=⟨eZ.old',.inl⟩
def zAV:lO nx n m k n=lO nx n m (k+1) 0:=FU λi _=>rA λx _=>by
 have:(i<k\/(i=k/\x<n))↔(i<k+1\/(i=k+1/\x<0)):=oo;simp only[this]
def me:lO nx n m n 0=lO nx n (m+1) 0 0:=FU λi hi=>rA λx hx=>by
 have hi:=rC.1 hi;rw[aP (.inl hi),aH oo]
def pc(h:¬eZ nx m k m):lO nx n m k 0=lO nx n m (k+1) 0:=FU λi hi=>rA λx hx=>by
 by_cases h3:i<k
 ·rw[aP (.inl h3),aP oo]
 rw[aH oo];by_cases h4:i=k
 ·subst h4;rw[aP oo];exact⟨.inl,λh'=>h'.elim id λh'=>absurd h'.1 h⟩
 rw[aH oo]
def zCU(h:¬eZ nx m m j):lO nx n m k j=lO nx n m k (j+1):=FU λi hi=>rA λx hx=>by
 by_cases h1:i<k\/(i=k/\x<j)
 ·rw[aP h1,aP oo]
 rw[aH h1];by_cases h2:i=k/\x=j
 ·obtain⟨rfl,rfl⟩:=h2;rw[aP oo];exact⟨.inl,λh'=>h'.elim id λh'=>absurd h'.2 h⟩
 rw[aH oo]
def Nq{p:Nat->Prop}(hj:j<n):(cZ n p).set j true=cZ n λx=>p x\/x=j:=by
 refine DS (by rw[HN,dZ]) λ_ hi=>?_;rw[wI (by rw[dZ];exact hj),lY];exact⟨λh=>h.elim (λh=>.inl h.2) .inr,λh=>h.elim (λh=>.inl ⟨hi,h⟩) .inr⟩
def pu(hk:k<n)(hj:j<n)(h1:eZ nx m k m)(h2:eZ nx m m j)(h:k<(lO nx n m k j).length) :
   (lO nx n m k j).set k ((lO nx n m k j)[k].set j true)=lO nx n m k (j+1):=by
 refine wE (by simp[lO]) λi _ _=>?_;rw[XH];by_cases hi:k=i
 ·subst hi;rw[aP rfl,BL,BL,Nq hj];refine rA λx hx=>?_;by_cases hxj:x=j
  ·subst hxj;have e1:(if k<k\/(k=k/\x<x+1)then m+1 else m)=m+1:=aP (.inr ⟨rfl,oo⟩);rw[e1];exact⟨λ_=>.inr ⟨h1,h2⟩,λ_=>.inr rfl⟩
  by_cases hl:x<j
  ·rw[aP (.inr ⟨rfl,hl⟩),aP (.inr ⟨rfl,oo⟩)];exact⟨λh=>h.elim id λh=>absurd h hxj,.inl⟩
  rw[aH oo,aH oo];exact⟨λh=>h.elim id λh=>absurd h hxj,.inl⟩
 rw[aH hi,BL,BL];refine rA λx hx=>?_;by_cases h5:i<k\/(i=k/\x<j)
 ·rw[aP h5,aP oo]
 rw[aH h5,aH oo]
noncomputable def vF(nx:Nat->List Nat)(n:Nat):List (List Bool):=(List.range n).map λi=>cZ n (RP nx i)
def Ug:(vF nx n).length=n:=by simp[vF]
def Bn(h:i<(vF nx n).length):(vF nx n)[i]=cZ n (RP nx i):=by simp[vF]
def V4(h:i<(vF nx n).length){x:Nat}(hx:x<((vF nx n)[i]).length):((vF nx n)[i])[x]=true↔RP nx i x:=by
 rw[<-kS hx,Bn,lY];rw[Bn,dZ]at hx;exact⟨λh=>h.2,λh=>⟨hx,h⟩⟩
def zAX(hn:∀ i j,j∈nx i->i<n/\j<n):lO nx n n 0 0=vF nx n:=FU λi hi=>rA λx hx=>by
 rw[aH oo];exact eZ.iff hn
def yj:eD n []=λ_=>[]:=by
 funext i;unfold eD cC;rw[U4];intro _ _ h;simp at h
def Rg{a:dB}(hf:a.fr=(i:Int))(ht:a.to=(k:Int))(hi:i<n)(hk:k<n){x y:Nat}:y∈eD n (A++[a]) x↔y∈eD n A x\/(x=i/\y=k):=by
 unfold eD;simp only[mG,dF,oY,dB.ext_iff,hf,ht];constructor
 ·rintro⟨h1,h2,h3|⟨h3,h4⟩⟩
  ·exact .inl ⟨h1,h2,h3⟩
  exact .inr ⟨xC.1 h3,xC.1 h4⟩
 rintro(⟨h1,h2,h3⟩|⟨rfl,rfl⟩)
 ·exact⟨h1,h2,.inl h3⟩
 exact⟨hk,hi,.inr ⟨rfl,rfl⟩⟩
def zxd:List.replicate n (List.replicate n false)=lO (eD n []) n 0 0 0:=by
 refine wE (by simp[lO]) λ_ _ _=>?_;rw[BL,Im];refine DS ss λ_ _=>?_;rw[aH oo,yj];simp[eZ,GY]
def dw{a:dB}(hf:a.fr=(i:Int))(ht:a.to=(k:Int))(hi:i<n)(hk:k<n)(h:i<(lO (eD n A) n 0 0 0).length) :
   (lO (eD n A) n 0 0 0).set i ((lO (eD n A) n 0 0 0)[i].set k true)=lO (eD n (A++[a])) n 0 0 0:=by
 refine wE (by simp[lO]) λx _ _=>?_;rw[XH];by_cases hx:i=x
 ·subst hx;rw[aP rfl,BL,BL,Nq hk];refine rA λj _=>?_;rw[aH oo];rw[Bw,Bw,Rg hf ht hi hk];exact⟨λh=>h.elim .inl λh=>.inr ⟨rfl,h⟩,λh=>h.elim .inl λh=>.inr h.2⟩
 rw[aH hx,BL,BL];refine rA λj _=>?_;rw[aH oo];rw[Bw,Bw,Rg hf ht hi hk];exact⟨.inl,λh=>h.elim id λh=>absurd h.1.symm hx⟩
end
section
variable {n i j f:Nat}{way:Nat->Nat->Prop}{told:Nat->Prop}
def SE(way:Nat->Nat->Prop)(told:Nat->Prop)(i j:Nat):Prop:=¬told i/\∀x,x<j->way i x->way x i\/told x
def Rr(hi:i<n):SE way told i n↔vJ n way told i:=⟨λh=>⟨hi,h⟩,λh=>h.2⟩
def ii:SE way told i (j+1)↔SE way told i j/\(way i j->way j i\/told j):=by
 constructor
 ·rintro⟨h1,h2⟩;exact⟨⟨h1,λx hx=>h2 x oo⟩,h2 j oo⟩
 rintro⟨⟨h1,h2⟩,h3⟩;refine⟨h1,λx hx=>?_⟩;rcases FA (FD.1 hx)with h|rfl
 ·exact h2 x h
 exact h3
def EB(way:Nat->Nat->Prop)(told:Nat->Prop)(i j x:Nat):Prop:=told x\/(x<j/\kY way i x)
def zxe:cZ n told=cZ n (EB way told i 0):=rA λx _=>⟨.inl,λh=>h.elim id λh=>oo⟩
def yf:cZ n (EB way told i n)=cZ n (AT way told i):=rA λx hx=>⟨λh=>h.elim .inl λh=>.inr h.2,λh=>h.elim .inl λh=>.inr ⟨hx,h⟩⟩
def Wg(hj:j<n)(h:kY way i j):(cZ n (EB way told i j)).set j true=cZ n (EB way told i (j+1)):=by
 rw[Nq hj];refine rA λ_ _=>?_;unfold EB;constructor
 ·rintro((h1|h1)|rfl)
  ·exact .inl h1
  ·exact .inr ⟨oo,h1.2⟩
  exact .inr ⟨oo,h⟩
 rintro(h1|⟨h1,h2⟩)
 ·exact .inl (.inl h1)
 rcases FA (FD.1 h1)with h3|h3
 ·exact .inl (.inr ⟨h3,h2⟩)
 exact .inr h3
def wu(h:¬kY way i j):cZ n (EB way told i j)=cZ n (EB way told i (j+1)):=by
 refine rA λ_ _=>?_;unfold EB;constructor
 ·rintro(h1|h1)
  ·exact .inl h1
  exact .inr ⟨oo,h1.2⟩
 rintro(h1|⟨h1,h2⟩)
 ·exact .inl h1
 rcases FA (FD.1 h1)with h3|h3
 ·exact .inr ⟨h3,h2⟩
 subst h3;exact absurd h2 h
end
def Vl:kO tp 4=some [.bool false]:=by kernel_rfl
structure RB(w0 w:wD)(v:vL)(l:List (List Bool)):Prop where
 ext:aB w0 w
 own:eG w0.heap.size w v l
section
variable {w0 w w' w1:wD}{v:vL}{l:List (List Bool)}{i j m n:Nat}
def RB.step(h:RB w0 w v l)(hx:aB w w'):RB w0 w' v l:=⟨h.ext.trans hx,h.own.ext hx⟩
def PZ{K:vL->Prop}(h:Is w1 v l)(hx:aB w1 w)(hi:i<l.length)(hj:j<l[i].length)(k:K (.bool l[i][j])) :
   RD tp (Instr.indexAt 150 v (iV i)) w λa=>RD tp (Instr.loadAt 125 a) w λb=>RD tp (Instr.indexAt 125 b (iV j)) w λc=>RD tp (Instr.loadAt 4 c) w K:=
 bC CG lT h hi λb o hA=>aL lT hA hx λv2 h2=>bC eY cE h2 hj λb2 o2 hA2=>iY cE hA2 hx k
def RB.set{K:wD->Prop}(h:RB w0 w v l)(hi:i<l.length)(hj:j<l[i].length)(k:∀ w',RB w0 w' v (l.set i (l[i].set j true))->K w') :
   RD tp (Instr.indexAt 150 v (iV i)) w λa=>RD tp (Instr.loadAt 125 a) w λb=>RD tp (Instr.indexAt 125 b (iV j)) w λc=>fA tp (Instr.storeAt 4 c (.bool true)) w K:=by
 obtain⟨_,hM,hF⟩:=h.own;refine JN CG lT hM hi λb _ _ hL=>Ty lT hL λ_ g3 g0 g4=>JN eY cE g3 hj λ_ _ _ g5=>KU (upd:=λy=>l[i].set j y) (y':=true) cE g5 Ie λw2 F2 g1 g9 g2=>?_;obtain⟨F5,gb,gc⟩:=g4 w2 F2 _ g1 g9 λc hc=>.inl (g2 c hc);refine k w2 ⟨h.ext.chg_trans (g1.mono g0) hF,F5,gb,λc hc=>?_⟩;rcases gc c hc with h6|h6
 ·exact hF c h6
 exact hF c (g0 c (g2 c h6))
end
def K8{A:List dB}(h1:Is W1 v1 A)(e1:aB W1 w)(hn:n<=60)(hA:∀ a∈A,(0<=a.fr/\a.fr<n)/\0<=a.to/\a.to<n)(hl:A.length<=2000) :
   aJ tp 182 [iV n,v1] w λr w'=>aB w w'/\eG w.heap.size w' r (vF (eD n A) n):=by
 refine co (g:=kf [] [(3,4190304,[5,6]),(7,4398042316928,[7]),(11,604462909802916540843776,[8]),(14,604462909666577098999296,[9]),(17,604462905303714959983616,[10])] [(9,[0,1,2,3,4,5,6,7,8,9,10,11,12,13,14],0)]) Tryz.func182 ?_;refine pR (α:=List Bool) CG lT λ_ _ gr _=>bV n (λk us w'=>∃out,us=[out,iV k]/\k<=n/\aB w w'/\bQ w.heap.size w'.heap.size 125 w' out (List.replicate k (List.replicate n false))) 0 (z0 _) ⟨_,rfl,z0 _,gr,AY _ _ _ _ _⟩ ?_;rintro k mk q w2 gs ⟨out,hq,gt,g2,g0⟩;obtain⟨gx,gy⟩:=dQ hq;clear hq;rw[gx,gy];have hs2:=g2.size;refine bM<|br (λgz=>?_) λgA=>?_
 ·refine SX (α:=Bool) eY cE rfl rfl Vl oo oo λw3 g3 gB=>?_;have hs3:=g3.size;refine oS (x:=List.replicate n false) CG lT Kw Hz dD (g0.ext g3) oo gB.own (lr _) oo (by rw[eB,pY];omega) (by rw[pY];omega) λgC _ gD gE=>aU<|⟨mk-1,oo,k+1,oo,gC,rfl,oo,(g2.t g3).xI gD (lr _),?_⟩;rw[Ek];exact gE
 have g4:k=n:=oo;rw[g4,zxd]at g0;have gF:RB w w2 out (lO (eD n []) n 0 0 0):=⟨g2,g0.own.own⟩;clear g0;refine bV A.length (λk us w'=>us=[iV k]/\k<=A.length/\RB w w' out (lO (eD n (A.take k)) n 0 0 0)) 0 (z0 _) ⟨rfl,z0 _,by rw[LA];exact gF⟩ ?_;rintro k mk q w3 gs ⟨hq,gt,g5⟩;try replace hq:=cJ hq
 rw[hq];refine aX uI h1<|bM<|br (λgz=>?_) λgA=>?_
 ·have hk:k<A.length:=oo;have gG:=cO w3;generalize World.drew1 w3=w4 at *;have D:=g5.step gG;obtain⟨⟨_,_⟩,_,_⟩:=hA _ (cY hk);obtain⟨i,hi⟩:∃i:Nat,A[k].fr=(i:Int):=⟨A[k].fr.toNat,oo⟩;obtain⟨j,hj⟩:∃j:Nat,A[k].to=(j:Int):=⟨A[k].to.toNat,oo⟩;refine bC uI rO h1 hk λ_ _ gH=>aE XA<|aS aG (UV gH) (e1.trans D.ext) λ_=>?_;rw[hi];obtain⟨_,hM,hF⟩:=D.own;have gi:i<(lO (eD n (A.take k)) n 0 0 0).length:=by rw[Tw];omega
  refine JN CG lT hM gi λ_ _ _ hL=>Ty lT hL λ_ gI gj gJ=>bC uI rO h1 hk λ_ _ gK=>aE WE<|aS aG (VJ gK) (e1.trans D.ext) λ_=>?_;rw[hj];refine JN eY cE gI (k:=j) (by rw[BL,dZ];omega) λ_ _ _ gL=>KU (upd:=λy=>(lO (eD n (A.take k)) n 0 0 0)[i].set j y) (y':=true) cE gL Ie λw5 F5 gl gM gn=>?_;obtain⟨F6,gN,gO⟩:=gJ w5 F5 _ gl gM λc hc=>.inl (gn c hc)
  have C:RB w w5 out ((lO (eD n (A.take k)) n 0 0 0).set i ((lO (eD n (A.take k)) n 0 0 0)[i].set j true)):=⟨D.ext.chg_trans (gl.mono gj) hF,F6,gN,λc hc=>by
    rcases gO c hc with h6|h6
    ·exact hF c h6
    exact hF c (gj c (gn c h6))⟩
  rw[dw hi hj oo oo]at C;refine aU<|⟨mk-1,oo,k+1,oo,rfl,oo,?_⟩;rw[tk hk];exact C
 have g4:k=A.length:=oo;rw[g4,sF]at g5;refine bV n (λm us w'=>us=[iV m]/\m<=n/\RB w w' out (lO (eD n A) n m 0 0)) 0 (z0 _) ⟨rfl,z0 _,g5⟩ ?_;rintro m mm _ w4 _ ⟨g9,_,D⟩;try replace g9:=cJ g9
 rw[g9];refine bM<|br (λ_=>?_) λ_=>?_
 case refine_2=>
   have gP:m=n:=oo;rw[gP,zAX R7]at D;exact⟨D.ext,D.own⟩
 have hm:m<n:=oo;refine bV n (λk us w'=>us=[iV k]/\k<=n/\RB w w' out (lO (eD n A) n m k 0)) 0 (z0 _) ⟨rfl,z0 _,D⟩ ?_;rintro i mi _ w5 _ ⟨gb,gi,gc⟩;try replace gb:=cJ gb
 rw[gb];refine bM<|br (λ_=>?_) λ_=>?_
 case refine_2=>
   have gQ:i=n:=oo;rw[gQ,me]at gc;refine aU<|⟨mm-1,oo,m+1,oo,rfl,oo,gc⟩
 have hi:i<n:=oo;refine bV n (λj us w'=>us=[iV j]/\j<=n/\(0<j->eZ (eD n A) m i m)/\RB w w' out (lO (eD n A) n m i j)) 0 (z0 _) ⟨rfl,z0 _,λh=>absurd h oo,gc⟩ ?_;rintro j mj _ _ _ ⟨gd,_,gf,C⟩;try replace gd:=cJ gd
 rw[gd];refine bM<|br (λ_=>?_) λ_=>?_
 case refine_2=>
   have gR:j=n:=oo;rw[gR,zAV]at C;refine aU<|⟨mi-1,oo,i+1,oo,rfl,oo,C⟩
 have hj:j<n:=oo;have hL6:(lO (eD n A) n m i j).length=n:=Tw;have V:∀x(hx:x<(lO (eD n A) n m i j).length),((lO (eD n A) n m i j)[x]).length=n:=λx hx=>by rw[BL,dZ]
 refine PZ (i:=i) (j:=m) C.own.is xx oo (by rw[V];omega) ?_;have gg:=E3 (nx:=eD n A) (n:=n) (m:=m) (k:=i) (j:=j) (i:=i) oo (x:=m) (by rw[V];omega)
 have gS:eZ (eD n A) (if i<i\/(i=i/\m<j)then m+1 else m) i m↔eZ (eD n A) m i m:=by
   split
   ·exact zo
   exact .rfl
 rw[gS]at gg;refine bW (λhb=>?_) λhb=>?_
 case refine_2=>
   have gp:¬eZ (eD n A) m i m:=λh=>by rw[gg.2 h]at hb;cases hb
   have gT:j=0:=by
     rcases Af j with h|h
     ·exact h
     exact absurd (gf h) gp
   subst gT;rw[pc gp]at C;refine aU<|⟨mi-1,oo,i+1,oo,rfl,oo,C⟩
 have M:=gg.1 hb;refine PZ (i:=m) (j:=j) C.own.is xx oo (by rw[V];omega) ?_;have O:=E3 (nx:=eD n A) (n:=n) (m:=m) (k:=i) (j:=j) (i:=m) oo (x:=j) (by rw[V];omega)
 have gh:eZ (eD n A) (if m<i\/(m=i/\j<j)then m+1 else m) m j↔eZ (eD n A) m m j:=by
   split
   ·exact sq
   exact .rfl
 rw[gh]at O;refine bW (λg1=>?_) λg1=>?_
 ·have gU:=O.1 g1;refine C.set (i:=i) (j:=j) oo (by rw[V];omega) λ_ gq=>?_;rw[pu hi hj M gU]at gq;refine aU<|⟨mj-1,oo,j+1,oo,rfl,oo,λ_=>M,gq⟩
 have gV:¬eZ (eD n A) m m j:=λh=>by rw[O.2 h]at g1;cases g1
 rw[zCU gV]at C;refine aU<|⟨mj-1,oo,j+1,oo,rfl,oo,λ_=>M,C⟩
def TZ{x:dB}:Is w v x↔v=.agg #[iV x.fr,iV x.to]/\bR x.fr/\bR x.to:=by
 constructor
 ·rintro⟨_,_,⟨_,_,_,_,rfl,rfl,⟨rfl,rfl,h1⟩,⟨rfl,rfl,h2⟩⟩,rfl⟩;exact⟨rfl,h1,h2⟩
 rintro⟨rfl,h1,h2⟩;exact⟨[],_,⟨[],[],[iV x.fr],[iV x.to],rfl,rfl,⟨rfl,rfl,h1⟩,⟨rfl,rfl,h2⟩⟩,rfl⟩
theorem sn{w w0 w1:wD}{K:vL->Prop}{x y:Operand}{v1 v2:vL}{a b:dB}(h1:Is w0 v1 a)(h2:Is w1 v2 b)(k:K (.bool (decide (a=b)))):RD tp (bin .eql 201 x y v1 v2) w K:=by
  obtain⟨rfl,_⟩:=TZ.1 h1;obtain⟨rfl,_⟩:=TZ.1 h2;refine dY (λw' _=>?_) k;have hg:tp.eqGuardType tp.depth 201=false:=by kernel_rfl
  have e0:∀xs ys w,(eqGuard .eql 201 x y (.agg xs) (.agg ys)).run tp w=.ok () w:=λxs ys w=>run_eqGuard_agg (P:=tp) w .eql 201 x y xs ys hg;have e1:∀xs ys w,(Op.equalIn 10000 201 (.agg xs) (.agg ys)).run tp w=(Op.eqFields 9999 xs ys (tp.fieldsOf 201).toList).run tp w:=λxs ys w=>run_equalIn_struct w 9999 201 xs ys kK kK;have e2:(tp.fieldsOf 201).toList.map (λf=>(f.name,f.type,f.offset))=[("From", 3,0),("To", 3,1)]:=by kernel_rfl
  have e3:∀(c d:Int)(w:wD),(Op.equalIn 9999 3 (iV c) (iV d)).run tp w=.ok (c == d) w:=λc d w=>run_equalIn_int w 9998 3 .i64 .i64 c d u3;have hd:(a=b)↔(a.fr=b.fr/\a.to=b.to):=dB.ext_iff;generalize hF:(tp.fieldsOf 201).toList=fs at e1 e2
  match fs,e2 with
  | [f0,f1],e2=>
    simp only[FI,QJ,zI,mV,and_true]at e2;obtain⟨⟨n0,t0,o0⟩,⟨n1,t1,o1⟩⟩:=e2;have p0:∀(a b:vL)(w:wD),(part 3 #[a,b] 0).run tp w=.ok a w:=λa b w=>by simp[part,xY aG]
    have p1:∀(a b:vL)(w:wD),(part 3 #[a,b] 1).run tp w=.ok b w:=λa b w=>by simp[part,xY aG]
    simp only[bin,Sem.run_bind,e0,Result.andThen_ok,run_eql_struct,e1,Op.eqFields,n0,n1,t0,t1,o0,o1];simp only[ne_eq,String.reduceEq,not_false_eq_true,if_true,Sem.run_bind,p0,p1,Result.andThen_ok,e3,Sem.run_ite,Sem.run_pure,hd];by_cases x0:a.fr=b.fr<;>by_cases x1:a.to=b.to<;>simp[x0,x1]
theorem tz{w w0 w1:wD}{K:vL->Prop}{x y:Operand}{v1 v2:vL}{a b:dB}(h1:Is w0 v1 a)(h2:Is w1 v2 b)(k:K (.bool (decide (a≠b)))):RD tp (bin .neq 201 x y v1 v2) w K:=by
  obtain⟨rfl,_⟩:=TZ.1 h1;obtain⟨rfl,_⟩:=TZ.1 h2;refine dY (λw' _=>?_) k;have hg:tp.eqGuardType tp.depth 201=false:=by kernel_rfl
  have e0:∀xs ys w,(eqGuard .neq 201 x y (.agg xs) (.agg ys)).run tp w=.ok () w:=λxs ys w=>run_eqGuard_agg (P:=tp) w .neq 201 x y xs ys hg;have e1:∀xs ys w,(Op.equalIn 10000 201 (.agg xs) (.agg ys)).run tp w=(Op.eqFields 9999 xs ys (tp.fieldsOf 201).toList).run tp w:=λxs ys w=>run_equalIn_struct w 9999 201 xs ys kK kK;have e2:(tp.fieldsOf 201).toList.map (λf=>(f.name,f.type,f.offset))=[("From", 3,0),("To", 3,1)]:=by kernel_rfl
  have e3:∀(c d:Int)(w:wD),(Op.equalIn 9999 3 (iV c) (iV d)).run tp w=.ok (c == d) w:=λc d w=>run_equalIn_int w 9998 3 .i64 .i64 c d u3;have hd:(a=b)↔(a.fr=b.fr/\a.to=b.to):=dB.ext_iff;generalize hF:(tp.fieldsOf 201).toList=fs at e1 e2
  match fs,e2 with
  | [f0,f1],e2=>
    simp only[FI,QJ,zI,mV,and_true]at e2;obtain⟨⟨n0,t0,o0⟩,⟨n1,t1,o1⟩⟩:=e2;have p0:∀(a b:vL)(w:wD),(part 3 #[a,b] 0).run tp w=.ok a w:=λa b w=>by simp[part,xY aG]
    have p1:∀(a b:vL)(w:wD),(part 3 #[a,b] 1).run tp w=.ok b w:=λa b w=>by simp[part,xY aG]
    simp only[bin,Sem.run_bind,e0,Result.andThen_ok,run_neq_struct,e1,Op.eqFields,n0,n1,t0,t1,o0,o1];simp only[ne_eq,String.reduceEq,not_false_eq_true,if_true,Sem.run_bind,p0,p1,Result.andThen_ok,e3,Sem.run_ite,Sem.run_pure,ne_eq,hd];by_cases x0:a.fr=b.fr<;>by_cases x1:a.to=b.to<;>simp[x0,x1]
def ia{l:List dB}{y:dB}(hk:k<l.length)(h:y∉l.take k)(c:¬l[k]=y):y∉l.take (k+1):=by
 rw[tk hk];simp only[dF,bF,dL,dI,not_or];exact⟨h,λe=>c e.symm⟩
def xg{l:(List dB)}{y:dB} (h0:Is W0 v0 l)(e0:aB W0 w)(h1:Is W1 v1 y)(e1:aB W1 w)  :
   aJ tp 216 [v0,v1] w λr w'=>aB w w'/\(∃n:Int,r=iV n/\(0<=n↔y∈l)):=by
 refine co (g:=kf [] [(2,524080,[8])] [(4,[0,1,2,3,4,5],0)]) Tryz.func216 ?_;refine lA rO rfl h1 e1 λg0 y1 _ g1=>?_;have g2:=fD h0;refine aX uI h0<|bV (l.length) (λk us w'=>us=[iV k]/\aB g0 w'/\(y∉l.take k)) (0) oo ⟨ss,xx,ss⟩ ?_;rintro k m2 _ g3 _ ⟨hu,y2,C⟩;try replace hu:=cJ hu
 try rw[hu]
 try clear hu
 refine bM<|br (λc1=>?_) λc1=>?_
 ·have y3:=cO g3;refine pX g1 xx<|bC uI rO h0 oo λ_ _ g4=>aL rO g4 xx λ_ g5=>sn h1 g5<|br (λc2=>?_) λc2=>?_
  ·refine⟨xx,?_⟩;have:y∈l:=c2▸cY _;exact⟨_,rfl,by simp[this]⟩
  refine aU<|⟨m2-1,oo,k+1,oo,ss,xx,?_⟩;exact ia oo C (λe=>c2 e.symm)
 refine⟨xx,?_⟩;rw[iO oo]at C;exact⟨-1,rfl,by simp[C]⟩
def wo{l:(List dB)}{y:dB} (h0:Is W0 v0 l)(e0:aB W0 w)(h1:Is W1 v1 y)(e1:aB W1 w)  :
   aJ tp 159 [v0,v1] w λr w'=>aB w w'/\(r=.bool (decide (y∈l))):=by
 refine co (g:=kf [] [] []) Tryz.func159 ?_;refine lA rO rfl h1 e1 λg0 y1 _ g1=>pX g1 xx<|(xg h0 xx h1 (e1.trans y1)).mono ?_;rintro _ _ ⟨y2,_,rfl,g2⟩;refine pD<|⟨xx,?_⟩;simp[g2]
def I5{A:List dB}(h1:Is W1 v1 A)(e1:aB W1 w)(hn:n<=60)(hA:∀ a∈A,(0<=a.fr/\a.fr<n)/\0<=a.to/\a.to<n)(hl:A.length<=2000) :
   aJ tp 181 [iV n,v1] w λr w'=>aB w w'/\r=.bool true:=by
 refine co (g:=kf [] [(4,1099511611440,[5])] []) Tryz.func181 ?_;refine eS.mM λ_ g2=>mL<|br (λh=>absurd ⟨oo,oo⟩ h) λ_=>?_;refine aX uI h1<|oN<|br (λh=>oo) λ_=>?_;refine bV A.length (λk us w'=>us=[iV k]/\k<=A.length/\aB w w') 0 (z0 _) ⟨rfl,z0 _,g2⟩ ?_;rintro k mk _ _ _ ⟨hq,_,g0⟩;try replace hq:=cJ hq
 rw[hq];refine aX uI h1<|bM<|br (λ_=>?_) λ_=>?_
 case refine_2=>exact⟨g0,rfl⟩
 have hk:k<A.length:=oo;obtain⟨⟨_,_⟩,_,_⟩:=hA _ (cY hk);refine bC uI rO h1 hk λ_ _ g3=>aE XA<|aS aG (UV g3) (e1.trans g0) λ_=>kQ io<|eS.mM λ_ g1=>mL<|br (λh=>absurd ⟨oo,oo⟩ h) λ_=>?_;refine bC uI rO h1 hk λ_ _ g4=>aE WE<|aS aG (VJ g4) ((e1.trans g0).trans g1) λ_=>kQ io<|eS.mM λ_ g5=>mL<|br (λh=>absurd ⟨oo,oo⟩ h) λ_=>?_;refine aU<|⟨mk-1,oo,k+1,oo,rfl,oo,(g0.t g1).trans g5⟩
structure CI(w1 wQ9 w4 w:wD)(tv out lv:vL)(T:List Bool)(lo hi:Nat)(L:List (List Int))(P:List Int):Prop where
 ext:aB w1 w
 told:aK w1.heap.size wQ9.heap.size w tv T
 s1:w1.heap.size<=wQ9.heap.size
 s2:wQ9.heap.size<=lo
 s3:hi<=w4.heap.size
 s4:w4.heap.size<=w.heap.size
 s5:wQ9.heap.size<=w4.heap.size
 out:bQ lo hi 31 w out L
 row:bQ w4.heap.size w.heap.size 3 w lv P
def CI.push{tv out lv:vL}{T:List Bool}{L:List (List Int)}{P:List Int}{K:VW}(h:CI w1 wQ9 w4 w tv out lv T lo hi L P)(hj:j<T.length)(gh:j<=60)(hP:P.length<=60)
   (k:∀v' w',CI w1 wQ9 w4 w' tv out v' (T.set j true) lo hi L (P++[(j:Int)])->K v' w') :
   OP tp (Instr.buildSlice 31 1 #[(0,iV j)]) w λs w=>OP tp (Builtin.append_ #[31,31] 31 [lv,s].toArray) w λx w=>RD tp (Instr.indexAt 125 tv (iV j)) w λa=>fA tp (Instr.storeAt 4 a (.bool true)) w λw=>K x w:=by
 have g4:=h.s1;have g5:=h.s2;have g9:=h.s3;have g3:=h.s4;have gb:=h.s5;refine oS (lo2:=w.heap.size) (hi2:=w.heap.size) (x:=(j:Int)) bG aG z3 wQ dD h.row g3 (DC _ _ io) (lr _) g3 (by rw[eB];omega) oo λv5 _ g0 gc=>?_;have:=g0.size;obtain⟨_,hM,hF⟩:=h.told.chg g0 oo;refine JN eY cE hM hj λb _ _ hL=>KU (upd:=λy=>T.set j y) (y':=true) cE hL Ie λw6 F6 gd gf gg=>?_;have g1:=gd.toI hF;have g2:=g1.size;refine k v5 w6 ⟨(h.ext.xI g0 oo).xI g1 (lr _),⟨F6,gf,λb hb=>hF b (gg b hb)⟩,g4,g5,g9,oo,gb,(h.out.chg g0 oo).chg g1 oo,(gc.chg g1 oo).mono (lr _) g2⟩
def yi{way:Nat->Nat->Prop}{told:Nat->Prop}(h:SE way told i m)(hj:j<=m):SE way told i j:=⟨h.1,λx hx=>h.2 x oo⟩
def od{A:List dB}(h1:Is W1 v1 A)(e1:aB W1 w)(hn:n<=60)(hA:∀ a∈A,(0<=a.fr/\a.fr<n)/\0<=a.to/\a.to<n)(hl:A.length<=2000) :
   aJ tp 98 [iV n,v1] w λr w'=>aB w w'/\eG w.heap.size w' r ((WK n (RP (eD n A))).map bN):=by
 refine co (g:=kf [(16,590295810083827747840,[10])] [(7,10384593717069655257060992591347488,[5,8]),(9,10384593717069655257060992390020896,[5,8,9]),(13,590295810083827747840,[10,11]),(19,40564819202580974365024857370624,[12,13])] []) Tryz.func98 ?_;refine pR (α:=List Int) vR dT λa8 _ gj _=>(I5 h1 (e1.trans gj) hn hA hl).mM λ_ gI=>dG<|bW (λh=>by cases h) λ_=>(K8 h1 ((e1.trans gj).trans gI) hn hA hl).mono ?_;rintro _ w1 ⟨gV,gW⟩;have M:=gW.is;have hWl:(vF (eD n A) n).length=n:=Ug;have O:∀i(h:i<(vF (eD n A) n).length),((vF (eD n A) n)[i]).length=n:=λi h=>by rw[Bn,dZ]
 have gg:∀i(h:i<(vF (eD n A) n).length) x(hx:x<((vF (eD n A) n)[i]).length),((vF (eD n A) n)[i])[x]=true↔RP (eD n A) i x:=λi h x hx=>V4 h hx;have gJ:∀i j k,RP (eD n A) i j->RP (eD n A) j k->RP (eD n A) i k:=λ_ _ _=>RP.trans;generalize vF (eD n A) n=ws at *;generalize RP (eD n A)=way at *;have g0:=(gj.t gI).trans gV;have gX:=g0.size;refine SX (α:=Bool) eY cE rfl rfl Vl oo oo λwQ9 gK gY=>?_;have gZ:=gK.size;generalize htv:(Value.slice (some ⟨w1.heap.size,0,none⟩) n n)=tv at *;have gL:=gY.own;rw[show List.replicate n (aV.zv:Bool)=cZ n λ_=>False from XL n λ_=>id]at gL
 have h4:tY n (λ_=>False)=n:=by
   unfold tY cC;rw[List.filter_eq_self.2 (λa _=>by simp),KJ]
 refine bV n (λk us w'=>∃out f told L lo hi,us=[out,iV ((tY n told:Nat):Int)]/\f+k=n/\tY n told<=f/\WK n way=L++zE n way f told/\L.length=k/\Whole way told/\aB w1 w'/\aK w1.heap.size wQ9.heap.size w' tv (cZ n told)/\wQ9.heap.size<=lo/\lo<=w'.heap.size/\hi<=w'.heap.size/\bQ lo hi 31 w' out (L.map bN)) 0 (z0 _) ⟨.slice (some a8) 0 0,n,λ_=>False,[],wQ9.heap.size,wQ9.heap.size,by rw[h4],rfl,Qq,rfl,rfl,Whole.start,gK,gL,lr _,iD _,lr _,AY _ _ _ _ _⟩ ?_;rintro k mk _ w2 _ ⟨out,f,told,L,lo,hi,hq,_,h5,gl,h6,gM,g1,gn,gN,_,_,gO⟩;obtain⟨h8,h9⟩:=dQ hq;rw[h8,h9];have hs2:=g1.size;refine oN<|br (λ_=>?_) λ_=>?_
 case refine_2=>rw[Tn (wz oo),oJ]at gl;rw[gl];exact⟨xx,gO.own.own.mono oo⟩
 obtain⟨i1,ha⟩:=xc (told:=told) gJ (show 0<tY n told by omega);refine bV n (λi us w'=>w'=w2/\i<=n/\us=[out,iV ((tY n told:Nat):Int),iV i]/\∀j,j<i->¬vJ n way told j) 0 (z0 _) ⟨rfl,z0 _,rfl,λj hj=>oo⟩ ?_;rintro i mi _ w3 _ ⟨rfl,_,hc,gp⟩;obtain⟨gq,gr,gs⟩:=Gr hc;rw[gq,gr,gs];refine bM<|br (λ_=>?_) λ_=>?_
 case refine_2=>have h:=WM ha;exact absurd h (gp i1 (by have:=h.1;omega))
 have gP:i<n:=oo;have hTl:(cZ n told).length=n:=dZ
 have gQ:∀x(hx:x<(cZ n told).length),(cZ n told)[x]=true↔told x:=λx hx=>by
   rw[<-kS hx,lY];exact⟨λh=>h.2,λh=>⟨oo,h⟩⟩
 refine bC (i:=i) eY cE gn.is oo λ_ _ hd=>iY cE hd xx<|dG<|dJ.mk (λus w'=>w'=w3/\∃b,us=[.bool b]/\(b=true↔vJ n way told i)) ?_ ?_
 ·refine bV n (λj us w'=>w'=w3/\j<=n/\∃b,us=[.bool b,iV j]/\(b=true↔SE way told i j)) 0 (z0 _) ⟨rfl,z0 _,_,rfl,?_⟩ ?_
  ·rw[xX,<-WZ,gQ];exact⟨λh=>⟨h,λx hx=>oo⟩,λh=>h.1⟩
  rintro j mj _ w4 he ⟨rfl,hg,b,gt,hb⟩;obtain⟨g2,g3⟩:=dQ gt;rw[g2,g3];refine bM<|br (λgx=>?_) λgy=>?_
  case refine_2=>
    have gz:j=n:=oo;rw[gz]at hb;exact⟨rfl,b,rfl,hb.trans (Rr gP)⟩
  have hj:j<n:=oo;refine bW (λht=>?_) λhf=>?_
  case refine_2=>refine⟨rfl,b,rfl,?_⟩;rw[hf];refine⟨(λh=>by cases h),λh=>?_⟩;have:=hb.2 (yi ((Rr gP).2 h) oo);rw[hf]at this;cases this
  have hK:=hb.1 ht;have D:=ii (way:=way) (told:=told) (i:=i) (j:=j);refine PZ (i:=i) (j:=j) M g1 oo (by rw[O];omega) ?_;have g4:=gg i oo j (by rw[O];omega);refine dG<|bW (λg5=>?_) λgh=>?_
  ·rw[xX,<-WZ,g4]at g5;refine aU<|⟨mj-1,oo,j+1,oo,rfl,oo,true,rfl,⟨λ_=>D.2 ⟨hK,λh=>absurd h g5⟩,λ_=>rfl⟩⟩
  rw[WR,g4]at gh;refine PZ (i:=j) (j:=i) M g1 oo (by rw[O];omega) ?_;have g9:=gg j oo i (by rw[O];omega);refine bW (λgA=>?_) λgb=>?_
  ·refine aU ?_;exact⟨mj-1,oo,j+1,oo,rfl,oo,true,rfl,⟨λ_=>D.2 ⟨hK,λ_=>.inl (g9.1 gA)⟩,λ_=>rfl⟩⟩
  have gB:¬way j i:=λh=>by rw[g9.2 h]at gb;cases gb
  refine bC (i:=j) eY cE gn.is oo λ_ _ hh=>iY cE hh xx<|aU<|⟨mj-1,oo,j+1,oo,rfl,oo,_,rfl,?_⟩;rw[gQ,D];exact⟨λh=>⟨hK,λ_=>.inr h⟩,λh=>(h.2 gh).resolve_left gB⟩
 rintro _ w4 ⟨rfl,b,Z,hb⟩;try replace Z:=cJ Z
 rw[Z];refine dG<|bW (λgR=>?_) λhk=>?_
 ·have gC:¬vJ n way told i:=λh=>by rw[hb.2 h]at gR;cases gR
  refine aU<|⟨mi-1,oo,i+1,oo,rfl,oo,rfl,λj hj=>?_⟩;rcases FA (FD.1 hj)with h|rfl
  ·exact gp j h
  exact gC
 have gS:vJ n way told i:=hb.1 (by simpa using hk);obtain⟨f',hr,gE,_⟩:=u0 h5 (Kv gS gp);have gT:=qs (n:=n) gM gS.2.1;refine pR (α:=Int) bG aG λa9 w5 gi _=>?_;have hs5:=gi.size
 have gF:CI w1 wQ9 w5 w5 tv out (.slice (some a9) 0 0) (cZ n (EB way told i 0)) lo hi (L.map bN) (bN (cC 0 (kY way i))):=
   ⟨xx,by rw[<-zxe];exact gn.ext gi,gZ,gN,oo,lr _,oo,gO.ext gi,AY _ _ _ _ _⟩
 refine bV n (λj us w'=>∃lv,us=[lv,iV j]/\j<=n/\CI w1 wQ9 w5 w' tv out lv (cZ n (EB way told i j)) lo hi (L.map bN) (bN (cC j (kY way i)))) 0 (z0 _) ⟨_,rfl,z0 _,gF⟩ ?_;rintro j mj _ w6 he ⟨lv,gG,hg,C⟩;obtain⟨gc,gd⟩:=dQ gG;rw[gc,gd];have hsl:(cC j (kY way i)).length<=j:=pC;refine bM<|br (λgx=>?_) λgy=>?_
 ·have hj:j<n:=oo;refine bI<|br (λ_=>?_) λgU=>?_
  ·have hp:kY way i j:=.inl oo;refine C.push (by rw[dZ];exact hj) oo (by rw[cB];omega) λv' w' gf=>?_;rw[Wg hj hp,show bN (cC j (kY way i))++[(j:Int)]=bN (cC (j+1) (kY way i)) by rw[AS hp,HG];rfl]at gf;refine aU<|⟨mj-1,oo,j+1,oo,v',rfl,oo,gf⟩
  have V:¬kY way i j->∃m',m'<mj/\∃k',k'+m'=n/\∃lv',[lv,Value.int .i64 ((j+1:Nat):Int)]=[lv',iV k']/\k'<=n/\CI w1 wQ9 w5 w6 tv out lv' (cZ n (EB way told i k')) lo hi (L.map bN) (bN (cC k' (kY way i))):=λhp=>by
    rw[wu hp,<-xU hp]at C;exact⟨mj-1,oo,j+1,oo,lv,rfl,oo,C⟩
  refine PZ (i:=i) (j:=j) M C.ext oo (by rw[O];omega) ?_;have g4:=gg i oo j (by rw[O];omega);refine XQ (λgh=>?_) λg5=>?_
  ·refine PZ (i:=j) (j:=i) M C.ext oo (by rw[O];omega) ?_;have g9:=gg j oo i (by rw[O];omega);refine bW (λgA=>?_) λgb=>?_
   ·have hp:kY way i j:=.inr ⟨g4.1 gh,g9.1 gA⟩;refine C.push (by rw[dZ];exact hj) oo (by rw[cB];omega) λv' w' gf=>?_;rw[Wg hj hp,show bN (cC j (kY way i))++[(j:Int)]=bN (cC (j+1) (kY way i)) by rw[AS hp,HG];rfl]at gf;refine aU<|⟨mj-1,oo,j+1,oo,v',rfl,oo,gf⟩
   refine aU<|V λhp=>?_;rcases hp with h|h
   ·exact gU oo
   rw[g9.2 h.2]at gb;cases gb
  refine aU<|V λhp=>?_;rcases hp with h|h
  ·exact gU oo
  rw[g4.2 h.1]at g5;cases g5
 have gz:j=n:=oo;rw[gz,yf]at C;have hsn:(cC n (kY way i)).length<=n:=pC;have hc4:=C.s4;refine aX bG C.row.is<|kQ (by rw[cB];unfold bR;omega)<|oS (lo2:=w5.heap.size) (hi2:=w6.heap.size) (x:=bN (cC n (kY way i))) vR dT Av Cj dD C.out oo C.row.own oo oo (by rw[eB,kL];omega) (by rw[kL];omega) λhs w9 gH hu=>?_;have hs9:=gH.size;refine⟨mk-1,oo,k+1,oo,hs,f',AT way told i,L++[cC n (kY way i)],lo,w9.heap.size,?_,oo,gE,by rw[gl,hr,fR];rfl,by simp[h6],gM.more gJ,C.ext.xI gH oo,C.told.chg gH oo,gN,oo,lr _,?_⟩
 ·have:((tY n told:Nat):Int)-(((bN (cC n (kY way i))).length:Nat):Int)=((tY n (AT way told i):Nat):Int):=by rw[cB];omega
  rw[this]
 rw[wJ];exact hu
def mu{A:List dB}(h1:Is W1 v1 A)(e1:aB W1 w)(hn:n<=60)(hA:∀ a∈A,(0<=a.fr/\a.fr<n)/\0<=a.to/\a.to<n)(hl:A.length<=2000) :
   aJ tp 166 [iV n,v1] w λr w'=>aB w w'/\r=.bool true:=by
 refine co (g:=kf [] [(4,35184371040336,[20])] []) Tryz.func166 ?_;refine bM<|br (λh=>oo) λ_=>?_;refine oN<|br (λh=>oo) λ_=>?_;refine aX uI h1<|oN<|br (λh=>oo) λ_=>?_;refine aX uI h1<|bV A.length (λk us w'=>us=[iV k]/\k<=A.length/\aB w w') 0 (z0 _) ⟨rfl,z0 _,xx⟩ ?_;rintro k mk _ _ _ ⟨hq,_,g0⟩;try replace hq:=cJ hq
 rw[hq];refine bM<|br (λ_=>?_) λ_=>?_
 case refine_2=>exact⟨g0,rfl⟩
 have hk:k<A.length:=oo;obtain⟨⟨_,_⟩,_,_⟩:=hA _ (cY hk);refine bC uI rO h1 hk λ_ _ g2=>aL rO g2 (e1.trans g0) λ_ g3=>mB Al rfl rO rfl g3 (e1.trans g0) λ_ g4 g1 _=>aE XA<|aS aG (UV g1) xx λ_=>bM<|br (λh=>oo) λ_=>?_;refine aE XA<|aS aG (UV g1) xx λ_=>pD<|br (λh=>oo) λ_=>?_;refine aE WE<|aS aG (VJ g1) xx λ_=>bM<|br (λh=>oo) λ_=>?_;refine aE WE<|aS aG (VJ g1) xx λ_=>pD<|br (λh=>oo) λ_=>?_;refine aU<|⟨mk-1,oo,k+1,oo,rfl,oo,xx⟩
def ul{A:List dB}{p:List Nat}(h1:Is W1 v1 A)(e1:aB W1 w)(h2:Is W2 v2 (bN p))(e2:aB W2 w)(hn:n<=60)(hA:∀ a∈A,(0<=a.fr/\a.fr<n)/\0<=a.to/\a.to<n)(hl:A.length<=2000)(hp:∀ x∈p,x<n)(hpl:p.length<=60) :
   aJ tp 88 [iV n,v1,v2] w λr w'=>aB w w'/\∃b,r=.bool b/\(b=true↔zM (eD n A) p):=by
 refine co (g:=kf [] [(5,4398045987392,[19])] []) Tryz.func88 ?_;refine(mu h1 e1 hn hA hl).mM λ_ g0=>dG<|bW (λh=>by cases h) λ_=>(Ww h1 (e1.trans g0) hn hA hl).mono ?_;rintro _ w2 ⟨g1,gb⟩;have g2:=gb.is;refine aX bG h2 ?_;rw[cB];refine bV p.length (λk us w'=>us=[iV k]/\k<=p.length/\aB w2 w'/\∀x∈p.take k,¬RP (eD n A) x x) 0 (z0 _) ⟨rfl,z0 _,xx,ss⟩ ?_;rintro k mk _ _ _ ⟨hq,_,C,g3⟩;try replace hq:=cJ hq
 rw[hq];refine bM<|br (λ_=>?_) λ_=>?_
 case refine_2=>
   have gc:k=p.length:=oo;rw[gc,sF]at g3;exact⟨(g0.t g1).trans C,false,rfl,(λh=>by cases h),λ⟨x,hx,hr⟩=>absurd hr (g3 x hx)⟩
 have hk:k<p.length:=oo;have g4:=hp _ (cY hk);refine bC (i:=k) bG aG h2 (by rw[cB];exact hk) λ_ _ g5=>?_;rw[nI]at g5;refine aS aG g5 (((e2.trans g0).trans g1).trans C) λ_=>pD<|br (λ_=>?_) (λh=>oo);refine bM<|br (λ_=>?_) (λh=>oo);refine Ej (i:=p[k]) g2 C (by rw[Uw];exact g4) ?_;rw[L3];have g9:eM (RP (eD n A) p[k]) n<4611686018427387904:=DV hn;refine sN kK sR oo<|TF g9<|SK (n:=1) (uU (VS _ _) g9) oo<|bI<|br (λhb=>?_) λhb=>?_
 ·rw[DG,nW]at hb;exact⟨(g0.t g1).trans C,true,rfl,λ_=>⟨_,cY hk,hb.2⟩,λ_=>rfl⟩
 refine aU<|⟨mk-1,oo,k+1,oo,rfl,oo,C,λx hx=>?_⟩;rw[tk hk]at hx;rcases dF.1 hx with hx|hx
 ·exact g3 x hx
 simp only[oY]at hx;subst hx;exactλh=>hb (by rw[DG,nW];exact⟨g4,h⟩)
def sb{A:List dB}{p:List Nat}(h1:Is W1 v1 A)(e1:aB W1 w)(h2:Is W2 v2 (bN p))(e2:aB W2 w)(hn:n<=60)(hA:∀ a∈A,(0<=a.fr/\a.fr<n)/\0<=a.to/\a.to<n)(hl:A.length<=2000)(hp:∀ x∈p,x<n)(hpl:p.length<=60) :
   aJ tp 99 [iV n,v1,v2] w λr w'=>aB w w'/\∃b,r=.bool b/\(b=true↔zM (eD n A) p):=by
 refine co (g:=kf [] [(5,17592185979200,[8])] [(7,[0,1,2,3,4,5,6,7,8,9,10,11,12,13,14,15,16,17,18,19,20,21],0)]) Tryz.func99 ?_;refine(I5 h1 e1 hn hA hl).mM λ_ g0=>dG<|bW (λh=>by cases h) λ_=>(K8 h1 (e1.trans g0) hn hA hl).mono ?_;rintro _ w2 ⟨g1,gf⟩;have g2:=gf.is;refine bV p.length (λk us w'=>us=[iV k]/\k<=p.length/\aB w2 w'/\∀x∈p.take k,¬RP (eD n A) x x) 0 (z0 _) ⟨rfl,z0 _,xx,ss⟩ ?_;rintro k mk _ w3 _ ⟨hq,_,g4,g3⟩;try replace hq:=cJ hq
 rw[hq];refine aX bG h2 ?_;rw[cB];refine bM<|br (λ_=>?_) λ_=>?_
 case refine_2=>
   have gg:k=p.length:=oo;rw[gg,sF]at g3;exact⟨(g0.t g1).trans g4,false,rfl,(λh=>by cases h),λ⟨x,hx,hr⟩=>absurd hr (g3 x hx)⟩
 have hk:k<p.length:=oo;have g5:=hp _ (cY hk);have gh:=cO w3;generalize World.drew1 w3=w4 at *;have D:=g4.t gh;have e4:=((e2.trans g0).trans g1).trans D;refine bC (i:=k) bG aG h2 (by rw[cB];exact hk) λ_ _ g9=>?_;rw[nI]at g9;refine aS aG g9 e4 λ_=>kQ io<|eS.mM λ_ C=>br (λ_=>?_) (λh=>absurd ⟨oo,oo⟩ h);refine bC (i:=k) bG aG h2 (by rw[cB];exact hk) λ_ _ gb=>?_;rw[nI]at gb;refine aS aG gb (e4.trans C) λ_=>?_;have hi:p[k]<(vF (eD n A) n).length:=by rw[Ug];exact g5
 refine bC (i:=p[k]) CG lT g2 hi λ_ _ gi=>aL lT gi xx λ_ h7=>bC (i:=k) bG aG h2 (by rw[cB];exact hk) λ_ _ gc=>?_;rw[nI]at gc;refine aS aG gc (e4.trans C) λ_=>?_;have hj:p[k]<((vF (eD n A) n)[p[k]]).length:=by rw[Bn,dZ];exact g5
 refine bC (i:=p[k]) eY cE h7 hj λ_ _ gj=>iY cE gj xx ?_;have gd:=V4 hi hj;refine bW (λhb=>?_) λhb=>?_
 ·exact⟨((g0.t g1).trans D).trans C,true,rfl,λ_=>⟨_,cY hk,gd.1 hb⟩,λ_=>rfl⟩
 refine aU<|⟨mk-1,oo,k+1,oo,rfl,oo,xx,λx hx=>?_⟩;rw[tk hk]at hx;rcases dF.1 hx with hx|hx
 ·exact g3 x hx
 simp only[oY]at hx;subst hx;exactλh=>by rw[gd.2 h]at hb;cases hb
open Go.Sort
variable {F:List Nat}{N b g hi i k lo n q:Nat}{W W0 W1 w w' w0:wD}{c:aF}{s:ByteArray}{v v0 v1:vL}{x:aR}
def kZ(l:List Int):Int:=l.headD 0
theorem Nn{w:wD}:∀{l:List (List Int)}{F:List Nat}{xs:List vL},aO F w xs l->∃Z:List (List Nat×vL×List Int),F=Z.flatMap (·.1)/\xs=Z.map (·.2.1)/\l=Z.map (·.2.2)/\∀z∈Z,rep z.1 w [z.2.1] z.2.2
 |[],_,_,⟨h1,h2⟩=>⟨[],h1,h2,rfl,ss⟩
 | y :: ys,_,_,⟨F1,F2,c1,c2,hF,hx,h1,h2⟩=>by
   obtain⟨Z,e1,e2,e3,e4⟩:=Nn h2;obtain⟨v,rfl⟩:∃v,c1=[v]:=IR.1 (Rep.len h1);refine⟨(F1,v,y) :: Z,by simp[hF,e1],by simp[hx,e2],by simp[e3],λz hz=>?_⟩;rcases bF.1 hz with rfl|hz
   ·exact h1
   exact e4 z hz
theorem B5{w:wD}:∀{Z:List (List Nat×vL×List Int)},(∀z∈Z,rep z.1 w [z.2.1] z.2.2)->aO (Z.flatMap (·.1)) w (Z.map (·.2.1)) (Z.map (·.2.2))
 |[],_=>⟨rfl,rfl⟩
 |z :: Z,h=>⟨z.1,Z.flatMap (·.1),[z.2.1],Z.map (·.2.1),ss,ss,h z ss,B5 λy hy=>h y (by simp[hy])⟩
theorem Ll{l:List Int}(h:l≠[]):kZ l=l[0]'(NL.2 h):=by
 cases l with
 |nil=>exact absurd rfl h
 |cons x l=>rfl
def mw{x y:vL}{a b:List Int}(hx:Is w x a)(hy:Is w y b)(ha:a≠[])(hb:b≠[])(h1:0<=kZ a/\kZ a<1000)(h2:0<=kZ b/\kZ b<1000) :
   aJ tp 90 [x,y] w λr w'=>r=iV (kZ a-kZ b)/\NV w w':=by
 refine co (g:=kf [] [] [(1,[0,1,2,3,4,5,6,7],0)]) Tryz.func90 ?_;have hg:NV w (World.drew1 w):=⟨1,#[],by simp only[Go.Sort.grow,World.drewN,World.drew1,Array.append_empty]⟩;have g0:=cO w;generalize World.drew1 w=w1 at *;have e1:=Ll ha;have e2:=Ll hb;refine bC (i:=0) bG aG hx (NL.2 ha) λ_ _ g1=>aS aG g1 g0 λ_=>bC (i:=0) bG aG hy (NL.2 hb) λ_ _ g2=>aS aG g2 g0 λ_=>?_;rw[<-e1,<-e2];refine kQ io<|⟨rfl,hg⟩
set_option maxHeartbeats 4000000 in
theorem tr{cs:List (List Int)}(h:aK lo hi w v cs)(hn:cs.length<=1000)(g0:∀ c∈cs,c≠[])(hb:∀ c∈cs,0<=kZ c/\kZ c<1000)(hd:cs.Pairwise λa b=>kZ a≠kZ b) :
    aJ tp 89 [v,.func (.func 90) #[] #[]] w λ_ w'=>aN lo hi w w'/\∃cs':List (List Int),aK lo hi w' v cs'/\cs'.Perm cs/\cs'.Pairwise λa b=>kZ a<kZ b:=by
  obtain⟨F,hM,hF⟩:=h;by_cases hne0:cs=[]
  ·subst hne0
   obtain⟨a,cap,hv⟩:∃a cap,v=.slice a 0 cap:=by
     obtain⟨cs,⟨a,cap,_,xs,h,_⟩,hv⟩:=hM.own;exact⟨a,cap,by rw[hv,h];rfl⟩
   subst hv;refine⟨(AnyF.slices_SortFunc_none { Tryz.sortInts with } a cap _ w).mono ?_⟩;rintro e w' ⟨he,rfl⟩;exact⟨_,he,aN.refl _,[],⟨F,hM,hF⟩,.refl _,.nil⟩
  obtain⟨⟨_,⟨a,cap,_,xs,rfl,h1,h2,hc,h4⟩,rfl⟩,g4,hw⟩:=hM;rcases h4 with⟨h4,_⟩|⟨b,o,rfl,rfl,hr,_⟩
  ·exact absurd h4 hne0
  obtain⟨Z,rfl,rfl,rfl,hZ⟩:=Nn hc;obtain⟨c,e,gb⟩:=hw b ss;have gr:∀z∈Z,b∉z.1:=λz hz hm=>(tZ.1 g4).1 (wM.2 ⟨z,hz,hm⟩);have hnZ:Z.length<=1000:=by simpa using hn
  have gz:0<Z.length:=by
    rcases Af Z.length with h|h
    ·exact absurd (by rw[qC h];rfl) hne0
    exact h
  haveI:Inhabited (Fin Z.length):=⟨⟨0,gz⟩⟩
  obtain⟨enc,C⟩:∃enc:Fin Z.length->vL,enc=λi=>Z[i].2.1:=⟨_,rfl⟩;obtain⟨cf,gs⟩:∃cf:Fin Z.length->Fin Z.length->Int,cf=λi j=>kZ Z[i].2.2-kZ Z[j].2.2:=⟨_,rfl⟩;obtain⟨d,gc⟩:∃d:Array (Fin Z.length),d=(List.finRange Z.length).toArray:=⟨_,rfl⟩;have g2:d.size=Z.length:=by rw[gc];simp
  have gd:(List.finRange Z.length).map (λi=>Z[i])=Z:=wE ss λi h1 h2=>by simp
  have gA:∀j(hj:j<Z.length),d[j]! = ⟨j,hj⟩:=λj hj=>by
    rw[getElem!_pos d j (by rw[g2];exact hj)];simp[gc]
  have gf:OneCell enc:=λi=>by
    have h:=Rep.one (hZ _ (cY i.2)) Z[i.1].2.1 ss;rw[C];exact h
  have gt:Holds enc w b o d:=λj hj=>by
    rw[g2]at hj;rw[gA j hj];refine⟨hr j _ ?_,?_⟩
    ·rw[C,List.getElem?_map,List.getElem?_eq_getElem hj];rfl
    simp[World.frozen?,gb]
  have D:∀i:Fin Z.length,Z[i].2.2∈Z.map (·.2.2):=λi=>sT.2 ⟨_,cY _,rfl⟩
  have gg:∀i j:Fin Z.length,kZ Z[i].2.2=kZ Z[j].2.2->i=j:=λi j gx=>by
    rw[IB,Dc]at hd;rcases XB i.1 j.1 with h|h|h
    ·exact absurd gx (hd i.1 j.1 i.2 j.2 h)
    ·exact Fin.ext h
    exact absurd gx.symm (hd j.1 i.1 j.2 i.2 h)
  have O:∀i j,ltOf cf i j=decide (kZ Z[i].2.2<kZ Z[j].2.2):=λi j=>by
    unfold ltOf;rw[gs,decide_eq_decide];show kZ Z[i].2.2-kZ Z[j].2.2<0↔_;omega
  have gh:SWO (ltOf cf):=by
    refine⟨λx=>?_,λx y z h k=>?_,λx y z h k=>?_⟩
    ·rw[O,decide_eq_false_iff_not];omega
    ·rw[O,lZ]at *;omega
    rw[O,decide_eq_false_iff_not]at *;omega
  have gi:b<w.heap.size:=(Array.getElem?_eq_some_iff.1 gb).1
  have V:∀(m:Nat)(dk:Array (Fin Z.length))(os:Array Obj) i,i<w.heap.size->i≠b->(sortWorld enc w b o m dk os).heap[i]?=w.heap[i]?:=λm dk os i hi g0=>by
    unfold sortWorld;rw[heap_grow_old _ _ (by simpa[putRow,mapBlock,Sort.ahead]using hi)];simp[putRow,mapBlock,Sort.ahead,Array.getElem?_modify,g0.symm]
  have g3:∀(m:Nat)(dk:Array (Fin Z.length))(os:Array Obj),∀z∈Z,rep z.1 (sortWorld enc w b o m dk os) [z.2.1] z.2.2:=λm dk os z hz=>
    Rep.keep (hZ z hz) λi hi=>V m dk os i (Rep.lt (hZ z hz) i hi) λe=>gr z hz (e▸hi)
  have gj:CmpLays1 tp 90 #[] enc cf b o d.size w:=λm os dk _ i j=>by
    have hI:∀k:Fin Z.length,Is (sortWorld enc w b o m dk os) (enc k) Z[k].2.2:=λk=>⟨_,_,g3 m dk os _ (cY k.2),by rw[C];rfl⟩;obtain⟨h⟩:=mw (hI i) (hI j) (g0 _ (D i)) (g0 _ (D j)) (hb _ (D i)) (hb _ (D j));refine h.mono ?_;rintro e w' ⟨v,he,hv,q,gB,g5⟩;exact⟨by rw[he,hv,gs],q,gB,g5⟩
  have gl:(Z.map (·.2.2)).length=d.size:=by rw[g2,kL]
  show aJ tp 89 [.slice (some ⟨b,o,none⟩) (Z.map (·.2.2)).length cap,_] w _;rw[gl]
  refine⟨(Any.slices_SortFunc_total Tryz.sortInts enc gf cf gh 90 #[] b o cap d w (XM (ent 90 dD kK)) gj gt gi oo (λx y h k=>by
      rw[O,decide_eq_false_iff_not]at *;exact gg x y oo)).mono ?_⟩
  rintro _ w' ⟨he,n,os,g5⟩;generalize hd':(d.toList.mergeSort λx y=>!(ltOf cf) y x)=d' at g5
  have M:d'.Perm (List.finRange Z.length):=by
    rw[<-hd',gc];exact Jt _ _
  have gn:d'.Pairwise λi j=>¬kZ Z[j].2.2<kZ Z[i].2.2:=by
    rw[<-hd']
    have:=Nh (le:=λx y=>!(ltOf cf) y x) (λa b c h1 h2=>by
      simp only[O,xX,decide_eq_false_iff_not]at *;omega) (λa b=>by
      simp only[O,vB,xX,decide_eq_false_iff_not];omega) d.toList
    exact this.imp λh=>by simpa[O]using h
  have g1:(d'.map λi=>Z[i]).Perm Z:=by
    have:=M.map λi=>Z[i];rwa[gd]at this
  have gC:d'.length=Z.length:=by rw[M.length_eq];simp
  subst g5
  have gp:w.heap.size<=(sortWorld enc w b o n d'.toArray os).heap.size:=by
    unfold sortWorld Go.Sort.grow;rw[RN];simp[putRow,mapBlock,Sort.ahead]
  have gD:∃c',(sortWorld enc w b o n d'.toArray os).heap[b]?=some (.cells c' e (0,0)):=by
    unfold sortWorld;rw[heap_grow_old _ _ (by simpa[putRow,mapBlock,Sort.ahead]using gi)];exact⟨_,by simp[putRow,mapBlock,Sort.ahead,Array.getElem?_modify,gb,onCells];rfl⟩
  have gq:cH [b] w (sortWorld enc w b o n d'.toArray os):=⟨rfl,rfl,rfl,gp,λi hi hm=>V _ _ _ i hi λe=>hm (by simp[e])⟩;generalize hZ':(d'.map λi=>Z[i])=Z' at *;have gE:∀z∈Z',z∈Z:=λz hz=>g1.mem_iff.1 hz;have g9:(Z'.flatMap (·.1)).Perm (Z.flatMap (·.1)):=g1.flatMap_right _;have gF:Z'.map (·.2.1)=d'.map enc:=by rw[<-hZ',C,List.map_map];rfl
  refine⟨_,he,?_,Z'.map (·.2.2),⟨b :: Z'.flatMap (·.1),⟨⟨_,⟨some ⟨b,o,none⟩,cap,Z'.flatMap (·.1),Z'.map (·.2.1),rfl,?_,h2,B5 λz hz=>g3 _ _ _ z (gE z hz),.inr ⟨b,o,rfl,rfl,?_,oo⟩⟩,?_⟩,?_,?_⟩,?_⟩,g1.map _,?_⟩
  ·exact gq.toI λi hi=>hF i (by simp only[bF,dL,dI]at hi;simp[hi])
  ·have:=g1.length_eq;simp only[kL]at h1 ⊢;omega
  ·rw[gF];intro j v hv
   have hj:j<d'.length:=by
     have:=(List.getElem?_eq_some_iff.1 hv).1;simpa using this
   have:=cell?_putRow enc (Sort.ahead w n) b o d d'.toArray gt (by simp[g2,gC]) j (by simpa using hj);unfold sortWorld;rw[cell?_grow _ _ _ (by simpa[putRow,mapBlock,Sort.ahead]using gi),this];rw[List.getElem?_map,List.getElem?_eq_getElem hj]at hv;rw[getElem!_pos d'.toArray j (by simpa using hj)];simpa using hv
  ·have:=g1.length_eq;simp only[fF,Rep.agg,cond_false,EM,kL,g2,this]
  ·rw[tZ]at g4 ⊢;exact⟨λh=>g4.1 (g9.mem_iff.1 h),(g9.nodup_iff).2 g4.2⟩
  ·intro i hi;rcases bF.1 hi with rfl|hi
   ·obtain⟨c',gG⟩:=gD;exact⟨c',e,gG⟩
   have gy:=g9.mem_iff.1 hi;obtain⟨z,hz,gH⟩:=wM.1 gy;have g0:i≠b:=λe=>gr z hz (e▸gH);obtain⟨c',e',h'⟩:=hw i (by simp[gy]);exact⟨c',e',by rw[V _ _ _ i (Array.getElem?_eq_some_iff.1 h').1 g0];exact h'⟩
  ·intro i hi;rcases bF.1 hi with rfl|hi
   ·exact hF _ ss
   exact hF i (by simp[g9.mem_iff.1 hi])
  have gI:Z'.Pairwise λx y=>¬kZ y.2.2<kZ x.2.2:=by
    rw[<-hZ',IB];exact gn
  have gJ:Z'.Pairwise λx y=>kZ x.2.2≠kZ y.2.2:=by
    rw[IB]at hd;exact g1.symm.pairwise hd λh e=>h e.symm
  rw[IB];exact(Yo.2 ⟨gI,gJ⟩).imp λh=>by have:=h.1;have:=h.2;omega
def xW(x:bK):dB:=⟨x.fr,x.to⟩
def HK(a b:dB):Prop:=a.fr<b.fr\/(a.fr=b.fr/\a.to<b.to)
structure iZ(L:List bK)(A:List dB):Prop where
 mem:∀a,a∈A↔∃x∈L,a=xW x
 pw:A.Pairwise HK
section
variable {L:List bK}{A:List dB}{x:bK}
def iZ.start:iZ [] []:=⟨ss,.nil⟩
def iZ.le(h:iZ L A)(hs:(L++[x]).Pairwise oW):∀a∈A,a=xW x\/HK a (xW x):=λa ha=>by
 obtain⟨y,hy,rfl⟩:=(h.mem a).1 ha;have:=(ZC.1 hs).2.2 y hy x ss;unfold oW at this;unfold HK xW;rcases this with h1|⟨h1,h2|⟨h2,_⟩⟩
 ·exact .inr (.inl h1)
 ·exact .inr (.inr ⟨h1,h2⟩)
 exact .inl (dB.ext_iff.2 ⟨h1,h2⟩)
def iZ.old(h:iZ L A)(hm:xW x∈A):iZ (L++[x]) A:=⟨λa=>by
 rw[h.mem];constructor
 ·rintro⟨y,hy,e⟩;exact⟨y,by simp[hy],e⟩
 rintro⟨y,hy,rfl⟩;rcases dF.1 hy with hy|hy
 ·exact⟨y,hy,rfl⟩
 simp only[oY]at hy;subst hy;exact(h.mem _).1 hm,h.pw⟩
def iZ.new(h:iZ L A)(hs:(L++[x]).Pairwise oW)(hm:xW x∉A):iZ (L++[x]) (A++[xW x]):=⟨λa=>by
 simp only[dF,oY,h.mem];constructor
 ·rintro(⟨y,hy,e⟩|rfl)
  ·exact⟨y,.inl hy,e⟩
  exact⟨x,.inr rfl,rfl⟩
 ·rintro⟨y,hy|rfl,rfl⟩
  ·exact .inl ⟨y,hy,rfl⟩
  exact .inr rfl,ZC.2 ⟨h.pw,ss,λa ha b hb=>by
 simp only[oY]at hb;subst hb;rcases h.le hs a ha with rfl|h1
 ·exact absurd ha hm
 exact h1⟩⟩
def tb(a:dB):¬HK a a:=by unfold HK;omega
def zA0{a b:dB}(h:HK a b)(k:HK b a):False:=by unfold HK at *;omega
def iZ.last(h:iZ L A)(hs:(L++[x]).Pairwise oW)(hA:0<A.length):A[A.length-1]'(by omega)=xW x↔xW x∈A:=by
 constructor
 ·intro e;rw[<-e];exact cY _
 intro hm;obtain⟨i,hi,e⟩:=List.getElem_of_mem hm;rcases h.le hs _ (cY (by omega:A.length-1<A.length))with h1|h1
 ·exact h1
 exfalso;rcases kR i (A.length-1)with hl|hl
 ·have:=Dc.1 h.pw i (A.length-1) hi oo hl;rw[e]at this;exact zA0 this h1
 have:i=A.length-1:=oo;subst this;rw[e]at h1;exact tb _ h1
end
theorem M8:∀{l:List Nat},l.Pairwise (λa b=>a<b)->(∀x∈l,x<N)->l.length<=N
 | l,h,hb=>by
   have h1:=Dc.1 h
   have:∀i(hi:i<l.length),i<=l[i]:=λi=>by
     induction i with
     |zero=>intro _;exact vS _
     | succ i ih=>
       intro hi;have h2:=ih oo;have h3:=h1 i (i+1) oo hi oo;omega
   rcases Af l.length with h0|h0
   ·omega
   have h2:=this (l.length-1) oo;have h3:=hb _ (cY (by omega:l.length-1<l.length));omega
def Il{A:List dB}(hn:n<=6)(hp:A.Pairwise HK)(hb:∀ a∈A,(0<=a.fr/\a.fr<n)/\0<=a.to/\a.to<n):A.length<=36:=by
 have h1:(A.map λa=>(a.fr*6+a.to).toNat).Pairwise (λa b=>a<b):=by
   rw[IB];refine hp.imp_of_mem λ{a b} ha g0 h=>?_;have h2:=hb a ha;have h3:=hb b g0;unfold HK at h;omega
 have:=M8 (N:=36) h1 λ_ hx=>by
   obtain⟨a,ha,rfl⟩:=sT.1 hx;have:=hb a ha;omega
 simpa using this
noncomputable def uY(c:aF)(i:Nat):List Nat:=cC c.L.length λj=>∃k,tH c i j k
def tH.in(hc:aM c){i j k:Nat}(h:tH c i j k):i<c.L.length/\j<c.L.length:=
 ⟨h.2.2.2.L hc,h.2.2.1▸(yD hc (h.1.lt hc) (.inl h.2.1)).2.1⟩
def Ae(hc:aM c){A:List dB}(h:iZ (iX c) A):eD c.L.length A=uY c:=by
 funext i;refine Ew λj _=>?_;rw[h.mem];constructor
 ·rintro⟨_,_,hx,e⟩;obtain⟨fr,to,k,ho,rfl⟩:=(Ee hc).1 hx;have e1:(i:Int)=fr:=cS dB.fr e;have e2:(j:Int)=to:=cS dB.to e;have e1:=xC.1 e1;have e2:=xC.1 e2;subst e1;subst e2;exact⟨k,ho⟩
 rintro⟨k,ho⟩;exact⟨(ho.in hc).1,LZ i j k,(Ee hc).2 ⟨i,j,k,ho,rfl⟩,rfl⟩
def iZ.rng(hc:aM c){k:Nat}{A:List dB}(h:iZ ((iX c).take k) A):∀a∈A,(0<=a.fr/\a.fr<c.L.length)/\0<=a.to/\a.to<c.L.length:=λa ha=>by
 obtain⟨x,hx,rfl⟩:=(h.mem a).1 ha;obtain⟨fr,to,i,ho,rfl⟩:=(Ee hc).1 (PM hx);have:=ho.in hc;show(0<=(fr:Int)/\(fr:Int)<_)/\0<=(to:Int)/\(to:Int)<_;omega
noncomputable def iI(c:aF):List (List Nat):=WK c.L.length (RP (uY c))
open Classical in
noncomputable def oL(c:aF):List (List Nat):=(List.range c.L.length).flatMap λn=>(iI c).filter λp=>decide (p.head?=some n/\zM (uY c) p)
theorem FF{p:List Nat}:p.head?=some n->kZ (bN p)=n:=by
 cases p with
 |nil=>intro h;cases h
 |cons x l=>intro h;cases h;rfl
theorem p6:∀{l m:List (List Int)},l.Pairwise (λa b=>kZ a<kZ b)->m.Pairwise (λa b=>kZ a<kZ b)->(∀x,x∈l↔x∈m)->l=m
 |[],[],_,_,_=>rfl
 |[],y :: m,_,_,h=>by have:=(h y).2 ss;cases this
 |x :: l,[],_,_,h=>by have:=(h x).1 ss;cases this
 | x :: l,y :: m,h1,h2,h=>by
   rw[AZ]at h1 h2
   have hxy:x=y:=by
     rcases bF.1 ((h x).1 ss)with e|hm
     ·exact e
     rcases bF.1 ((h y).2 ss)with e|hl
     ·exact e.symm
     have:=h1.1 y hl;have:=h2.1 x hm;omega
   subst hxy;congr 1;refine p6 h1.2 h2.2 λz=>⟨λhz=>?_,λhz=>?_⟩
   ·rcases bF.1 ((h z).1 (by simp[hz]))with rfl|h'
    ·have:=h1.1 z hz;omega
    exact h'
   rcases bF.1 ((h z).2 (by simp[hz]))with rfl|h'
   ·have:=h2.1 z hz;omega
   exact h'
def O0:∀p∈iI c,∃i,i<c.L.length/\p=cC c.L.length (kY (RP (uY c)) i):=λp hp=>by
 obtain⟨i,h1,_,h2⟩:=Kn (way:=RP (uY c)) Whole.start (λ_ _ _=>RP.trans) p hp;exact⟨i,h1,h2⟩
def ot(c:aF):(iI c).Pairwise λa b=>∀x∈a,x∉b:=O8 Whole.start λ_ _ _=>RP.trans
def La(c:aF):(iI c).length<=c.L.length:=L2
theorem HB{p:List Nat}(hp:p∈iI c):∃n,p.head?=some n/\n∈p/\n<c.L.length:=by
 obtain⟨i,hi,rfl⟩:=O0 p hp;have g0:=dp (way:=RP (uY c)) hi;cases e:cC c.L.length (kY (RP (uY c)) i)with
 |nil=>exact absurd e g0
 | cons x l=>
   have hx:x∈cC c.L.length (kY (RP (uY c)) i):=by rw[e];simp
   exact⟨x,rfl,ss,(mG.1 hx).1⟩
def VY{p:List Nat}(hp:p∈iI c):p.length<=c.L.length/\∀x∈p,x<c.L.length:=by
 obtain⟨_,_,rfl⟩:=O0 p hp;exact⟨pC,λx hx=>(mG.1 hx).1⟩
def Yz(c:aF):(iI c).Pairwise λa b=>kZ (bN a)≠kZ (bN b):=by
 refine(ot c).imp_of_mem λ{a b} ha hb h e=>?_;obtain⟨n,h1,h2,_⟩:=HB ha;obtain⟨_,k1,k2,_⟩:=HB hb;rw[FF h1,FF k1]at e;have e:=xC.1 e;subst e;exact h n h2 k2
def XJ{p:List Nat}:p∈oL c↔p∈iI c/\zM (uY c) p:=by
 unfold oL;simp only[wM,rC,OG,lZ];constructor
 ·rintro⟨n,_,h1,_,h2⟩;exact⟨h1,h2⟩
 rintro⟨h1,h2⟩;obtain⟨n,h3,_,h4⟩:=HB h1;exact⟨n,h4,h1,h3,h2⟩
def L6(c:aF):(oL c).Pairwise λa b=>kZ (bN a)<kZ (bN b):=by
 unfold oL;refine SM.2 ⟨λn _=>?_,List.pairwise_lt_range.imp ?_⟩
 ·refine((Yz c).filter _).imp_of_mem λ{a b} ha hb h=>?_;have h2:=(OG.1 ha).2;have h3:=(OG.1 hb).2;simp only[lZ]at h2 h3;exact absurd (by rw[FF h2.1,FF h3.1]) h
 intro n _ g0 a ha b hb;have h2:=(OG.1 ha).2;have h3:=(OG.1 hb).2;simp only[lZ]at h2 h3;rw[FF h2.1,FF h3.1];exact Ac.2 g0
def Rn{p:List Nat}(hp:p∈oL c):p.length<=c.L.length/\(∀x∈p,x<c.L.length)/\p≠[]:=by
 have h1:=(XJ.1 hp).1;obtain⟨_,_,h2,_⟩:=HB h1;exact⟨(VY h1).1,(VY h1).2,List.ne_nil_of_mem h2⟩
def lz(c:aF):(oL c).length<=c.L.length:=by
 have h1:=M8 (N:=c.L.length) (l:=(oL c).map λp=>(kZ (bN p)).toNat) (by
   rw[IB];refine(L6 c).imp_of_mem λ{_ _} ha hb h=>?_;obtain⟨n,k1,_,k2⟩:=HB (XJ.1 ha).1;obtain⟨_,j1,_,_⟩:=HB (XJ.1 hb).1;rw[FF k1,FF j1]at h ⊢;omega) λ_ hx=>by
   obtain⟨p,hp,rfl⟩:=sT.1 hx;obtain⟨n,k1,_,k2⟩:=HB (XJ.1 hp).1;rw[FF k1];omega
 simpa using h1
def vy(h1:Is W1 v1 (iX c))(e1:aB W1 w)(hc:aM c) :
   aJ tp 85 [v1] w λr w'=>aB w w'/\∃A,iZ (iX c) A/\eG w.heap.size w' r A:=by
 refine co (g:=kf [] [(3,134217320,[3,9])] []) Tryz.func85 ?_;have hol:=Ur hc;have gb:=hc.1.locks6;refine aX KT h1<|bV (iX c).length (λk us w'=>∃out A,us=[out,iV k]/\k<=(iX c).length/\aB w w'/\bQ w.heap.size w'.heap.size 201 w' out A/\iZ ((iX c).take k) A) 0 (z0 _) ⟨_,[],rfl,z0 _,xx,uC _ _ _ _,by rw[LA];exact iZ.start⟩ ?_;rintro k mk _ _ _ ⟨out,A,hq,_,M,g3,hI⟩;obtain⟨gc,gd⟩:=dQ hq;rw[gc,gd];have hs2:=M.size;refine bM<|br (λ_=>?_) λ_=>?_
 case refine_2=>
   have gf:k=(iX c).length:=oo;rw[gf,sF]at hI;exact⟨M,A,hI,g3.own.own⟩
 have hk:k<(iX c).length:=oo
 have gg:((iX c).take k++[(iX c)[k]]).Pairwise oW:=by
   rw[<-tk hk];exact(Gt c).sublist (Bt _ _)
 have g4:=Il gb hI.pw (hI.rng hc);refine bC KT KV h1 hk λ_ _ gh=>aL KV gh (e1.trans M) λ_ gi=>mB zIj rfl KV rfl gi (e1.trans M) λw3 g5 g0 _=>aE Dz<|aS aG (Rw g0) xx λgj=>aE Ea<|aS aG (J5 g0) xx λgl=>fI (cells:=#[iV (iX c)[k].fr,iV (iX c)[k].to]) kK ?_;have gn:Is w3 (.agg #[iV (iX c)[k].fr,iV (iX c)[k].to]) (xW (iX c)[k]):=TZ.2 ⟨rfl,gj,gl⟩;refine mB Al rfl rO rfl gn xx λ_ g9 g1 _=>aL rO g1 xx λ_ gp=>?_;have g2:=(g3.ext g5).ext g9;refine(wo g2.is xx gp xx).mM λw5 O=>?_;have C:=(g5.t g9).trans O;refine mL<|br (λgq=>?_) λD=>?_
 ·refine aL rO g1 O λ_ gr=>?_;have gs:=C.size;refine oS (lo2:=w5.heap.size) (hi2:=w5.heap.size) (x:=xW (iX c)[k]) uI rO ai E2 dD (g2.ext O) oo (UD (gr.ext O)) oo oo (by rw[eB];omega) oo λv' _ gt gx=>aU<|⟨mk-1,oo,k+1,oo,v',A++[xW (iX c)[k]],rfl,oo,(M.t C).xI gt (lr _),gx,?_⟩;rw[tk hk];exact hI.new gg gq
 refine aU<|⟨mk-1,oo,k+1,oo,out,A,rfl,oo,xx,(g2.ext O).mono (lr _) C.size,?_⟩;rw[tk hk];exact hI.old (eK.1 D)
def bn(hc:aM c){A:List dB}(h:iZ (iX c) A):(∀a∈A,(0<=a.fr/\a.fr<c.L.length)/\0<=a.to/\a.to<c.L.length)/\A.length<=2000:=by
 have h1:iZ ((iX c).take (iX c).length) A:=by rw[sF];exact h
 have h2:=h1.rng hc;have:=Il hc.1.locks6 h.pw h2;exact⟨h2,oo⟩
open Classical in
noncomputable def yP(c:aF)(k:Nat):List (List Nat):=((iI c).take k).filter λp=>decide (zM (uY c) p)
def kz(hk:k<(iI c).length)(h:zM (uY c) (iI c)[k]):yP c (k+1)=yP c k++[(iI c)[k]]:=by
 unfold yP;rw[tk hk,JL];simp[h]
def yz(hk:k<(iI c).length)(h:¬zM (uY c) (iI c)[k]):yP c (k+1)=yP c k:=by
 unfold yP;rw[tk hk,JL];simp[h]
def Uk(c:aF)(k:Nat):(yP c k).length<=k:=eH (TR _ _) (by rw[fY];omega)
def zuf{cs:List (List Int)}(hp:cs.Perm ((yP c (iI c).length).map bN))(hs:cs.Pairwise λa b=>kZ a<kZ b):cs=(oL c).map bN:=by
 refine p6 hs (by rw[IB];exact L6 c) λ_=>?_;rw[hp.mem_iff];simp only[sT,XJ];unfold yP;rw[sF];simp only[OG,lZ]
def xu{α:Type}{f:α->List Nat}{Z:List α}{z:α}(hz:z∈Z)(h:(Z.flatMap f).Nodup):(f z).Nodup:=by
 obtain⟨_,_,rfl⟩:=Eb hz;rw[vW,oE]at h;have h2:=h.2.1;rw[vE,oE]at h2;exact h2.1
def uj{l:List (List Int)}(hM:aZ F w v l):∃Z:List (List Nat×vL×List Int),l=Z.map (·.2.2)/\(∀z∈Z,aZ z.1 w z.2.1 z.2.2)/\(Z.flatMap (·.1)).Nodup/\(∀c∈Z.flatMap (·.1),c∈F) /\
   (Z≠[]->∃b o cap,v=.slice (some ⟨b,o,none⟩) l.length cap/\b∈F/\b∉Z.flatMap (·.1)/\w.rangeAt b o (Z.map (·.2.1))):=by
 obtain⟨⟨_,⟨_,cap,_,_,rfl,_,_,hc,h4⟩,rfl⟩,g0,hw⟩:=hM;obtain⟨Z,rfl,rfl,rfl,hZ⟩:=Nn hc;rcases h4 with⟨h4,rfl⟩|⟨b,o,rfl,rfl,hr,_⟩
 ·have:Z=[]:=by simpa using h4
  subst this;exact⟨[],rfl,ss,ss,ss,λh=>absurd rfl h⟩
 rw[tZ]at g0;have g1:∀z∈Z,∀c∈z.1,c∈Z.flatMap (·.1):=λz hz c hc=>wM.2 ⟨z,hz,hc⟩;refine⟨Z,rfl,λz hz=>⟨⟨_,hZ z hz,rfl⟩,?_,hw.sub λc hc=>Ar _ (g1 z hz c hc)⟩,g0.2,λc hc=>Ar _ hc,λ_=>⟨b,o,cap,rfl,ss,g0.1,hr⟩⟩;exact xu (f:=(·.1)) hz g0.2
def cx{α β:Type}{f:α->List β}{l:List α}{x:β}(h:x∈(l.take k).flatMap f):x∈l.flatMap f:=by
 obtain⟨z,hz,hx⟩:=wM.1 h;exact wM.2 ⟨z,PM hz,hx⟩
def qm{α:Type}{f:α->List Nat}{l:List α}(hk:k<l.length)(hn:(l.flatMap f).Nodup):∀c∈f l[k],c∉(l.take k).flatMap f:=λc hc h=>by
 have e:l=l.take k++l[k] :: l.drop (k+1):=by rw[<-tD hk,XN]
 rw[e,vW,oE]at hn;exact hn.2.2 c h c (by rw[vE];exact EZ _ hc) rfl
def Dw{α β:Type}{f:α->List β}{l:List α}(hk:k<l.length):(l.take (k+1)).flatMap f=(l.take k).flatMap f++f l[k]:=by
 rw[tk hk,vW];simp
def zA3(hW:tI W0 b c)(e0:aB W0 w)(hc:aM c) :
   aJ tp 32 [pT b 0] w λr w'=>aB w w'/\eG w.heap.size w' r ((oL c).map bN):=by
 refine co (g:=kf [] [(4,17177772192,[5,21])] [(1,[0,1,2,3,4,5,6,7,8,9,10],384)]) Tryz.func32 ?_;have h6l:=hc.1.locks6;have g2:=hW.wl.code;have gb:=cO w;generalize World.drew1 w=w1 at *;refine bZ.mk rfl<|aE mT<|aE uP<|aL dC (vX g2) xx λ_ gG=>aX cL gG<|(kb hW xx hc).mono ?_;rintro _ w2 ⟨gl,gH⟩;refine⟨gl,?_⟩;refine(vy gH.is xx hc).mono ?_;rintro _ w3 ⟨gn,_,gc,gp⟩;refine⟨gn,?_⟩;obtain⟨gq,gr⟩:=bn hc gc;refine(eh gp.is xx oo gq gr).mono ?_;rintro gI w4 ⟨gs,gt⟩;rw[Ae hc gc]at gt;have g3:=(gb.t gl).trans gn;have gx:=g3.size;have hs4:=gs.size;obtain⟨F,hM,hF⟩:=gt;change aZ F w4 gI ((iI c).map bN)at hM;have hll:=La c;refine aX vR hM.is ?_;rw[kL];obtain⟨Z,gy,hZ,gJ,gK,gL⟩:=uj hM;have gz:Z.length=(iI c).length:=by have:=cS List.length gy;simpa using this.symm
 refine bV (iI c).length (λk us w'=>∃out FO,us=[out,iV k]/\k<=(iI c).length/\aB w3 w'/\w4.heap.size<=w'.heap.size/\dU FO 31 w' out ((yP c k).map bN)/\FO.Nodup/\(∀x∈FO,x∈(Z.take k).flatMap (·.1)\/w4.heap.size<=x)/\∀x,x<w4.heap.size->x∉(Z.take k).flatMap (·.1)->w'.heap[x]?=w4.heap[x]?) 0 (z0 _) ⟨_,[],rfl,z0 _,gs,lr _,.inl ⟨none,rfl,by simp[yP],rfl⟩,kM,ss,λ_ _ _=>rfl⟩ ?_;rintro k mk _ w5 _ ⟨out,FO,hq,_,g5,_,g0,gd,g4,C⟩;obtain⟨gM,gN⟩:=dQ hq;rw[gM,gN];have hcl:=Uk c k
 have O:∀x∈FO,w3.heap.size<=x:=λx hx=>by
   rcases g4 x hx with h|h
   ·exact hF x (gK x (cx h))
   omega
 refine bM<|br (λ_=>?_) λ_=>?_
 case refine_2=>
   have gO:k=(iI c).length:=oo;rw[gO]at g0;have gf:aK w3.heap.size w5.heap.size w5 out ((yP c (iI c).length).map bN):=⟨FO,⟨g0.own,gd,g0.wr⟩,λx hx=>⟨O x hx,g0.lt x hx⟩⟩
   have gA:∀p∈yP c (iI c).length,p∈iI c:=λp hp=>by
     unfold yP at hp;exact PM (OG.1 hp).1
   refine(tr gf (by rw[kL];have:=Uk c (iI c).length;omega) (λx hx=>?_) (λx hx=>?_) ?_).mono ?_
   ·obtain⟨p,hp,rfl⟩:=sT.1 hx;obtain⟨n,_,h2,_⟩:=HB (gA p hp);intro e;have h3:p=[]:=qC (by rw[<-cB,e];rfl);rw[h3]at h2;cases h2
   ·obtain⟨p,hp,rfl⟩:=sT.1 hx;obtain⟨n,h1,_,h2⟩:=HB (gA p hp);rw[FF h1];omega
   ·rw[IB];unfold yP;exact((Yz c).sublist (Bt _ _)).filter _
   rintro _ w6 ⟨gP,_,gB,gQ,gC⟩;rw[zuf gQ gC]at gB;exact⟨(g3.t g5).xI gP gx,gB.own.mono gx⟩
 have hk:k<(iI c).length:=oo;have V:k<Z.length:=oo;obtain⟨b9,o9,_,rfl,gR,gS,gT⟩:=gL (l5 oo);have gg:=hZ _ (cY V)
 have gU:Z[k].2.2=bN (iI c)[k]:=by
   have h1:((iI c).map bN)[k]?=(Z.map (·.2.2))[k]?:=by rw[gy]
   rw[List.getElem?_map,List.getElem?_map,List.getElem?_eq_getElem hk,List.getElem?_eq_getElem V]at h1;simpa using h1.symm
 have gD:=qm (f:=(·.1)) V gJ;have M:aZ Z[k].1 w5 Z[k].2.1 Z[k].2.2:=gg.keep λx hx=>C x (gg.lt x hx) (gD x hx);have gV:w5.heap[b9]?=w4.heap[b9]?:=C b9 (hM.lt b9 gR) λh=>gS (cx h)
 have gW:w5.rangeAt b9 (o9+k*1) [Z[k].2.1]:=λj v hj=>by
   cases j with
   | zero=>
     simp only[List.getElem?_cons_zero,iU]at hj;subst hj;rw[World.cell?_of_block (w:=w4) gV,yE,JY];exact gT k _ (by rw[List.getElem?_map,List.getElem?_eq_getElem V];rfl)
   |succ j=>simp at hj
 refine dY (v:=pT b9 (o9+k*1)) (λw' _=>by rw[KS vR dT oo (by rw[kL];omega)];simp) ?_
 refine Mv (α:=List Int) dT (by
   obtain⟨cs,hr,hv⟩:=M.own;obtain⟨v,rfl⟩:∃v,cs=[v]:=IR.1 (Rep.len hr);have:Z[k].2.1=v:=hv;rw[this];exact hr) gW ?_
 change aJ tp _ [_,_,Z[k].2.1] w5 _;rw[gU]at M;refine(ul gp.is g5 M.is xx oo gq gr (VY (cY hk)).2 (by have:=(VY (cY hk)).1;omega)).mono ?_;rintro _ w6 ⟨g1,_,rfl,gh⟩;rw[Ae hc gc]at gh;have gC:=g1.size;have gE:=g0.keep λx hx=>g1.heap (g0.lt x hx);have D:∀x,x<w4.heap.size->x∉(Z.take k).flatMap (·.1)->w6.heap[x]?=w4.heap[x]?:=λx hx hn=>(g1.heap oo).trans (C x hx hn);refine bW (λhy=>?_) λhn=>?_
 ·have gi:=gh.1 hy;refine CT (K:=λw1 r w2=>_) vR dT Av Cj dD gE gd (M.ext g1) (λx hx gX=>?_) (by rw[kL,eB];omega) (by rw[kL];omega) (λw7 v' _ G' g9 gj gY gZ h4=>?_) λ_ w7 _ h=>h
  ·rcases g4 x gX with h|h
   ·exact gD x hx h
   have:=gg.lt x hx;omega
  refine aU<|⟨mk-1,oo,k+1,oo,v',G',rfl,oo,((g5.t g1).trans g9).chg_trans gj O,?_,?_,gZ,λx hx=>?_,λx hx hn=>?_⟩
  ·have:=g9.size;have:=gj.size;omega
  ·rw[kz hk gi,wJ];exact gY
  ·rw[Dw V];rcases h4 x hx with h|h|h
   ·rcases g4 x h with h|h
    ·exact .inl (EZ _ h)
    exact .inr h
   ·exact .inl (NP _ h)
   exact .inr oo
  rw[Dw V]at hn;have gF:x∉(Z.take k).flatMap (·.1):=λh=>hn (EZ _ h)
  have h5:x∉FO:=λh=>by
    rcases g4 x h with h|h
    ·exact gF h
    omega
  have h7:=g9.size;rw[gj.block x oo h5,g9.heap oo];exact D x hx gF
 have gi:¬zM (uY c) (iI c)[k]:=λh=>by rw[gh.2 h]at hn;cases hn
 refine aU<|⟨mk-1,oo,k+1,oo,out,FO,rfl,oo,xx,oo,by rw[yz hk gi];exact gE,gd,λx hx=>?_,λx hx hn=>?_⟩
 ·rw[Dw V];rcases g4 x hx with h|h
  ·exact .inl (EZ _ h)
  exact .inr h
 rw[Dw V]at hn;exact D x hx λh=>hn (EZ _ h)
open Classical in
noncomputable def GM(c:aF):List (List Int):=if aM c then(oL c).map bN else[]
def Mz(c:aF):(GM c).length<=6/\∀x∈GM c,x.length<=6:=by
 unfold GM;split
 ·rename_i h;have:=h.1.locks6;refine⟨by rw[kL];have:=lz c;omega,λx hx=>?_⟩;obtain⟨_,hp,rfl⟩:=sT.1 hx;have:=(Rn hp).1;rw[cB];omega
 simp
theorem O1{c:aF}{a held:Int}{i:bH}{x:bP}:∀{k:Nat},x∈tQ c a held i k->0<=x.global/\x.global<k
 |0,h=>by simp[tQ]at h
 | k+1,h=>by
   rw[tQ]at h;rcases dF.1 h with h|h
   ·rcases dF.1 h with h|h
    ·have:=O1 h;omega
    split at h
    ·simp only[bF,dL,dI]at h;subst h;constructor<;>(show _ ;simp)<;>omega
    simp at h
   split at h
   ·simp only[bF,dL,dI]at h;subst h;constructor<;>(show _ ;simp)<;>omega
   simp at h
def zHL{x:bP}(h:x∈tF c):0<=x.global/\x.global<c.B.length:=by
 unfold tF at h;obtain⟨_,_,hx⟩:=wM.1 h;unfold zV CA at hx;split at hx
 ·exact O1 hx
 simp at hx
noncomputable def rS(c:aF):List aR:=vY (wH c (tF c) (tF c).length)
def Gn(hc:aM c):(rS c).length<=324000000:=eH (Pp _) (Ld (Er hc) (Er hc))
def Ny(h:x∈rS c):0<=x.g/\x.g<c.B.length:=by
 have h:=bf.1 h;unfold wH at h;obtain⟨_,hi,hx⟩:=wM.1 h;rw[Ci (rC.1 hi)]at hx;obtain⟨_,_,hx⟩:=wM.1 hx;unfold sV at hx;split at hx
 ·simp only[bF,dL,dI]at hx;subst hx;exact zHL (cY _)
 simp at hx
theorem Zr{c:aF}{part:List Int}(h:vG c part):∀k,k<=part.length->(uB c part k).size<=5+13*k
 |0,_=>by rw[uB];decide
 | k+1,hk=>by
   have h1:=Zr h k oo;have h2:=h.2.2.2 _ (cY (l:=part) (n:=k) oo);have h3:part.getD k 0=part[k]'(by omega):=AF oo;have h4:=h.1.1.lock_size (i:=(part.getD k 0).toNat) (by rw[h3];omega);have h5:pA.size=1:=rfl;rw[uB,lF,lF,AF (by rw[h3];omega)];omega
def bq(c:aF)(g0:List Int):(oG c g0).size<=100:=by
 unfold oG;split
 ·rename_i h;have:=Zr h g0.length (lr _);have:=h.2.2.1;have:zT.size=1:=rfl;rw[lF];omega
 exact vS _
def Qx(hc:aM c){x:aR}(hg:0<=x.g/\x.g<c.B.length)(ha:bR x.a)(hb:bR x.b):(rM c x).size<=100:=by
 have:=CW x.a ha;have:=CW x.b hb;have:=hc.1.global_size (i:=x.g.toNat) oo;have:BB.size=5:=rfl;have:pA.size=1:=rfl;have:zT.size=1:=rfl;unfold rM;simp only[lF];rw[AF oo];omega
noncomputable def AC(c:aF):List UInt8:=(rS c).flatMap λx=>aW (rM c x)
noncomputable def CP(c:aF):List UInt8:=((oL c).map bN).flatMap λp=>aW (oG c p)
def Es:ByteArray:=ByteArray.mk #[99,108,101,97,110,10]
open Classical in
noncomputable def zJ(c:aF):ByteArray:=if aM c then(if (AC c++CP c).length=0 then Es else⟨(AC c++CP c).toArray⟩)else ByteArray.empty
def Bq{X:Nat->Prop}{a w w':wD}(h:eR X w w')(h0:aB a w)(hX:∀ b,X b->a.heap.size<=b):aB a w':=
 ⟨h.os.trans h0.os,h.tape.trans h0.tape,h.output.trans h0.output,eH h0.size h.size,λi hi=>(h.block i (kP hi h0.size) (λhx=>by have:=hX i hx;omega)).trans (h0.block i hi)⟩
def IE{X:Nat->Prop}(h:aB w w'):eR X w w':=⟨h.os,h.tape,h.output,h.size,λb hb _=>h.block b hb⟩
def Hg{α:Type}[Rep α]{lo:Nat}{X:Nat->Prop}{w w':wD}{v:vL}{x:α}(h:eG lo w v x)(hx:eR X w w')(hX:∀ b,lo<=b->b<w.heap.size->¬X b):Is w' v x:=by
 obtain⟨_,hm,hF⟩:=h;exact(hm.keep λb hb=>hx.block b (hm.lt b hb) (hX b (hF b hb) (hm.lt b hb))).is
def O6(h0:Is W0 v0 c)(e0:aB W0 w)(hT:oF w) :
   aJ tp 10 [v0] w λr w'=>aB w w'/\r=.string (zJ c):=by
 refine co (g:=kf [] [(6,17592184995968,[20]),(11,71916856549573120,[47])] [(8,[0,1,2,3,4,5,6,7,8,9,13,14,10,11,12,15,16,17,18],33792)]) Tryz.func10 ?_;refine iR h0 e0 λ_ gx hA=>aL cP hA (aC _) λ_ gC=>?_;refine(pk gC (aC _)).mono ?_;rintro _ wv ⟨gf,h⟩;rcases h with⟨hn,rfl⟩|⟨hc,b,rfl,hW⟩
 ·refine fO rfl ?_;refine fO rfl<|dG<|bW (λ_=>⟨gx.t gf,by unfold zJ;rw[aH hn];rfl⟩) (λh=>by cases h)
 refine fO rfl<|fO rfl<|dG<|bW (λh=>by cases h) (λ_=>?_);have gy:=hA.ext gf;have g4:=gx.t gf;refine yk (X:=λb=>b<0) λwg gz gA=>?_;have hgl:=gA.lt;refine(dg hW gz hc).mono ?_;rintro v18 W1 ⟨gg,hR⟩;have hs1:=gg.size;have hsw:=g4.size;have gD:=gA.ext gg;have hRl:=Gn hc;change eG wg.heap.size W1 v18 (rS c)at hR;have gE:=λx(hx:x∈rS c)=>Ny hx;have gh:AC c=(rS c).flatMap λx=>aW (rM c x):=rfl;generalize hRe:rS c=R at *;generalize hge:wv.heap.size=g at *;refine aX mC hR.is<|bV R.length (λk us w'=>us=[iV k]/\k<=R.length/\eR (λb=>b=g\/W1.heap.size<=b) W1 w'/\iG w' g ((R.take k).flatMap λx=>aW (rM c x)) (λb=>W1.heap.size<=b)/\((R.take k).flatMap λx=>aW (rM c x)).length<=k*100) 0 (z0 _) ⟨rfl,z0 _,IE (aC _),by simpa using gD.mono λk hk _=>absurd hk (Nat.not_lt_zero k),ss⟩ ?_;rintro i mk _ w3 _ ⟨hu,_,g5,g9,gi⟩;try replace hu:=cJ hu
 rw[hu];have hs3:=g5.size;refine bM ?_;have D:aB wv w3:=Bq g5 (gz.t gg) λb hb=>oo;refine br (λgF=>?_) (λ_=>?_)
 case refine_1=>
   have hi:i<R.length:=oo;have gG:Is w3 v18 R:=Hg hR g5 λb gH gI=>oo;refine bC mC lG (i:=i) gG hi λ_ _ gJ=>aL lG gJ (aC _) λ_ gK=>mB Ks rfl lG rfl gK (aC _) λw4 gL gj _=>?_;have gM:=gE R[i] (cY _);generalize hxe:R[i]=x at *;have gb:=cO w4;generalize World.drew1 w4=w5 at *;have g0:aB w3 w5:=gL.t gb;have M:=D.t g0;refine aE vU<|aL dC (wF gy) M λ_ gN=>aE CQ<|aS aG (HX gj) gb λ_=>?_;obtain⟨j,hj⟩:∃j:Nat,x.g=(j:Int):=⟨x.g.toNat,oo⟩;have gl:j<c.B.length:=oo;rw[hj];refine bC cL cG gN gl λ_ _ gO=>eV cG gO M λ_=>?_;have hsz:=hc.1.global_size gl;have h5:(ByteArray.mk #[114,97,99,101,32]).size=5:=rfl;have h1':(ByteArray.mk #[32]).size=1:=rfl;have h1n:(ByteArray.mk #[10]).size=1:=rfl;refine mK oo<|mK (by simp only[lF];omega)<|aE IL<|aS aG (OR gj) gb λgn=>aE PA<|aS aG (VD gj) gb λgp=>?_;have hda:=CW x.a gn;have hdb:=CW x.b gp;have g1:=g4.t M;refine(MD hT g1 gn).mono ?_;rintro _ w6 ⟨Z,rfl⟩;refine⟨Z,?_⟩;refine mK (by simp only[lF];omega)<|mK (by simp only[lF];omega) ?_;refine(MD hT (g1.t Z) gp).mono ?_;rintro _ _ ⟨gB,rfl⟩;refine⟨gB,?_⟩;refine mK (by simp only[lF];omega)<|mK (by simp only[lF];omega) ?_;have O:=(g0.t Z).trans gB;have gP:=O.size
   have gQ:ByteArray.mk #[114,97,99,101,32]++c.B[j]++ByteArray.mk #[32]++mO x.a++ByteArray.mk #[32]++mO x.b++ByteArray.mk #[10]=rM c x:=by
     unfold rM;rw[hj,qM,AF gl];rfl
   rw[gQ];have gR:=Qx hc gM gn gp;refine(Zj (g9.ext O) (λk hk=>oo) oo (by rw[eB];omega)).mono ?_;rintro _ _ ⟨gS,gT⟩;refine aU ?_
   have g2:((R.take (i+1)).flatMap λx=>aW (rM c x))=((R.take i).flatMap λx=>aW (rM c x))++aW (rM c x):=by
     rw[tk hi,vW,hxe];simp
   refine⟨mk-1,oo,i+1,oo,rfl,oo,HT (HT g5 (IE O)) gS,by rw[g2];exact gT,?_⟩;rw[g2,bX,dO];omega
 have gU:i=R.length:=oo;rw[gU,sF,<-gh]at g9 gi;refine(zA3 hW D hc).mono ?_;rintro gV W2 ⟨gq,hQ⟩;have hs2:=gq.size;have gW:=g9.lt;have gX:=(g9.mono (Y:=λb=>(W1.heap.size<=b/\b<w3.heap.size)\/W2.heap.size<=b) λk hk gY=>.inl ⟨hk,gY⟩).ext gq;have hQl:((oL c).map bN).length<=6:=by have:=(Mz c).1;unfold GM at this;rwa[aP hc]at this
 have g3:CP c=((oL c).map bN).flatMap λp=>aW (oG c p):=rfl;generalize hQe:(oL c).map bN=Q at *;refine aX vR hQ.is<|bV Q.length (λk us w'=>us=[iV k]/\k<=Q.length/\eR (λb=>b=g\/(W1.heap.size<=b/\b<w3.heap.size)\/W2.heap.size<=b) W2 w'/\iG w' g (AC c++(Q.take k).flatMap λp=>aW (oG c p)) (λb=>(W1.heap.size<=b/\b<w3.heap.size)\/W2.heap.size<=b)/\((Q.take k).flatMap λp=>aW (oG c p)).length<=k*100) 0 (z0 _) ⟨rfl,z0 _,IE (aC _),by simpa using gX,ss⟩ ?_;rintro i2 gZ _ w4 _ ⟨gr,_,gc,gd,gs⟩;try replace gr:=cJ gr
 rw[gr];have hs4:=gc.size;refine bM ?_;have C:aB wv w4:=Bq gc (D.t gq) λb hb=>oo;refine br (λgF=>?_) (λ_=>?_)
 case refine_1=>
   have hi:i2<Q.length:=oo;have h4:Is w4 gV Q:=Hg hQ gc λb gH gI=>oo;refine bC vR dT (i:=i2) h4 hi λ_ _ h6=>aL dT h6 (aC _) λ_ h8=>aL cP gy C λ_ h9=>?_;refine(Px (h9.ext C) (aC _) h8 (aC _)).mono ?_;rintro _ w5 ⟨V,rfl⟩;have hs5:=V.size;have gR:=bq c Q[i2];refine(Zj (gd.ext V) (λk hk=>oo) (by rw[bX];omega) (by rw[eB];omega)).mono ?_;rintro _ w6 ⟨ha,hd⟩;refine aU ?_
   have g2:((Q.take (i2+1)).flatMap λp=>aW (oG c p))=((Q.take i2).flatMap λp=>aW (oG c p))++aW (oG c Q[i2]):=by
     rw[tk hi,vW];simp
   refine⟨gZ-1,oo,i2+1,oo,rfl,oo,HT (HT gc (IE V)) ha,by rw[g2,<-fR];exact hd,?_⟩;rw[g2,bX,dO];omega
 have gt:i2=Q.length:=oo;rw[gt,sF,<-g3]at gd gs;refine(fh gd).mono ?_;rintro _ w5 ⟨V,rfl⟩;refine bI<|br (λhz=>⟨g4.t (C.t V),?_⟩) (λhz=>?_)
 ·unfold zJ;rw[aP hc,aP oo];rfl
 refine(nu (gd.ext V) (g4.t (C.t V)) oo).mono ?_;rintro _ w6 ⟨Z,rfl⟩;refine⟨Z,?_⟩;unfold zJ;rw[aP hc,aH oo]
def OL(a b:ByteArray):aW (a++b)=aW a++aW b:=by simp[aW,Bx]
def Wn{l:List UInt8}(h:∀ b∈l,b≠10):l.count 10=0:=List.count_eq_zero.2 λhm=>h _ hm rfl
def Xw(h:cK s=true):(aW s).count 10=0:=by
 unfold cK tB at h;simp only[iA]at h;refine Wn λb hb e=>?_;have:=nG.1 h.1.2 b hb;rw[e]at this;exact absurd this dD
def N2(n:Int):(aW (mO n)).count 10=0:=by
 have hd:∀u,∀b∈Lib.decDigits u,b≠10:=λu b hb e=>by
   have:=nG.1 (C2 u).2.1 b hb;rw[e]at this;exact absurd this dD
 refine Wn λb hb=>?_;have hb:b∈Lib.itoa n:=hb;unfold Lib.itoa at hb;split at hb
 ·rcases bF.1 hb with rfl|hb
  ·decide
  exact hd _ b hb
 exact hd _ b hb
def zC3(hc:aM c){x:aR}(hg:0<=x.g/\x.g<c.B.length):(aW (rM c x)).count 10=1:=by
 have h:=hc.1.1;simp only[iA,nG]at h;unfold rM;rw[AF oo];simp only[OL,QS];rw[Xw (h.2 _ (cY oo)),N2,N2];rfl
theorem Pw{c:aF}{part:List Int}(hp:vG c part):∀k,k<=part.length->(aW (uB c part k)).count 10=0
 |0,_=>rfl
 | k+1,hk=>by
   have h:=hp.1.1.2.1;simp only[iA,nG]at h;have h3:=hp.2.2.2 part[k] (cY oo);have hpk:part.getD k 0=part[k]:=AF oo;rw[uB,OL,OL,QS,QS,Pw hp k oo,hpk,AF oo,Xw (h.2 _ (cY oo))];rfl
def zsE{g0:List Int}(hp:vG c g0):(aW (oG c g0)).count 10=1:=by
 unfold oG;rw[aP hp,OL,QS,Pw hp _ (lr _)];rfl
def Y1(hc:aM c){p:List Nat}(hp:p∈oL c):vG c (bN p):=by
 obtain⟨_,h2,h3⟩:=Rn hp;have h6:=hc.1.2.1;simp only[iA,lZ]at h6;refine⟨hc,λe=>h3 ?_,by rw[cB];omega,λ_ hi=>?_⟩
 ·have:=cS List.length e;rw[cB]at this;exact JR.1 this
 obtain⟨j,hj,rfl⟩:=sT.1 hi;have:=h2 j hj;omega
theorem Ku{α:Type}{f:α->List UInt8}:∀{l:List α},(∀x∈l,(f x).count 10=1)->(l.flatMap f).count 10=l.length
 |[],_=>rfl
 | x :: l,h=>by
   rw[vE,QS,h x ss,Ku λy hy=>h y (by simp[hy]),dA];omega
theorem dj(hc:aM c):(aW (zJ c)).count 10=(if (rS c).length+(oL c).length=0 then 1 else(rS c).length+(oL c).length)/\(zJ c=Es↔(rS c).length+(oL c).length=0):=by
 have h1:(AC c).count 10=(rS c).length:=Ku λx hx=>zC3 hc (Ny hx)
 have h2:(CP c).count 10=(oL c).length:=by
   unfold CP;rw[Ku λx hx=>?_,kL];obtain⟨p,hp,rfl⟩:=sT.1 hx;exact zsE (Y1 hc hp)
 have h3:(AC c++CP c).count 10=(rS c).length+(oL c).length:=by rw[QS,h1,h2]
 unfold zJ;rw[aP hc];by_cases h0:(AC c++CP c).length=0
 ·rw[aP h0];have hz:(rS c).length+(oL c).length=0:=by rw[<-h3,JR.1 h0];rfl
  rw[aP hz];exact⟨rfl,λ_=>hz,λ_=>rfl⟩
 rw[aH h0];have e:aW (⟨(AC c++CP c).toArray⟩:ByteArray)=AC c++CP c:=by simp[aW]
 have hz:¬(rS c).length+(oL c).length=0:=λhz=>by
   have hr:rS c=[]:=JR.1 oo;have hl:oL c=[]:=JR.1 oo;exact h0 (by unfold AC CP;rw[hr,hl];rfl)
 rw[aH hz,e,h3];refine⟨rfl,λhh=>?_,λhh=>absurd hh hz⟩;exfalso;have hb:=cS aW hh;rw[e]at hb;have g1:aW Es=[99,108,101,97,110,10]:=rfl;rw[g1]at hb;cases hr:rS c with
 | cons x l=>
   unfold AC at hb;rw[hr,vE]at hb;unfold rM at hb;simp only[OL]at hb;have:(aW BB).head?=some 114:=rfl;have e2:=cS List.head? hb;simp only[fR]at e2;rw[show aW BB=114 :: [97,99,101,32]from rfl]at e2;simp at e2
 | nil=>
   cases hl:oL c with
   |nil=>exact hz (by rw[hr,hl];rfl)
   | cons p l=>
     have hp:=Y1 hc (show p∈oL c by rw[hl];simp);unfold AC CP at hb;rw[hr,hl]at hb;simp only[List.flatMap_nil,sL,FI,vE]at hb;unfold oG at hb;rw[aP hp,OL]at hb
     have g0:∀k,∃m,aW (uB c (bN p) k)=114 :: m:=λk=>by
       induction k with
       |zero=>exact⟨_,rfl⟩
       |succ k ih=>obtain⟨m,hm⟩:=ih;rw[uB,OL,hm];exact⟨_,rfl⟩
     obtain⟨m,hm⟩:=g0 (bN p).length;rw[hm]at hb;simp at hb
def wq{α:Type}[Rep α]{P:pG}{w:wD}{X:Nat->Prop}{t by_ b o:Nat}{F:List Nat}{cs:List vL}{x:α}{K:vL->Prop}(ht:cT P t=some (Rep.size α,by_,Rep.agg α))(hr:rep F w cs x)(hc:w.rangeAt b o cs)(hb:¬X b)(hF:F=[])(k:K (fF α cs)):lH P X (Instr.loadAt t (pT b o)) w K:=by
 refine⟨fF α cs,λ_ hx=>OK ht (Rep.keep hr λ_ hm=>by rw[hF]at hm;cases hm) (yT hc (hx.block b ?_ hb)),k⟩;exact JG hc (by rw[Rep.len hr];exact Rep.pos)
def Qm(W:wD)(g:Nat)(L:List aT)(v:vL)(e:Int)(w:wD)(q:Nat)(z:Rd (List ByteArray))(r:vL)(w':wD):Prop:=
 aN g (g+1) w w'/\∃u l st',r=.tuple #[u,.bool (kW st')]/\iW W g L v e st' w'/\aK w.heap.size w'.heap.size w' u l/\pL z st' λx j=>x=l/\st'=.ok (j,q)
def Sk{L:List aT}{e:Int}{word:ByteArray}(h:iW W g L v e (.ok (i,q)) w)(hw:word≠ByteArray.mk #[]) :
   aJ tp 122 [pT g 0,.string word,iV 6] w (Qm W g L v e w q (BV L e word i)):=by
 have:=h.lt;have:=h.ext.size;refine co (g:=kf [(9,274810798272,[])] [(7,9223372036787668928,[8])] []) Tryz.func122 ?_
 have D:∀{w':wD}{f:bY}{x:vL},aN g (g+1) w w'->iW W g L v e (.error f) w'->BV L e word i=.error f->x=.bool false->Qm W g L v e w q (BV L e word i) (.tuple #[.slice none 0 0,x]) w':=λh1 h2 h3 h4=>
   ⟨h1,_,[],_,by rw[h4];rfl,h2,pB,by rw[h3];rfl⟩
 refine(IF h hw).mono ?_;rintro _ w1 ⟨g5,h1,rfl⟩;have:=g5.size;refine dG ?_;by_cases hb:eE L i word
 rotate_left
 ·rw[CZ hb]at h1 ⊢;refine bW (λ_=>?_) (λho=>by cases ho);exact D g5 h1 (by unfold BV;rw[FX hb];rfl) rfl
 rw[CM hb]at h1 ⊢;refine bW (λho=>by cases ho) λ_=>?_;have V:BV L e word i=if eE L (i+1) kX then .ok ([],i+1+1)else wK L e 6 (i+1):=by unfold BV;rw[sB hb];rfl
 refine(BM h1).mono ?_;rintro _ _ ⟨g9,_,rfl,-,-,-⟩;have Z:=g9.size;have h2:=h1.step g9;have gd:=g5.trans g9.toI;refine CO<|eX<|br (λhs=>?_) λhs=>?_
 ·have hs:eE L (i+1) kX:=hs;refine zY h2 (MF hs dD) λw3 g3 h3=>⟨gd.trans g3,_,[],_,rfl,h3,pB,by rw[V,aP hs];exact⟨rfl,rfl⟩⟩
 have hs:¬eE L (i+1) kX:=hs;rw[aH hs]at V
 refine bV 7 (λn us w'=>∃out l j,us=[out]/\aN g (g+1) w w'/\w1.heap.size<=w'.heap.size/\iW W g L v e (.ok (j,q)) w'/\bQ w.heap.size w'.heap.size 9 w' out l/\l.length=n/\l.length<=6/\wK L e 6 (i+1)=IS l (wK L e (6-l.length) j)) 0 oo
     ⟨_,[],i+1,rfl,gd,oo,h2,uC _ _ _ _,rfl,dD,(Vs _).symm⟩ ?_
 rintro n _ _ w3 _ ⟨out,l,j,hu,g3,_,h3,gf,gi,_,hI⟩;try replace hu:=cJ hu
 rw[hu];refine dJ.mk (λus w'=>us=[]/\aB w3 w'/\¬(cK (cV L j)=true/\l.length=6)) ?_ ?_
 ·refine(BM h3).mono ?_;rintro _ _ ⟨gj,_,rfl,-,-,-⟩;refine CO<|cI.mM λw5 gl=>?_;have C:=gj.t gl;refine bW (λhn=>?_) (λhn=>⟨rfl,C,λhh=>by rw[hh.1]at hn;cases hn⟩);refine aX cL (gf.ext C).is<|bI<|br (λh6=>?_) (λh6=>⟨rfl,C,λhh=>h6 (by rw[hh.2];rfl)⟩);refine(IW (c:=5) (h3.step C) dD io).mono ?_;rintro _ w6 ⟨g0,gn,rfl⟩;refine D ((g3.trans C.toI).trans g0) gn ?_ rfl;rw[V,hI,show 6-l.length=0 by omega,wK,aP hn];rfl
 rintro _ w5 ⟨-,C,gp⟩;have:=C.size;have gq:=g3.trans C.toI;have gr:=gf.ext C;refine(Bu (h3.step C)).mono ?_;rintro _ w6 ⟨g0,h6,rfl,gg⟩;have:=g0.size;have g1:=gq.trans g0;have gs:=gr.chg g0 (.inr oo);refine fO rfl<|fO rfl<|dG ?_;by_cases hn:cK (cV L j)=true
 rotate_left
 ·rw[UU hn]at h6 ⊢;refine bW (λ_=>?_) (λho=>by cases ho);refine D g1 h6 ?_ rfl;rw[V,hI];cases hd:6-l.length with
  |zero=>rw[wK,aH hn];rfl
  |succ d=>rw[wK];unfold uZ;rw[aH hn];rfl
 rw[PY hn]at h6 ⊢;have e1:KC L (.ok (j,q))=cV L j:=XE hn;rw[e1]at gg ⊢;refine bW (λho=>by cases ho) λ_=>?_
 have:l.length<6:=by
   have:l.length≠6:=λh6=>gp ⟨hn,h6⟩;omega
 obtain⟨dd,gt⟩:∃d,6-l.length=d+1:=⟨6-l.length-1,oo⟩
 have O:wK L e 6 (i+1)=IS (l++[cV L j]) (WU L e dd (j+1)):=by
   rw[hI,gt,xm];unfold uZ;rw[aP hn];simp only[Rd.go];exact Yl _
 refine oS (lo2:=w6.heap.size) (hi2:=w6.heap.size) cL cG z9 JP dD gs oo (Dl gg) oo oo (by rw[eB];omega) oo λv7 w7 gb gx=>?_;have:=gb.size;have h7:=h6.chg gb oo oo;have gc:aN g (g+1) w w7:=aN.out g1 gb (lr _);refine(BM h7).mono ?_;rintro _ _ ⟨g4,_,rfl,-,-,-⟩;have:=g4.size;have h8:=h7.step g4;have g2:=gc.trans g4.toI;have gh:=gx.ext g4;refine CO<|GK<|br (λhc=>?_) λhc=>?_
 ·have hc:¬eE L (j+1) GP:=hc;unfold WU at O;rw[aH hc]at O;refine(IF (t:=kX) h8 dD).mono ?_;rintro _ w9 ⟨M,h9,rfl⟩;have gy:=M.size;refine⟨g2.trans M,v7,l++[cV L j],_,rfl,h9,((gh.chg M (.inr oo)).mono (lr _) oo).own,?_⟩;rw[V,O];by_cases Z:eE L (j+1) kX
  ·rw[sB Z,CM Z];simp only[Rd.go,IS,oJ];exact⟨rfl,rfl⟩
  rw[FX Z,CZ Z];rfl
 have hc:eE L (j+1) GP:=eK.1 hc;unfold WU at O;rw[aP hc]at O;refine zY h8 (MF hc dD) λw9 M h9=>?_;have gy:=M.size;refine⟨7-(n+1),oo,n+1,oo,v7,l++[cV L j],j+1+1,rfl,g2.trans M,oo,h9,(gh.chg M (.inr oo)).mono (lr _) oo,by simp[gi],by rw[bX,FG];omega,?_⟩;rw[O,bX,FG,show 6-(l.length+1)=dd by omega]
def Mq(W:wD)(g:Nat)(L:List aT)(v:vL)(e:Int)(w:wD)(q:Nat)(z:Rd aQ)(r:vL)(w':wD):Prop:=
 aN g (g+1) w w'/\∃u p st',r=.tuple #[u,.bool (kW st')]/\iW W g L v e st' w'/\aK w.heap.size w'.heap.size w' u p/\pL z st' λx j=>x=p/\st'=.ok (j,q)
theorem zC4{L:List aT}{e:Int}(h:iW W g L v e (.ok (i,q)) w) :
   aJ tp 126 [pT g 0] w (Mq W g L v e w q (yQ L e i)):=by
 have:=h.lt;have:=h.lo;have:=h.ext.size;refine co (g:=kf [] [] []) Tryz.func126 ?_;refine rK So λw1 g1 g2=>?_;have:=g1.size;have gb:=g2.lt
 have g0:∀{w5:wD}{st':lU}{n:ByteArray}{u:vL}{p:List aA}{lo hi:Nat}{b:Bool},fZ g w1.heap.size w1 w5->iW W g L v e st' w5->n.size<=maxLen->aK lo hi w5 u p->w1.heap.size<=lo->hi<=w5.heap.size->kW st'=b->(pL (yQ L e i) st' λx j=>x=⟨n,p⟩/\st'=.ok (j,q)) ->
     RD tp (Instr.build 62 #[(0,.string n),(1,u)]) w5 λu=>fA tp (Instr.storeAt 62 (pT w.heap.size 0) u) w5 λw5=>RD tp (qP 62 (pT w.heap.size 0)) w5 λr=>Mq W g L v e w q (yQ L e i) (.tuple [r,.bool b].toArray) w5:=by
   intro w5 st' n u p lo hi b hu hr hn ho _ _ hb hR;have gc:=hu.size;obtain⟨a,c,rfl⟩:=HZ ho;refine fI (cells:=#[.string n,.slice a p.length c]) kK<|tA (x:=(⟨n,p⟩:aQ)) (lo:=lo) (hi:=hi) pO rfl (g2.upG hu gb oo) rfl (WH hn ho) λw6 C g3=>?_;have gd:=C.size;refine AX g3 pO<|⟨aN.out (fZ.toI (g1.upG.trans hu) oo) C oo,_,⟨n,p⟩,st',by rw[hb],hr.chg C oo oo,((WH hn ho).chg C (.inr oo)).mono oo oo,hR⟩
 have hz:∀{w5:wD}{f:bY},fZ g w1.heap.size w1 w5->iW W g L v e (.error f) w5->yQ L e i=.error f ->
     RD tp (Instr.build 62 #[]) w5 λu=>fA tp (Instr.storeAt 62 (pT w.heap.size 0) u) w5 λw5=>RD tp (qP 62 (pT w.heap.size 0)) w5 λr=>Mq W g L v e w q (yQ L e i) (.tuple [r,.bool false].toArray) w5:=by
   intro w5 f hu hr hp;have gc:=hu.size;refine fI (cells:=#[.string nO,.slice none 0 0]) kK<|tA (x:=(⟨nO,[]⟩:aQ)) (lo:=0) (hi:=0) pO rfl (g2.upG hu gb oo) rfl (WH wS pB) λw6 C g3=>?_;have gd:=C.size;refine AX g3 pO<|⟨aN.out (fZ.toI (g1.upG.trans hu) oo) C oo,_,⟨nO,[]⟩,_,rfl,hr.chg C oo oo,WH wS pB,by rw[hp];rfl⟩
 have gf:∀{z:Rd ByteArray},z=uZ L e (i+1)->eE L i zG->yQ L e i=z.go λs j=>(tS L e (qV L e 6) 60 j).go λb j=>.ok (⟨s,b.1⟩,j):=λhz hb=>by unfold yQ;rw[sB hb,hz];rfl
 refine(IF (t:=zG) (h.step g1) dD).mono ?_;rintro _ w2 ⟨gg,h2,rfl⟩;have:=gg.size;have u2:fZ g w1.heap.size w1 w2:=gg.upG1;refine dG ?_;by_cases hb:eE L i zG
 rotate_left
 ·rw[CZ hb]at h2 ⊢;refine bW (λ_=>?_) (λho=>by cases ho);exact hz u2 h2 (by unfold yQ;rw[FX hb];rfl)
 rw[CM hb]at h2 ⊢;refine bW (λho=>by cases ho) λ_=>(Bu h2).mono ?_;rintro _ w3 ⟨gh,h3,rfl,g4⟩;have:=gh.size;have u3:=u2.trans (gh.upG1 (lo:=w1.heap.size));refine fO rfl<|fO rfl<|dG ?_;by_cases hn:cK (cV L (i+1))=true
 rotate_left
 ·rw[UU hn]at h3 ⊢;refine bW (λ_=>?_) (λho=>by cases ho);exact hz u3 h3 (by rw[gf rfl hb];unfold uZ;rw[aH hn];rfl)
 rw[PY hn]at h3 ⊢;have e1:KC L (.ok (i+1,q))=cV L (i+1):=XE hn;rw[e1]at g4 ⊢;refine bW (λho=>by cases ho) λ_=>?_;have gi:yQ L e i=(tS L e (qV L e 6) 60 (i+1+1)).go λb j=>.ok (⟨cV L (i+1),b.1⟩,j):=by rw[gf rfl hb];unfold uZ;rw[aP hn];rfl
 refine rK (zs:=[iV 0]) kK λ_ gj gl=>?_;have:=gl.lt;refine qL (α:=Int) (lo:=0) (hi:=0) aG rfl rfl gl ss (ownI_int pJ) λw5 g5 g9=>?_;have gc:=g5.size;have g9:cA w3.heap.size 3 w5 [iV (60-((60:Nat):Int))]:=g9;have h5:=(h3.step gj).chg g5 oo oo;have u5:fZ g w1.heap.size w1 w5:=(u3.trans gj.upG).trans (g5.upG oo);have gp:oZ W g w3.heap.size L v e (.ok (i+1+1,60)) w5:=⟨h5.of h5.ext h5.at.1 h5.at.2,⟨60,g9,oo,λ_ _ hh=>by cases hh;rfl⟩,oo⟩;refine(nj 6 oo (d:=0) gp oo).mono ?_;rintro _ w6 ⟨C,u,_,gq,rfl,D,o6,gn⟩;have gd:=C.size;have u6:fZ g w1.heap.size w1 w6:=u5.trans ⟨C.os,C.tape,C.output,C.size,λb h1 h2 h3=>C.block b h1 h1 h3 oo⟩;refine fO rfl<|fO rfl ?_;cases ho:kW gq with
 | false=>
   obtain⟨f,rfl,hp⟩:=zS gn (λx j hh=>⟨_,hh.2⟩) ho;refine g0 u6 D.rd g4 o6 oo (lr _) rfl ?_;rw[gi,hp];rfl
 | true=>
   obtain⟨j,_,rfl,hp⟩:=Dt gn ho;refine g0 (st':=.ok (j,q)) u6 (D.rd.of D.rd.ext D.rd.at.1 D.rd.at.2) g4 o6 oo (lr _) rfl ?_;rw[gi,hp];exact⟨rfl,rfl⟩
def Og(W:wD)(g:Nat)(L:List aT)(v:vL)(e:Int)(w:wD)(q:Nat)(z:Rd aY)(r:vL)(w':wD):Prop:=
 aN g (g+1) w w'/\∃u p st',r=.tuple #[u,.bool (kW st')]/\iW W g L v e st' w'/\aK w.heap.size w'.heap.size w' u p/\pL z st' λx j=>x=p/\st'=.ok (j,q)
def fw{L:List aT}{e:Int}(h:iW W g L v e (.ok (0,q)) w) :
   aJ tp 58 [pT g 0] w (Og W g L v e w q (xR L e)):=by
 have:=h.lt;have:=h.lo;have:=h.ext.size;refine co (g:=kf [(12,4397509640200,[])] [(9,72057593970819272,[])] []) Tryz.func58 ?_;refine rK IU λw1 gn gG=>?_;have:=gn.size;have gS:=gG.lt
 have g1:∀{w5:wD}{st':lU}{us:Array vL}{p:aY}{lo hi:Nat}{b:Bool},fZ g w1.heap.size w1 w5->iW W g L v e st' w5->aK lo hi w5 (.agg us) p->w1.heap.size<=lo->hi<=w5.heap.size->kW st'=b->us.toList.length=3->(pL (xR L e) st' λx j=>x=p/\st'=.ok (j,q)) ->
     fA tp (Instr.storeAt 29 (pT w.heap.size 0) (.agg us)) w5 λw5=>RD tp (qP 29 (pT w.heap.size 0)) w5 λr=>Og W g L v e w q (xR L e) (.tuple [r,.bool b].toArray) w5:=by
   intro w5 st' us p lo hi b hu hr ho _ _ hb hl hR;have gT:=hu.size;refine tA (α:=aY) kT rfl (gG.upG hu gS oo) rfl ho λw6 g0 g5=>?_;have gU:=g0.size;refine AX g5 (by rw[hl];exact kT)<|⟨aN.out (fZ.toI (gn.upG.trans hu) oo) g0 oo,_,p,st',by rw[hb],hr.chg g0 oo oo,(ho.chg g0 (.inr oo)).mono oo oo,hR⟩
 have g9:∀{w5:wD}{lo:Nat},aK lo lo w5 (.agg #[.slice none 0 0,.slice none 0 0,.slice none 0 0]) (⟨[],[],[]⟩:aY):=λ{w5 lo}=>
   WS (l0:=lo) (h0:=lo) (l1:=lo) (h1:=lo) (l2:=lo) (h2:=lo) pB pB pB oo oo oo oo oo oo
 have hz:∀{w5:wD}{f:bY},fZ g w1.heap.size w1 w5->iW W g L v e (.error f) w5->xR L e=.error f ->
     RD tp (Instr.build 29 #[]) w5 λu=>fA tp (Instr.storeAt 29 (pT w.heap.size 0) u) w5 λw5=>RD tp (qP 29 (pT w.heap.size 0)) w5 λr=>Og W g L v e w q (xR L e) (.tuple [r,.bool false].toArray) w5:=by
   intro w5 f hu hr hp;refine fI (cells:=#[.slice none 0 0,.slice none 0 0,.slice none 0 0]) kK<|g1 hu hr (g9 (lo:=w1.heap.size)) (lr _) hu.size rfl rfl (by rw[hp];rfl)
 refine rK IU λw2 gH gp=>?_;have:=gp.lt;have u2:fZ g w1.heap.size w1 w2:=gH.upG;refine(Sk (word:=DZ) ((h.step gn).step gH) dD).mono ?_;rintro _ w3 ⟨gq,v3,lg,gI,rfl,h3,o3,gJ⟩;have:=gq.size;refine fO rfl<|fO rfl<|aE BY<|qL (α:=List ByteArray) dC rfl rfl (gp.keep (gq.block _ gp.lt (.inr oo))) ss o3 λw4 gh gi=>?_;have:=gh.size;have gi:cA w1.heap.size 29 w4 [v3,.slice none 0 0,.slice none 0 0]:=gi;have h4:=h3.chg gh oo oo;have o4:=o3.chg gh (.inr oo);have u4:fZ g w1.heap.size w1 w4:=(u2.trans gq.upG1).trans (gh.upG (lr _));refine dG<|bW (λho=>?_) λho=>?_
 ·have ho:kW gI=false:=by simpa using ho
  obtain⟨f,rfl,hp⟩:=zS gJ (λx j hh=>⟨_,hh.2⟩) ho;exact hz u4 h4 (by unfold xR;rw[hp];rfl)
 have ho:kW gI=true:=by simpa using ho
 obtain⟨j3,rfl,gV⟩:=ME gJ ho;have g4:xR L e=(BV L e lE j3).go λl j=>(rX L e 8 j).go λp j=>.ok (⟨lg,l,p⟩,j):=by unfold xR;rw[gV];rfl
 refine(Sk (word:=lE) h4 dD).mono ?_;rintro _ w5 ⟨gj,v5,ll,gK,rfl,h5,o5,gL⟩;have gT:=gj.size;refine fO rfl<|fO rfl<|aE EY<|qL (α:=List ByteArray) dC rfl rfl (gi.keep (gj.block _ gi.lt (.inr oo))) ss o5 λw6 g0 g5=>?_;have gU:=g0.size;have g5:cA w1.heap.size 29 w6 [v3,v5,.slice none 0 0]:=g5;have h6:=h5.chg g0 oo oo;have o6:=o5.chg g0 (.inr oo);have gW:=(o4.chg gj (.inr oo)).chg g0 (.inr oo);have u6:fZ g w1.heap.size w1 w6:=(u4.trans gj.upG1).trans (g0.upG (lr _));refine dG<|bW (λho=>?_) λho=>?_
 ·have ho:kW gK=false:=by simpa using ho
  obtain⟨f,rfl,hp⟩:=zS gL (λx j hh=>⟨_,hh.2⟩) ho;exact hz u6 h6 (by rw[g4,hp];rfl)
 have ho:kW gK=true:=by simpa using ho
 obtain⟨j5,rfl,gX⟩:=ME gL ho;rw[gX]at g4;simp only[Rd.go]at g4
 refine bV 9 (λn us w'=>us=[]/\∃ps j vr hi,fZ g w1.heap.size w1 w'/\w6.heap.size<=w'.heap.size/\iW W g L v e (.ok (j,q)) w'/\cA w1.heap.size 29 w' [v3,v5,vr]/\aK w2.heap.size w3.heap.size w' v3 lg/\aK w4.heap.size w5.heap.size w' v5 ll/\bQ w6.heap.size hi 62 w' vr ps/\w6.heap.size<=hi/\hi<=w'.heap.size/\ps.length=n/\ps.length<=8/\rX L e 8 j5=IS ps (rX L e (8-ps.length) j)) 0 oo
     ⟨rfl,[],j5,_,w6.heap.size,u6,lr _,h6,g5,gW,o6,uC _ _ _ _,lr _,iD _,rfl,dD,(Vs _).symm⟩ ?_
 rintro n _ u _ _ ⟨-,ps,j,vr,hi,u7,_,h7,gY,gZ,ha,hc,_,_,hg,_,hI⟩;refine(Au h7.is_ h7.at.1).mM λw8 g2=>?_;have:=g2.size;have h8:=h7.step g2;have u8:=u7.trans (g2.upG (g:=g) (lo:=w1.heap.size));have gl:=gY.ext g2;have gM:=gZ.ext g2;have gN:=ha.ext g2;have gr:=hc.ext g2;refine dG<|bW (λhb=>?_) λhb=>?_
 rotate_left
 ·have he:L.length<=j:=by simpa using hb
  refine SD gl kT<|g1 u8 h8 (WS (p:=⟨lg,ll,ps⟩) (lo:=w1.heap.size) (hi:=w8.heap.size) gM gN gr.own oo oo oo oo oo oo) (lr _) (lr _) rfl rfl ?_
  have h0:rX L e (8-ps.length) j=.ok ([],j):=by
    cases 8-ps.length with
    |zero=>rw[rX,aP he]
    |succ d=>rw[rX,aP he]
  rw[g4,hI,h0];simp only[IS,Rd.go,oJ];exact⟨rfl,rfl⟩
 have:j<L.length:=by simpa using hb
 refine dJ.mk (λus w'=>us=[]/\aB w8 w'/\¬(eE L j zG/\ps.length=8)) ?_ ?_
 ·refine(BM h8).mono ?_;rintro _ w9 ⟨M,_,rfl,-,-,-⟩;refine CO<|eX<|br (λhp=>?_) (λhp=>⟨rfl,M,λhh=>hp hh.1⟩);have hp:eE L j zG:=hp;refine aE qW<|cX qY (gl.ext M) rfl<|aX pW (gr.ext M).is<|bI<|br (λgO=>?_) (λgO=>⟨rfl,M,λhh=>gO (by rw[hh.2];rfl)⟩);refine fI (cells:=#[.slice none 0 0,.slice none 0 0,.slice none 0 0]) kK<|(IW (c:=5) (h8.step M) dD io).mono ?_;rintro _ gP ⟨C,gs,rfl⟩;have hj:=M.size;have gt:=C.size;refine g1 ((u8.trans M.upG).trans C.upG1) gs (g9 (lo:=w1.heap.size)) (lr _) oo rfl rfl ?_;rw[g4,hI,show 8-ps.length=0 by omega,rX,aH oo,aP hp];rfl
 rintro _ w9 ⟨-,M,hk⟩;have hj:=M.size;refine(zC4 (h8.step M)).mono ?_;rintro _ gP ⟨C,_,pr,gb,rfl,gs,hn,gc⟩;have gt:=C.size;have Pd:=(u8.trans M.upG).trans (C.upG1 (lo:=w1.heap.size));have gd:=(gl.ext M).keep (C.block _ (gl.ext M).lt (.inr oo));have gx:=(gM.ext M).chg C (.inr oo);have gy:=(gN.ext M).chg C (.inr oo);have gz:=(gr.ext M).chg C (.inr oo);refine fO rfl<|fO rfl<|sY (α:=aQ) So λ_ D gA=>?_;have:=D.size;refine oU pO gA (hn.ext D) (.inr oo) λhq O gB=>?_;have:=O.size;have gQ:=(gs.step D).chg O oo oo;have Ig:fZ g w1.heap.size w1 hq:=(Pd.trans D.upG).trans (O.upG oo);have g3:=(gd.ext D).keep (O.block _ (gd.ext D).lt (.inl oo));have gC:=(gx.ext D).chg O (.inl oo);have gD:=(gy.ext D).chg O (.inl oo);have gE:=(gz.ext D).chg O (.inl oo)
 have gf:(∀f,yQ L e j=.error f->rX L e (8-ps.length) j=.error f)/\(∀x k,yQ L e j=.ok (x,k)->∃d,8-ps.length=d+1/\rX L e (8-ps.length) j=(rX L e d k).go λl j=>.ok (x :: l,j)):=by
   cases hd:8-ps.length with
   | zero=>
     have gR:¬eE L j zG:=λhh=>hk ⟨hh,oo⟩;have h1:yQ L e j=.error (mQ L e 3 j):=by unfold yQ;rw[FX gR];rfl
     have h2:rX L e 0 j=.error (mQ L e 3 j):=by rw[rX,aH oo,aH gR]
     rw[h1,h2];exact⟨λf hf=>by cases hf;rfl,λx k hh=>by cases hh⟩
   | succ d=>
     rw[zwD,aH oo];exact⟨λf hf=>by rw[hf];rfl,λx k hh=>⟨d,rfl,by rw[hh];rfl⟩⟩
 refine dG<|bW (λho=>?_) λho=>?_
 ·have ho:kW gb=false:=by simpa using ho
  obtain⟨f,rfl,hp⟩:=zS gc (λx j hh=>⟨_,hh.2⟩) ho;exact hz Ig gQ (by rw[g4,hI,gf.1 f hp];rfl)
 have ho:kW gb=true:=by simpa using ho
 obtain⟨hs,rfl,hp⟩:=ME gc ho;obtain⟨dd,_,ht⟩:=gf.2 _ _ hp;refine aE qW<|cX qY g3 rfl<|DJ pO gB xx λ_ hv=>oS (lo2:=w9.heap.size) (hi2:=gP.heap.size) pW pO H0 Qj dD gE oo hv oo oo (by rw[eB];omega) oo λv14 hw V gg=>?_;have:=V.size;refine aE qW<|qL (α:=List aQ) qY rfl rfl (g3.keep (V.block _ g3.lt (.inl oo))) ss gg.own λ_ Z gF=>?_;have:=Z.size;refine⟨9-(n+1),oo,n+1,oo,rfl,ps++[pr],hs,v14,hw.heap.size,(Ig.trans (V.upG oo)).trans (Z.upG (lr _)),oo,(gQ.chg V oo oo).chg Z oo oo,gF,(gC.chg V (.inl oo)).chg Z (.inr oo),(gD.chg V (.inl oo)).chg Z (.inr oo),gg.chg Z (.inr oo),oo,oo,by simp[hg],by rw[bX,FG];omega,?_⟩;rw[hI,ht,bX,FG,show 8-(ps.length+1)=dd by omega];exact Yl _
def tw(hT:oF W0)(e0:aB W0 w)(hs:s.size<=maxLen) :
   aJ tp 57 [.string s] w λr w'=>aB w w'/\∃g v W,r=pT g 0/\w.heap.size<=g/\g<w'.heap.size/\iW W g (lD s).1 v s.size (Dv s) w':=by
 rw[eB]at hs;obtain⟨k1,k2,_,_,_,_,_⟩:=ab s;have g5:(lD s).2.code=0->(lD s).2=⟨0,0⟩:=pf;refine co (g:=kf [] [] []) Tryz.func57 ?_;refine(yo hT e0).mono ?_;rintro _ w1 ⟨g1,_,rfl,oa⟩;refine fO rfl<|fO rfl ?_;have:=g1.size;refine rK Eu λ_ g2 g9=>?_;have:=g2.size;refine tA (α:=bY) (lo:=0) (hi:=0) tF9 rfl g9 rfl (XG io io) λw3 g3 gb=>?_;have:=g3.size;have g0:aB w1 w3:=g2.xI g3 (lr _);refine xA u9<|SD gb tF9 ?_;obtain⟨av,cap,rfl⟩:=HZ oa.toI;refine fI (cells:=(BD (.slice av (lD s).1.length cap) s.size 0 (lD s).2).toArray) kK<|YE ?_;have g4:=oK w3 (.cells (BD (.slice av (lD s).1.length cap) s.size 0 (lD s).2).toArray 107);have hB:cA w3.heap.size 107 (w3.alloc (.cells (BD (.slice av (lD s).1.length cap) s.size 0 (lD s).2).toArray 107)) (BD (.slice av (lD s).1.length cap) s.size 0 (lD s).2):=zFF;refine⟨(g1.t g0).trans g4,w3.heap.size,_,w1,rfl,oo,hB.lt,oa.is,xx,oo,k2,k1,by unfold bR;omega,(hT.ext e0).ext g1,0,(lD s).2,60,hB,by unfold bR;omega,by unfold bR;omega,?_⟩;unfold Dv;split
 ·rename_i h0;exact⟨rfl,g5 h0,rfl,vS _⟩
 rename_i h0;exact⟨rfl,h0⟩
def znU(hT:oF W0)(e0:aB W0 w0)(hs:s.size<=maxLen) :
   aJ tp 21 [.string s] w0 λr w'=>aB w0 w'/\∃p f a,r=.tuple #[a,.agg #[iV f.code,iV f.at_]]/\aK w0.heap.size w'.heap.size w' a p/\(bR f.code/\bR f.at_)/\KZ s p f:=by
 refine co (g:=⟨extL,[],[],[(3,[0,1,2,3,4,5,6],32),(6,[0,1,2,3,4,5,6],32)],[],[3,6],[]⟩) Tryz.func21 ?_;refine sY (α:=aY) IU λw1 gg gz=>?_;have:=gg.size;have:=gz.lt;refine rK Eu λ_ gh gA=>?_;have:=gA.lt;refine(tw (hT:=hT) (e0:=(e0.t gg).trans gh) hs).mono ?_;rintro _ _ ⟨g5,g,v,W,rfl,_,_,h3⟩;have:=g5.size;have:=h3.lo
 have gi:∀{w5:wD}{lo:Nat},aK lo lo w5 (.agg #[.slice none 0 0,.slice none 0 0,.slice none 0 0]) (⟨[],[],[]⟩:aY):=λ{w5 lo}=>
   WS (l0:=lo) (h0:=lo) (l1:=lo) (h1:=lo) (l2:=lo) (h2:=lo) pB pB pB oo oo oo oo oo oo
 have gB:=(gz.ext gh).ext g5;have gj:=gA.ext g5
 have g0:∀{w9:wD}{f:bY},aB w0 w9->iW W g (lD s).1 v s.size (.error f) w9->fH w1.heap.size w1.heap.size w9 w0.heap.size (aV.zv:aY)->cA w1.heap.size 49 w9 [iV 0,iV 0]->vH s=.error f ->
     XR λX=>lH tp X (Instr.build 29 #[]) (World.drew1 w9) λz=>bZ (pT g 0) (lH tp X (Instr.fieldAt 107 (pT g 0) 3) (World.drew1 w9) λa=>lH tp X (Instr.loadAt 49 a) (World.drew1 w9) λb=>
       fA tp (Instr.storeAt 29 (pT w0.heap.size 0) z) (World.drew1 w9) λw'=>eR X (World.drew1 w9) w'/\fA tp (Instr.storeAt 49 (pT w1.heap.size 0) b) w' λw'=>
         RD tp (qP 29 (pT w0.heap.size 0)) w' λx=>RD tp (qP 49 (pT w1.heap.size 0)) w' λy=>
           aB w0 w'/\∃p f a,Value.tuple [x,y].toArray=.tuple #[a,.agg #[iV f.code,iV f.at_]]/\aK w0.heap.size w'.heap.size w' a p/\(bR f.code/\bR f.at_)/\KZ s p f):=by
   intro w9 f gl h9 gI g9 gJ;obtain⟨id,fd,qd,gn,gb,gc,gd⟩:=h9.blk;obtain⟨rfl,hn⟩:=gd;have V:=cO w9;have gK:=gI.ext V;have gC:=g9.ext V;have gL:=gn.ext V;have:=V.size;have g1:=gl.t V;have:=g9.lt;generalize World.drew1 w9=we at *;refine XR.mk (λc=>c=w0.heap.size)<|MJ (w0:=w0) (λb hb=>by rw[hb];exact iD _) g1 (fI (cells:=#[.slice none 0 0,.slice none 0 0,.slice none 0 0]) kK ?_);refine bZ.mk rfl<|sU YK<|wq (α:=bY) (F:=[]) (cs:=[iV fd.code,iV fd.at_]) tF9 ⟨[],[],[iV fd.code],[iV fd.at_],rfl,rfl,⟨rfl,rfl,gb⟩,rfl,rfl,gc⟩ (λj u hj=>?_) oo dD ?_
   ·have hr:=gL.range
    match j,hj with
    |0,hj=>simp only[List.getElem?_cons_zero,iU]at hj;subst hj;exact hr 3 _ rfl
    |1,hj=>simp only[List.getElem?_cons_succ,List.getElem?_cons_zero,iU]at hj;subst hj;exact hr 4 _ rfl
    |j+2,hj=>simp at hj
   refine oU kT gK (gi (lo:=we.heap.size)) (.inl oo) λ_ D gp=>?_;have:=D.size;refine⟨D.toC.toX λc hc=>by simpa using hc,?_⟩;refine tA (α:=bY) (lo:=0) (hi:=0) tF9 rfl (gC.keep (D.block _ gC.lt (.inr oo))) rfl (XG gb gc) λ_ M gr=>?_;have:=M.size;refine uX kT (gp.chg M (.inr oo) (.inl oo)) xx λu ou=>AX gr tF9<|⟨(g1.xI D (lr _)).xI M oo,⟨[],[],[]⟩,fd,u,rfl,ou.mono oo oo,⟨gb,gc⟩,?_⟩;unfold KZ;rw[gJ];exact⟨rfl,hn⟩
 have g2:=(gg.t gh).trans g5;obtain⟨id,fd,qd,gn,gb,gc,gd⟩:=h3.blk;refine bZ.mk rfl<|aE YK<|aE Ck<|cX aG gn rfl<|fP<|br (λhn=>?_) λh0=>?_
 ·have C:=lu gd hn;rw[C]at h3;refine g0 g2 h3 gB gj ?_;unfold Dv at C;unfold vH;split at C
  ·cases C
  rename_i hne;rw[aH hne];cases C;rfl
 have h0:=eK.1 h0;have C:=(xo gd h0).1
 have gM:(lD s).2.code=0/\id=0/\qd=60:=by
   unfold Dv at C;split at C
   ·rename_i h;cases C;exact⟨h,rfl,rfl⟩
   cases C
 obtain⟨gD,rfl,rfl⟩:=gM;rw[C]at h3;have gE:(∀f,xR (lD s).1 s.size=.error f->vH s=.error f)/\(∀p j,xR (lD s).1 s.size=.ok (p,j)->vH s=.ok p):=⟨λf hf=>by unfold vH;rw[aP gD,hf],λp j hf=>by unfold vH;rw[aP gD,hf]⟩;refine(fw h3).mono ?_;rintro _ w4 ⟨gf,_,p,gF,rfl,h4,o4,gG⟩;have:=gf.size;have gs:aB w0 w4:=g2.xI gf oo;refine fO rfl<|fO rfl<|sY (α:=aY) IU λw5 O gN=>?_;have:=O.size;refine oU kT gN (o4.ext O) (.inr oo) λw6 Z gO=>?_;have:=Z.size;have g3:aB w0 w6:=(gs.t O).xI Z oo;have h6:=(h4.step O).chg Z oo oo;have g4:=((gB.chg gf (.inl oo) (.inl oo)).ext O).chg Z (.inl oo) (.inl oo);have gH:=gj.keep (gf.block _ gj.lt (.inl oo));have gt:=(gH.ext O).keep (Z.block _ (gH.ext O).lt (.inl oo));refine dG<|bW (λho=>?_) λho=>?_
 ·have ho:kW gF=false:=by simpa using ho
  obtain⟨f,rfl,hp⟩:=zS gG (λx j hh=>⟨_,hh.2⟩) ho;exact g0 g3 h6 g4 gt (gE.1 f hp)
 have ho:kW gF=true:=by simpa using ho
 obtain⟨j,rfl,hp⟩:=ME gG ho;refine DJ kT gO xx λ_ o7=>fI (cells:=#[iV 0,iV 0]) kK<|oU kT g4 o7 (.inl oo) λ_ gx gP=>?_;have:=gx.size;refine tA (α:=bY) (lo:=0) (hi:=0) tF9 rfl (gt.keep (gx.block _ gt.lt (.inr oo))) rfl (XG pJ pJ) λw9 gy g9=>?_;have:=gy.size;refine uX kT (gP.chg gy (.inr oo) (.inl oo)) xx λPd gR=>AX g9 tF9<|⟨(g3.xI gx (lr _)).xI gy oo,p,⟨0,0⟩,Pd,rfl,gR.mono oo oo,⟨pJ,pJ⟩,?_⟩;unfold KZ;rw[gE.2 p j hp];exact⟨rfl,rfl⟩
def Jh(t:aD):Prop:=∀{w W:wD}{v:vL},Is W v t->aB W w->wT t<=1048576 ->
 aJ tp 74 [v] w λr w'=>aB w w'/\eG w.heap.size w' r t
def zsI{t:aD}(ih:∀ x∈t.kids,Jh x):Jh t:=by
 intro _ _ _ h e _;have hkl:t.kids.length<=1048576:=by have:=VK t;have:=WY t.kids;omega
 have gs:∀x∈t.kids,wT x<=1048576:=λx hx=>by have:=VK t;have:=WY t.kids;have:=Vw wT hx;omega
 refine co (g:=kf [] [(3,1073737744,[4])] [(5,[0,1,2,3,4,5,6,7,8,9,10,11],384)]) Tryz.func74 ?_;refine iR h e λw1 gh hA=>?_;have hs1:=gh.size;refine rK BZ λw2 M gi=>?_;have hg2:=gi.lt;have hs2:=M.size;refine aE BK<|aS aG (EQ hA) M λgj=>aE CC<|aS aG (DO hA) M λgl=>aE yZ<|eV cG (AU hA) M λg0=>fI (cells:=#[iV t.kind,iV t.num,.string t.name,.slice none 0 0]) kK<|rK BZ λw3 gn gp=>?_;have hg3:=gp.lt;refine tA (x:=aD.mk t.kind t.num t.name []) (lo:=w3.heap.size) (hi:=w3.heap.size) dK rfl gp rfl (FT gj gl g0 pB) λw4 g9 gt=>?_;have hs4:=g9.size;have gb:aB w1 w4:=aB.xI xx g9 oo
 refine bV t.kids.length (λk us w'=>us=[iV k]/\∃v1 hi,hi<=w'.heap.size/\w4.heap.size<=hi/\aB w1 w'/\cA w2.heap.size 67 w' [iV t.kind,iV t.num,.string t.name,v1] /\
     bQ w4.heap.size hi 67 w' v1 (t.kids.take k)/\cA w1.heap.size 67 w' [iV 0,iV 0,.string ByteArray.empty,.slice none 0 0]/\k<=t.kids.length) 0 (z0 _)
     ⟨rfl,.slice none 0 0,w4.heap.size,lr _,iD _,gb,gt,uC _ _ _ _,(gi.ext gn).xI g9 oo,vS _⟩ ?_
 rintro k m _ w5 _ ⟨hu,v1,hi,_,_,g2,gc,r5,g1,_⟩;try replace hu:=cJ hu
 rw[hu];refine aE pF<|aL pE (sK hA) g2 λ_ gx=>aX mY gx<|bM<|br (λ_=>?_) λ_=>?_
 ·have hk:k<t.kids.length:=oo;have g3:=cO w5;have hs6:=g3.size;have D:=g2.t g3;refine aE pF<|cX pE (gc.ext g3) rfl<|aE pF<|aL pE (sK hA) D λ_ gy=>bC mY dK gy hk λ_ _ gd=>aL dK gd D λ_ gz=>(ih _ (cY hk) gz D (gs _ (cY hk))).mono ?_;rintro _ _ ⟨gf,gg⟩;have hs7:=gf.size;refine⟨gf,?_⟩;have C:=g3.t gf;refine vw (α:=aD) mY dK RH V7 dD (r5.ext C) oo gg.toI oo oo (by rw[eB,fY];omega) (by rw[fY];omega) λgA w8 g4 r8=>?_;have hs8:=g4.size;refine aE pF<|qL (α:=List aD) pE rfl rfl ((gc.ext C).xI g4 oo) ss r8.own λ_ g5 gB=>?_;have hs9:=g5.size;refine aU<|⟨m-1,oo,k+1,oo,rfl,gA,w8.heap.size,oo,oo,aB.xI (aB.xI xx g4 oo) g5 oo,gB,?_,((g1.ext C).xI g4 oo).xI g5 oo,oo⟩;have:=r8.chg g5 oo;rwa[<-tk hk]at this
 have hk:t.kids.length<=k:=oo;refine SD gc dK ?_
 have gq:aK w4.heap.size hi w5 (.agg #[iV t.kind,iV t.num,.string t.name,v1]) t:=by
   have:=FT gj gl g0 r5.own;rwa[iO hk,aD.eta]at this
 refine tA dK rfl g1 rfl gq λ_ gr gC=>AX gC dK<|⟨aB.xI xx gr oo,(gq.chg gr oo).own.mono oo⟩
def Nz(t:aD):Jh t:=aD.ind (λt ih{_ _ _}=>zsI ih) t
end Go.Proofs.YtcaakhmhlfgogaaGreatDoor
namespace Go.Sh
open Rep (rep)
variable {F G:List Nat}{b o:Nat}{w:wD}
instance:aV dM:=⟨⟨.slice none 0 0⟩,[.slice none 0 0],λ_=>⟨rfl,rfl,rfl⟩⟩
abbrev kB:=RV bH 69
structure BN where
 a:dM
 b:dM
 c:dM
 I:kB
def BN.ext_iff{x y:BN}:x=y↔(x.a=y.a/\x.b=y.b/\x.c=y.c/\x.I=y.I):=⟨λh=>by rw[h];exact⟨rfl,rfl,rfl,rfl⟩,λh=>by obtain⟨h0,h1,h2,h3⟩:=h;cases x;cases y;simp only at h0 h1 h2 h3;simp only[h0,h1,h2,h3]⟩
instance:Rep BN:=Rep.via λx=>(x.a,x.b,x.c,x.I)
def Md{x:BN}(h:At w b o x):At w b (o+3) x.I:=kE (α:=dM) (β:=kB) (p:=(x.c,x.I)) (kE (α:=dM) (β:=dM×kB) (p:=(x.b,x.c,x.I)) (kE (α:=dM) (β:=dM×dM×kB) (p:=(x.a,x.b,x.c,x.I)) h))
instance:aV BN:=⟨⟨(aV.zv:dM),(aV.zv:dM),(aV.zv:dM),(aV.zv:kB)⟩,aV.zc (dM×dM×dM×kB),λw=>aV.zr (α:=dM×dM×dM×kB) w⟩
def zxl{γ:Type}{H:List Nat->wD->γ->Prop}{x:BN}{upd:BN->γ}(h:bT H F w b o G x upd) :
   ∃G1,bT H F w b (o+0) G1 x.a (λy=>upd ⟨y,x.b,x.c,x.I⟩):=by
 have h':bT H F w b o G (x.a,x.b,x.c,x.I) (λp:dM×dM×dM×kB=>upd ⟨p.1,p.2.1,p.2.2.1,p.2.2.2⟩):=⟨h.here,h.sub,λw' G' _ hc hO hs=>h.back w' G' _ hc hO hs⟩;obtain⟨_,h'⟩:=h'.fst;exact⟨_,h'⟩
def zxm{γ:Type}{H:List Nat->wD->γ->Prop}{x:BN}{upd:BN->γ}(h:bT H F w b o G x upd) :
   ∃G1,bT H F w b (o+1) G1 x.b (λy=>upd ⟨x.a,y,x.c,x.I⟩):=by
 have h':bT H F w b o G (x.a,x.b,x.c,x.I) (λp:dM×dM×dM×kB=>upd ⟨p.1,p.2.1,p.2.2.1,p.2.2.2⟩):=⟨h.here,h.sub,λw' G' _ hc hO hs=>h.back w' G' _ hc hO hs⟩;obtain⟨_,h'⟩:=h'.snd;obtain⟨G1,h'⟩:=h'.fst;exact⟨_,h'⟩
def Kg{γ:Type}{H:List Nat->wD->γ->Prop}{x:BN}{upd:BN->γ}(h:bT H F w b o G x upd) :
   ∃G1,bT H F w b (o+3) G1 x.I (λy=>upd ⟨x.a,x.b,x.c,y⟩):=by
 have h':bT H F w b o G (x.a,x.b,x.c,x.I) (λp:dM×dM×dM×kB=>upd ⟨p.1,p.2.1,p.2.2.1,p.2.2.2⟩):=⟨h.here,h.sub,λw' G' _ hc hO hs=>h.back w' G' _ hc hO hs⟩;obtain⟨_,h'⟩:=h'.snd;obtain⟨G1,h'⟩:=h'.snd;obtain⟨_,h'⟩:=h'.snd;exact⟨_,h'⟩
section
variable {P:pG}{w w':wD}{lo hi:Nat}
def LC{op C to:Int}{t0 t1 t2 t3:vL}{t:aD}(h0:bR op)(h1:bR C)(h2:bR to)(ht:aK lo hi w (.agg #[t0,t1,t2,t3]) t):aK lo hi w (.agg #[iV op,iV C,t0,t1,t2,t3,iV to]) (⟨op,C,t,to⟩:bH):=by
 obtain⟨F,⟨⟨cs,hr,hv⟩,g0,hw⟩,hF⟩:=ht
 have g1:cs=[t0,t1,t2,t3]:=by
   simp only[fF,Rep.agg,cond_true,Value.agg.injEq]at hv;have:=cS Array.toList hv;simpa using this.symm
 subst g1;refine⟨F,⟨⟨[iV op,iV C,t0,t1,t2,t3,iV to],?_,rfl⟩,g0,hw⟩,hF⟩;have:=oO (F:=[]) (c1:=[iV op]) (show rep [] w [iV op] op from⟨rfl,rfl,h0⟩) (oO (F:=[]) (c1:=[iV C]) (show rep [] w [iV C] C from⟨rfl,rfl,h1⟩) (oO hr (show rep [] w [iV to] to from⟨rfl,rfl,h2⟩)));simp only[sL,oJ]at this;exact this
def zGi{X:Nat->Prop}{t g:Nat}{v:vL}{K:vL->Prop}(h:AM P t w g v)(hX:¬X g)(k:K v):lH P X (Instr.loadAt t (pT g 0)) w K:=by
 refine⟨v,λw' hx=>?_,k⟩;obtain⟨u,h1,h2⟩:=pX (P:=P) (K:=λu=>u=v) (h.keep (hx.block g h.lt hX)) (aC w') rfl;subst h2;exact h1 w' xx
def Lf{α β:Type}[Rep α][Rep β]{e b o g:Nat}{F G:List Nat}{t by_:Nat}{x:RV β e}{upd:RV β e->α}{w2:wD}{v':vL}{l':List β}{G':List Nat}{K:wD->Prop}(ht:cT P t=some (1,by_,false))(hL:bT (VH g) (g :: F) w b o G x upd)(gf:∀ c∈g :: F,c<w.heap.size)(hc:cH G w w2)
   (hR:dU G' e w2 v' l') (hN:G'.Nodup) (hs:∀c∈G',c∈G\/c∉g :: F)
   (k:∀w3,cH (b :: G) w w3->(∃F',nL F' w3 g 0 (upd ⟨v',l'⟩)/\∀c∈F',c∈g :: F\/c∈G')->K w3):fA P (Instr.storeAt t (pT b o) v') w2 K:=by
 obtain⟨_,⟨rfl,g4⟩,hr,_,_,hb,gc⟩:=hL.here;have gd:b<w.heap.size:=gf b (hL.sub b ss);have g5:w2.heap[b]?=w.heap[b]?:=hc.block b gd hb;have g0:∃c e,w2.heap[b]?=some (.cells c e (0,0)):=by obtain⟨c,e,h⟩:=gc;exact⟨c,e,by rw[g5];exact h⟩
 have g1:b∉G':=λhm=>by
   rcases hs b hm with h|h
   ·exact hb h
   exact h (hL.sub b ss)
 refine Va ht g0 (yT hr g5) g4.one hR.one λw3 g3 gg=>?_
 have g2:mR b o 1 G w w3:=by
   refine⟨(hc.mono sd).trans (g3.chg.mono sd),λc e gh=>?_⟩;obtain⟨c',h1,h2⟩:=g3.cell c e (by rw[g5];exact gh);exact⟨c',h1,h2⟩
 have C:∀c∈G',w3.heap[c]?=w2.heap[c]?:=λc gb=>g3.chg.block c (hR.lt c gb) (by simp;exactλe=>g1 (e▸gb));obtain⟨c',e',gi⟩:=g0;obtain⟨gj,g9,_⟩:=g3.cell c' e' gi;obtain⟨F',h1,h2⟩:=hL.back w3 G' ⟨v',l'⟩ g2 ⟨[v'],⟨rfl,hR.keep C⟩,gg,hN,(hR.keep C).wr,g1,gj,e',g9⟩ hs;exact k w3 g2.chg ⟨F',h1,h2⟩
end
end Go.Sh
namespace Go.Proofs.YtcaakhmhlfgogaaGreatDoor
open Go Go.Sh Go.Proofs
open Rep (rep)
variable {F F1:List Nat}{W W0 w w1 w2:wD}{g hi k lo n:Nat}{v v0:vL}
section
variable {w:wD}{lo hi:Nat}{K:vL->Prop}
def zui{a b:Int}{u:vL}{t:aD}(ha:bR a)(hb:bR b)(hu:aK lo hi w u t)(k:∀ v,aK lo hi w v (⟨a,b,t,0⟩:bH)->K v):RD tp (Instr.build 69 #[(0,iV a),(1,iV b),(2,u)]) w K:=by
 obtain⟨p,q,rfl⟩:=RQ hu.is;exact fI (cells:=#[iV a,iV b,iV t.kind,iV t.num,.string t.name,.slice p t.kids.length q,iV 0]) kK (k _ (LC ha hb pJ hu))
def n5{a:Int}{u:vL}{t:aD}(ha:bR a)(hu:aK lo hi w u t)(k:∀ v,aK lo hi w v (⟨a,0,t,0⟩:bH)->K v):RD tp (Instr.build 69 #[(0,iV a),(2,u)]) w K:=by
 obtain⟨p,q,rfl⟩:=RQ hu.is;exact fI (cells:=#[iV a,iV 0,iV t.kind,iV t.num,.string t.name,.slice p t.kids.length q,iV 0]) kK (k _ (LC ha pJ pJ hu))
def YT{a b:Int}(ha:bR a)(hb:bR b)(k:∀ v,aK lo hi w v (⟨a,b,bA,0⟩:bH)->K v):RD tp (Instr.build 69 #[(0,iV a),(1,iV b)]) w K:=
 fI (cells:=#[iV a,iV b,iV 0,iV 0,.string nO,.slice none 0 0,iV 0]) kK (k _ (LC ha hb pJ EJ))
def Ya{a b:Int}(ha:bR a)(hb:bR b)(k:∀ v,aK lo hi w v (⟨a,0,bA,b⟩:bH)->K v):RD tp (Instr.build 69 #[(0,iV a),(3,iV b)]) w K:=
 fI (cells:=#[iV a,iV 0,iV 0,iV 0,.string nO,.slice none 0 0,iV b]) kK (k _ (LC ha pJ hb EJ))
def TH{a:Int}(ha:bR a)(k:∀ v,aK lo hi w v (⟨a,0,bA,0⟩:bH)->K v):RD tp (Instr.build 69 #[(0,iV a)]) w K:=
 fI (cells:=#[iV a,iV 0,iV 0,iV 0,.string nO,.slice none 0 0,iV 0]) kK (k _ (LC ha pJ pJ EJ))
end
def rG(W:wD)(g:Nat)(p:aY)(L:List bH)(F:List Nat)(w:wD):Prop:=
 ∃c0 c1 c2 rv,Is W (.agg #[c0,c1,c2]) p/\nL F w g 0 (⟨⟨c0⟩,⟨c1⟩,⟨c2⟩,⟨rv,L⟩⟩:BN)/\aB W w/\W.heap.size<=g/\∀c∈F,W.heap.size<=c
section
variable {W w w':wD}{g:Nat}{p:aY}{L:List bH}{F:List Nat}
def rG.ext(h:rG W g p L F w)(hx:aB w w'):rG W g p L F w':=by
 obtain⟨c0,c1,c2,rv,h1,h2,h3,h4⟩:=h;exact⟨c0,c1,c2,rv,h1,h2.ext hx,h3.trans hx,h4⟩
def rG.old(h:rG W g p L F w):aB W w:=by obtain⟨_,_,_,_,_,_,h3,_⟩:=h;exact h3
def rG.lt(h:rG W g p L F w):g<w.heap.size/\(∀c∈F,c<w.heap.size)/\W.heap.size<=g/\g∉F/\∀c∈F,W.heap.size<=c:=by
 obtain⟨_,_,_,_,_,h2,_,h4,h5⟩:=h;have:=h2.lts;obtain⟨_,_,_,_,_,h6,_⟩:=h2;exact⟨this g ss,λc hc=>this c (by simp[hc]),h4,h6,h5⟩
def rG.keep(h:rG W g p L F w)(hk:∀ c∈g :: F,w'.heap[c]?=w.heap[c]?)(hx:aB W w'):rG W g p L F w':=by
 obtain⟨c0,c1,c2,rv,h1,h2,_,h4⟩:=h;exact⟨c0,c1,c2,rv,h1,h2.keep hk,hx,h4⟩
def Z3{c0 c1 c2:vL}(h:Is W (.agg #[c0,c1,c2]) p):Is W c0 p.B/\Is W c1 p.L/\Is W c2 p.P:=by
 obtain⟨_,cs,hr,hv⟩:=h
 have g0:cs=[c0,c1,c2]:=by
   simp only[fF,Rep.agg,cond_true,Value.agg.injEq]at hv;have:=cS Array.toList hv;simpa using this.symm
 subst g0;obtain⟨F1,_,x1,_,rfl,hx,h1,F3,F4,x3,x4,rfl,g1,h2,h3⟩:=hr;have e1:∃a,x1=[a]:=by obtain⟨a,cap,Fi,xs,rfl,_⟩:=h1;exact⟨_,rfl⟩
 have e2:∃a,x3=[a]:=by obtain⟨a,cap,Fi,xs,rfl,_⟩:=h2;exact⟨_,rfl⟩
 have e3:∃a,x4=[a]:=by obtain⟨a,cap,Fi,xs,rfl,_⟩:=h3;exact⟨_,rfl⟩
 obtain⟨_,rfl⟩:=e1;obtain⟨_,rfl⟩:=e2;obtain⟨_,rfl⟩:=e3;subst g1;simp only[sZ,sL,zI,and_true]at hx;obtain⟨rfl,rfl,rfl⟩:=hx;exact⟨⟨F1,_,h1,rfl⟩,⟨F3,_,h2,rfl⟩,⟨F4,_,h3,rfl⟩⟩
def zHN{K:vL->Prop}(h:rG W g p L F w)(k:∀ v,Is W v p.B->K v) :
   RD tp (Instr.fieldAt 59 (pT g 0) 0) w λx26=>RD tp (Instr.fieldAt 29 x26 0) w λx27=>RD tp (Instr.loadAt 26 x27) w λx28=>K x28:=by
 obtain⟨_,_,_,_,h1,h2,_,_,_⟩:=h;obtain⟨_,hL⟩:=zxl (bT.var h2);obtain⟨_,⟨_,rfl,_⟩,hr,_⟩:=hL.here;refine aE Nc<|aE BY<|xZ dC hr (k _ (Z3 h1).1)
def Tj{K:vL->Prop}(h:rG W g p L F w)(k:∀ v,Is W v p.L->K v) :
   RD tp (Instr.fieldAt 59 (pT g 0) 0) w λx26=>RD tp (Instr.fieldAt 29 x26 1) w λx27=>RD tp (Instr.loadAt 26 x27) w λx28=>K x28:=by
 obtain⟨_,_,_,_,h1,h2,_,_,_⟩:=h;obtain⟨_,hL⟩:=zxm (bT.var h2);obtain⟨_,⟨_,rfl,_⟩,hr,_⟩:=hL.here;refine aE Nc<|aE EY<|xZ dC hr (k _ (Z3 h1).2.1)
def U9{K:vL->Prop}(h:rG W g p L F w)(k:∀ v,Is W v p->K v) :
   RD tp (Instr.fieldAt 59 (pT g 0) 0) w λx42=>RD tp (Instr.loadAt 29 x42) w λx43=>K x43:=by
 obtain⟨c0,c1,c2,_,h1,h2,h3,_,_⟩:=h;refine aE Nc ?_;obtain⟨F1,g3,g4,g1⟩:=h1
 have g5:g3=[c0,c1,c2]:=by
   simp only[fF,Rep.agg,cond_true,Value.agg.injEq]at g1;have:=cS Array.toList g1;simpa using this.symm
 subst g5;obtain⟨_,g9,g2,_⟩:=h2;obtain⟨_,_,_,_,_,rfl,⟨_,rfl,_⟩,_,_,_,_,_,rfl,⟨_,rfl,_⟩,_,_,_,x6,_,rfl,⟨_,rfl,_⟩,_⟩:=g9
 have gb:w.rangeAt g 0 [c0,c1,c2]:=by
   have:([c0]++([c1]++([c2]++x6)))=[c0,c1,c2]++x6:=rfl;rw[this]at g2;exact(wU g2).1
 have g0:iS W w g (0+0) p:=⟨F1,_,g4,gb⟩;exact rI kT g0 h3 xx λv hv=>k v hv
def Cg{lo hi:Nat}{u:vL}{x:bH}(h:rG W g p L F w)(hx:aK lo hi w u x)(hgl:g<lo)(gn:∀ c∈F,c<lo)(hlo:lo<=w.heap.size)(hL:L.length<=1000000) :
   aJ tp 28 [pT g 0,u] w λr w'=>r=iV (L.length:Int)/\cH (g :: F) w w'/\∃F',rG W g p (L++[x]) F' w'/\∀c∈F',c∈F\/lo<=c:=by
 obtain⟨_,e2,_,e4,e5⟩:=h.lt;obtain⟨_,gj,g3⟩:=hx;refine co (g:=⟨extL,[],[],[(1,[0,1,2,3,4,5,6,7,8,9,10],192)],[],[1],[]⟩) Tryz.func28 ?_;refine lA fE rfl gj.is xx λw1 gl _ gs=>?_;have:=gl.size;have g4:=cO w1;have:=g4.size;have gt:=gs.ext g4;have C:=gl.t g4;generalize World.drew1 w1=w2 at *;have gx:=gj.ext C;obtain⟨c0,c1,c2,_,h1,h2,_,h4,_⟩:=h.ext C;obtain⟨G1,g5⟩:=Kg (bT.var h2);obtain⟨_,⟨rfl,g9⟩,gy,gz,_,gA,_⟩:=g5.here
 have D:∀c∈G1,c∈F:=λc hc=>by
   rcases bF.1 (g5.sub c (by simp[hc]))with e|h
   ·exact absurd (e▸hc) gA
   exact h
 have g0:=h2.lts;refine XR.mk (λc=>c∈F)<|bZ.mk rfl<|sU PH<|zW eJ gy (λh=>e4 h)<|zGi gt (λh=>by have:=e2 _ h;omega)<|CT (β:=bH) (G:=G1) eQ fE Jy Nt dD g9 gz gx (λc hc gB=>by have:=g3 c hc;have:=gn c (D c gB);omega) (by rw[eB];show L.length+1<=_;omega) (by show(L.length+1)*_<=_;omega) (λw3 gb w4 _ gc gp gC gD gd=>?_) λ_ w3 gc h=>⟨gc.toX,h⟩;refine⟨gp.toX (λc hc=>D c hc),?_⟩;refine bZ.mk rfl<|sU PH ?_;have gf:cH G1 w2 w4:=(gc.chg G1).trans gp;refine Lf eJ g5 g0 gf gC gD (λc hc=>?_) λw5 gE ⟨F',gg,gq⟩=>?_
 ·rcases gd c hc with h|h|h
  ·exact .inl h
  ·refine .inr λhm=>?_;have:=g3 c h;rcases bF.1 hm with e|hm
   ·omega
   have:=gn c hm;omega
  exact .inr λhm=>by have:=g0 c hm;omega
 have g1:g∉F':=by obtain⟨_,_,_,_,_,hn,_⟩:=gg;exact hn
 have g2:cH (g :: F) w w5:=(C.chg _).trans (gE.mono λc hc=>by
   rcases bF.1 hc with rfl|hc
   ·simp
   simp[D c hc])
 refine bZ.mk rfl<|aE PH<|aL (α:=kB) eJ (Md gg.at) xx λv18 gF=>?_;obtain⟨gh,gi⟩:=Nf gF;have gh:v18=gb:=gh;have gi:Is w5 gb (L++[x]):=gi;rw[gh];refine aX eQ gi ?_;have gr:((L++[x]).length:Int)=(L.length:Int)+1:=by simp
 refine kQ (by show bR (((L++[x]).length:Int)-1);rw[gr];unfold bR;omega)<|⟨?_,g2,F',⟨c0,c1,c2,gb,h1,gg,h.old.chgL g2 (λc hc=>?_),h4,λc hc=>?_⟩,λc hc=>?_⟩
 ·show Value.int .i64 (((L++[x]).length:Int)-1)=_;rw[gr];congr 1;omega
 ·rcases bF.1 hc with rfl|hc
  ·exact h4
  exact e5 c hc
 ·rcases gq c hc with h|h
  ·rcases bF.1 h with rfl|h
   ·exact absurd hc g1
   exact e5 c h
  rcases gd c h with h|h|h
  ·exact e5 c (D c h)
  ·have:=g3 c h;omega
  omega
 rcases gq c hc with h|h
 ·rcases bF.1 h with rfl|h
  ·exact absurd hc g1
  exact .inl h
 rcases gd c h with h|h|h
 ·exact .inl (D c h)
 ·exact .inr (g3 c h).1
 exact .inr oo
def Fu{A R:List bH}{y:bH}{k:Nat}{K:wD->Prop}(h:rG W g p (A++y :: R) F w)(hk:A.length=k)(hL:(A++y :: R).length<=1000000)
   (kk:∀w' F',cH (g :: F) w w'->rG W g p (A++(⟨y.op,y.arg,y.term,((A++y :: R).length:Int)⟩:bH) :: R) F' w'->(∀c∈F',c∈F)->K w') :
   bZ (pT g 0)<|RD tp (Instr.fieldAt 59 (pT g 0) 1) w λx110=>RD tp (Instr.loadAt 32 x110) w λx111=>
     bZ (pT g 0)<|RD tp (Instr.fieldAt 59 (pT g 0) 1) w λx115=>RD tp (Instr.loadAt 32 x115) w λx116=>
     RD tp (Builtin.len_ #[32] 3 [x116].toArray) w λx117=>RD tp (Instr.indexAt 32 x111 (iV k)) w λx118=>RD tp (Instr.fieldAt 69 x118 3) w λx119=>
     fA tp (Instr.storeAt 3 x119 x117) w λw=>K w:=by
 obtain⟨_,_,e3,_,e5⟩:=h.lt;obtain⟨c0,c1,c2,rv,h1,h2,h3,h4,_⟩:=h;have:=h2.lts;have D:k<(A++y :: R).length:=by simp;omega
 obtain⟨_,g2⟩:=Kg (bT.var h2);obtain⟨_,⟨rfl,g0⟩,g3,_⟩:=g2.here;obtain⟨_,_,_,_,g4,_,g5⟩:=g2.elemV (k:=k) D;refine bZ.mk rfl<|aE PH<|xZ eJ g3<|bZ.mk rfl<|aE PH<|xZ eJ g3<|aX eQ (show Is w rv (A++y :: R)from g0.own.is)<|UL eQ fE g4 D ?_;obtain⟨_,g9⟩:=Yd g5;refine aE yU<|WX aG g9 (xN io) ss λw' hc ⟨F',hO,gb⟩=>?_;have g1:g∉F':=by obtain⟨_,_,_,_,_,hn,_⟩:=hO;exact hn
 have hF:∀c∈F',c∈F:=λc C=>by
   rcases gb c C with h|h
   ·rcases bF.1 h with rfl|h
    ·exact absurd C g1
    exact h
   simp at h
 refine kk w' F' hc ⟨c0,c1,c2,rv,h1,?_,h3.chgL hc λc C=>?_,h4,λc C=>e5 c (hF c C)⟩ hF
 ·have hO:nL F' w' g 0 (⟨⟨c0⟩,⟨c1⟩,⟨c2⟩,⟨rv,(A++y :: R).set k ⟨((A++y :: R)[k]'D).op,((A++y :: R)[k]'D).arg,((A++y :: R)[k]'D).term,((A++y :: R).length:Int)⟩⟩⟩:BN):=hO;rw[XZ hk,OH hk D]at hO;exact hO
 rcases bF.1 C with rfl|C
 ·exact e3
 exact e5 c C
end
def wG(G L P:List ByteArray)(x:aA)(a:Nat):rJ G L P x a =
   if x.kind=1 then[⟨1,plc x.name G,x.term,0⟩]
   else if x.kind=4 then[⟨4,plc x.name P,bA,0⟩]
   else if x.kind=5 then[⟨5,plc x.name P,bA,0⟩]
   else if x.kind=6 then[⟨6,plc x.name L,bA,0⟩]
   else if x.kind=7 then[⟨7,plc x.name L,bA,0⟩]
   else if x.kind=8 then[⟨8,0,bA,0⟩]
   else if x.kind=3 then⟨2,0,x.term,((a+1+(eA G L P x.body (a+1)).length+1:Nat):Int)⟩ :: (eA G L P x.body (a+1)++[⟨3,0,bA,(a:Int)⟩])
   else if x.kind=2 then
     (if x.els.length=0 then⟨2,0,x.term,((a+1+(eA G L P x.body (a+1)).length:Nat):Int)⟩ :: eA G L P x.body (a+1)
     else⟨2,0,x.term,((a+1+(eA G L P x.body (a+1)).length+1:Nat):Int)⟩ :: (eA G L P x.body (a+1) ++
       (⟨3,0,bA,((a+1+(eA G L P x.body (a+1)).length+1+(eA G L P x.els (a+1+(eA G L P x.body (a+1)).length+1)).length:Nat):Int)⟩ :: eA G L P x.els (a+1+(eA G L P x.body (a+1)).length+1))))
   else[]:=by cases x;rw[rJ];rfl
section
variable (G L P:List ByteArray)
mutual
theorem Hw:∀(x:aA)(a:Nat),(rJ G L P x a).length<=2*fU x
  | .mk k n t b e,a=>by
    have h1:=KA b (a+1);have h2:=KA e (a+1+(eA G L P b (a+1)).length+1);rw[rJ,fU];repeat' split
    all_goals simp only[dA,eU,bX];omega
theorem KA:∀(l:List aA)(a:Nat),(eA G L P l a).length<=2*cM l
  |[],a=>by rw[eA];simp
  | x :: l,a=>by
    have h1:=Hw x a;have h2:=KA l (a+(rJ G L P x a).length);rw[eA,cM,bX];omega
end
end
def Aa(x:aA):fU x=1+cM x.body+cM x.els:=by cases x;rw[fU];rfl
def qR(h:cH (g :: F) w w1)(k:cH (g :: F1) w1 w2)(hF:∀ c∈F1,c∈F\/w.heap.size<=c):cH (g :: F) w w2:=
 ⟨k.os.trans h.os,k.tape.trans h.tape,k.output.trans h.output,eH h.size k.size,λb hb hn=>(k.block b (kP hb h.size) λhm=>by
   simp only[bF,not_or]at hn;rcases bF.1 hm with e|hm
   ·exact hn.1 e
   rcases hF b hm with h|h
   ·exact hn.2 h
   omega).trans (h.block b hb hn)⟩
def Tx{p:aY}(h:Is W v p):p.P.length<=9223372036854775807:=by
 obtain⟨_,_,hr,_⟩:=h;obtain⟨_,_,_,_,rfl,_,_,_,_,_,_,rfl,_,_,h3⟩:=hr;obtain⟨_,cap,_,_,_,q1,q2,_⟩:=h3;have q1:p.P.length<=cap:=q1;rw[eB]at q2;omega
def NW(c:qG)(n:Nat)(l:List aA):Prop:=∀{W w:wD}{g:Nat}{p:aY}{L:List bH}{F:List Nat}{v:vL},rG W g p L F w->Is W v l->(∀x∈l,dH c n x)->L.length+2*cM l<=1000000 ->
 aJ tp 27 [pT g 0,v] w λr w'=>cH (g :: F) w w'/\∃F',rG W g p (L++eA p.B p.L (p.P.map aQ.name) l L.length) F' w'/\∀c∈F',c∈F\/w.heap.size<=c
def R8(W w:wD)(g:Nat)(p:aY)(L:List bH)(F:List Nat)(l:List aA)(k:Nat)(us:List vL)(w':wD):Prop:=
 us=[iV k]/\∃L1 F1,k<=l.length/\L++eA p.B p.L (p.P.map aQ.name) l L.length=L1++eA p.B p.L (p.P.map aQ.name) (l.drop k) L1.length/\L1.length+2*cM (l.drop k)<=1000000 /\
   cH (g :: F) w w'/\rG W g p L1 F1 w'/\∀c∈F1,c∈F\/w.heap.size<=c
def Tv{c:qG}{l:List aA}(ih:∀ m l,m+1=n->NW c m l)(gg:∀ m,NW c m []):NW c n l:=by
 intro W w g p L F _ hE h hs gX;have hln:=fD h;obtain⟨-,_,_,_,_⟩:=hE.lt;refine co (g:=kf [] [(1,766247770432944429179173513575154591809369561091801072,[4])] [(6,[0,1,2,3,4,5,6,7,9,10,8,11,12,13],2304),(8,[0,1,2,3,4,5,6,7,8,9],128),(10,[0,1,2,3,4,5,6,7,8,9],128),(12,[0,1,2,3,4,5,6,7,8,9,10],256),(14,[0,1,2,3,4,5,6,7,8,9,10],256),(21,[0,1,2,3,4,5,6,7,8,9,10,11,12],0),(27,[0,1,2,3,4,5,6,7,8,9,10,11,12],0),(29,[0,1,2,3,4,5,6,7,8,9,10,11,12],0),(30,[0,1,2,3,4,5,6,7,8,9,10,11,12],0)]) Tryz.func27 ?_;refine bV l.length (R8 W w g p L F l) 0 (z0 _) ⟨rfl,L,F,z0 _,ss,by simpa using gX,cH.refl _ _,hE,λc hc=>.inl hc⟩ ?_;rintro k m u w1 _ ⟨hu,L1,F1,_,gS,gB,gY,gT,g5⟩;try replace hu:=cJ hu
 rw[hu];have hR:=gY.size;refine aX fJ h<|bM<|br (λ_=>?_) λ_=>?_
 rotate_left
 ·have hk:k=l.length:=oo;subst hk;rw[BA,eA,oJ]at gS;rw[gS];exact⟨gY,F1,gT,g5⟩
 have hk:k<l.length:=oo;obtain⟨x,hx⟩:∃x,x=l[k]:=⟨_,rfl⟩;have gy:dH c n x:=by rw[hx];exact hs _ (cY hk)
 have hA:l.drop k=x :: l.drop (k+1):=by rw[hx];exact tD hk
 rw[hA,eA]at gS;rw[hA,cM]at gB;have hel:=Hw p.B p.L (p.P.map aQ.name) x L1.length;have hT:=Aa x
 have O:∀w' F2,cH (g :: F) w w'->rG W g p (L1++rJ p.B p.L (p.P.map aQ.name) x L1.length) F2 w'->(∀c∈F2,c∈F\/w.heap.size<=c) ->
     ∃m',m'<m/\∃k',k'+m'=l.length/\R8 W w g p L F l k' [iV ((k+1:Nat):Int)] w':=λw' F2 hc hE hF=>
   ⟨m-1,oo,k+1,oo,rfl,_,F2,oo,by rw[gS,bX,fR],by rw[bX];omega,hc,hE,hF⟩
 obtain⟨_,f2,_,_,_⟩:=gT.lt;have hC:=gT.old;refine bC fJ fB h hk λ_ _ gC=>?_;rw[<-hx]at gC;refine aL fB gC hC λ_ hD=>mB zX rfl fB rfl hD hC λw2 gZ _ hG=>?_;have hs2:=gZ.size;have hg5:=hG.lt;have gq:=gT.ext gZ;have hH:=uT hD hG rfl;have hU:cH (g :: F) w w2:=gY.trans (gZ.chg _)
 have g9:(x.kind=1\/x.kind=2\/x.kind=3)->BX c.gl x.term:=λ_=>by
   have h0:uD c x->BX c.gl x.term:=λq=>by
     rcases q with q|q|q|q
     ·exact q.2.2.1
     ·have:=q.1;omega
     ·have:=q.1;omega
     have:=q.1;omega
   cases n with
   |zero=>exact h0 gy.zero
   | succ n=>
     rcases gy.succ with q|⟨_,_,h3,_⟩
     ·exact h0 q
     exact h3
 have h6:∃q,(∀y∈x.body,dH c q y)/\(∀y∈x.els,dH c q y)/\NW c q x.body/\NW c q x.els:=by
   have h0:uD c x->x.body=[]/\x.els=[]:=λh=>by rcases h with q|q|q|q<;>exact⟨q.2.2.2.1,q.2.2.2.2⟩
   cases n with
   | zero=>
     obtain⟨h1,h2⟩:=h0 gy.zero;rw[h1,h2];exact⟨0,ss,ss,gg 0,gg 0⟩
   | succ n=>
     rcases gy.succ with q|⟨_,_,_,h4,h5⟩
     ·obtain⟨h1,h2⟩:=h0 q;rw[h1,h2];exact⟨0,ss,ss,gg 0,gg 0⟩
     exact⟨n,h4,h5,ih n _ rfl,ih n _ rfl⟩
 obtain⟨q,hI,hV,hJ,hW⟩:=h6;have V:=hH.at gq.old;refine aE vZ<|aS aG (yI V) xx λ_=>?_
 have g0:∀{w3:wD}{lo hi:Nat}{u:vL}{y:bH}{K:VW},aB w2 w3->aK lo hi w3 u y->w1.heap.size<=lo->lo<=w3.heap.size ->
     (∀w4 F4,cH (g :: F) w w4->rG W g p (L1++[y]) F4 w4->(∀c∈F4,c∈F1\/w1.heap.size<=c)->iS W w4 w1.heap.size 0 x->w1.heap.size<w4.heap.size->w1.heap.size∉F4\/lo<=w1.heap.size->K (iV (L1.length:Int)) w4)->aJ tp 28 [pT g 0,u] w3 K:=by
   intro w3 lo hi u y K C ho h1 h2 hK;have gD:=C.size;refine(Cg (gq.ext C) ho oo (λc hc=>by have:=f2 c hc;omega) h2 oo).mono ?_;rintro _ w4 ⟨rfl,h8,F4,hX,hL⟩;have gr:=h8.size;refine hK w4 F4 (qR (hU.trans (C.chg _)) h8 g5) hX (λc hc=>(hL c hc).imp id λh=>oo) ((hH.ext C).keep (h8.block _ oo λhm=>?_)) oo ?_
   ·rcases bF.1 hm with e|hm
    ·omega
    have:=f2 _ hm;omega
   rcases kR w1.heap.size lo with hl|hl
   ·refine .inl λhm=>?_;rcases hL _ hm with h|h
    ·have:=f2 _ h;omega
    omega
   exact .inr hl
 refine bI<|br (λk1=>?_) λk1=>?_
 ·have C:=cO w2;have g3:=gq.ext C;refine bZ.mk rfl<|zHN g3 λgU g4=>aE oB<|eV cG (qF V) C λhS=>aE sS<|aL dK (wV V) C λ_ hY=>(NZ g4 g3.old).mM λw4 D=>?_;refine⟨D,?_⟩;have gE:=(g9 (.inl k1)).2.2;refine(Nz _ hY xx oo).mono ?_;rintro _ w5 ⟨h9,ha⟩;have gD:=C.size;have gr:=D.size;have hM:=h9.size;refine⟨h9,?_⟩;have gz:=JE (s:=x.name) (l:=p.B);have gh:=fD g4;refine zui io io ha.toI λgF gb=>g0 xx gb oo oo λw6 F6 Z M g1 _ _ _=>aU<|O w6 F6 Z ?_ λc hc=>(g1 c hc).elim (g5 c) λh=>.inr oo;rw[wG,aP k1];exact M
 refine bI<|br (λk4=>?_) λk4=>?_
 ·have C:=cO w2;have g3:=gq.ext C;have gD:=C.size;refine bZ.mk rfl<|U9 g3 λgU g4=>aE oB<|eV cG (qF V) C λhS=>(Le g4 g3.old).mM λw4 D=>?_;have gr:=D.size;refine⟨D,?_⟩;have gz:=JE (s:=x.name) (l:=p.P.map aQ.name);have gh:p.P.length<=9223372036854775807:=Tx g4;rw[kL]at gz;refine YT (lo:=w4.heap.size) (hi:=w4.heap.size) io io λgF gb=>g0 xx gb oo oo λw6 F6 Z M g1 _ _ _=>aU<|O w6 F6 Z ?_ λc hc=>(g1 c hc).elim (g5 c) λh=>.inr oo;rw[wG,aH k1,aP k4];exact M
 refine bI<|br (λk5=>?_) λk5=>?_
 ·have C:=cO w2;have g3:=gq.ext C;have gD:=C.size;refine bZ.mk rfl<|U9 g3 λgU g4=>aE oB<|eV cG (qF V) C λhS=>(Le g4 g3.old).mM λw4 D=>?_;have gr:=D.size;refine⟨D,?_⟩;have gz:=JE (s:=x.name) (l:=p.P.map aQ.name);have gh:p.P.length<=9223372036854775807:=Tx g4;rw[kL]at gz;refine YT (lo:=w4.heap.size) (hi:=w4.heap.size) io io λgF gb=>g0 xx gb oo oo λw6 F6 Z M g1 _ _ _=>aU<|O w6 F6 Z ?_ λc hc=>(g1 c hc).elim (g5 c) λh=>.inr oo;rw[wG,aH k1,aH k4,aP k5];exact M
 refine bI<|br (λk6=>?_) λk6=>?_
 ·have C:=cO w2;have g3:=gq.ext C;have gD:=C.size;refine bZ.mk rfl<|Tj g3 λgU g4=>aE oB<|eV cG (qF V) C λhS=>(NZ g4 g3.old).mM λw4 D=>?_;have gr:=D.size;refine⟨D,?_⟩;have gz:=JE (s:=x.name) (l:=p.L);have gh:=fD g4;refine YT (lo:=w4.heap.size) (hi:=w4.heap.size) io io λgF gb=>g0 xx gb oo oo λw6 F6 Z M g1 _ _ _=>aU<|O w6 F6 Z ?_ λc hc=>(g1 c hc).elim (g5 c) λh=>.inr oo;rw[wG,aH k1,aH k4,aH k5,aP k6];exact M
 refine bI<|br (λk7=>?_) λk7=>?_
 ·have C:=cO w2;have g3:=gq.ext C;have gD:=C.size;refine bZ.mk rfl<|Tj g3 λgU g4=>aE oB<|eV cG (qF V) C λhS=>(NZ g4 g3.old).mM λw4 D=>?_;have gr:=D.size;refine⟨D,?_⟩;have gz:=JE (s:=x.name) (l:=p.L);have gh:=fD g4;refine YT (lo:=w4.heap.size) (hi:=w4.heap.size) io io λgF gb=>g0 xx gb oo oo λw6 F6 Z M g1 _ _ _=>aU<|O w6 F6 Z ?_ λc hc=>(g1 c hc).elim (g5 c) λh=>.inr oo;rw[wG,aH k1,aH k4,aH k5,aH k6,aP k7];exact M
 refine bI<|br (λk8=>?_) λk8=>?_
 ·refine TH (lo:=w2.heap.size) (hi:=w2.heap.size) io λgF gb=>?_;refine g0 xx gb oo oo λw6 F6 Z M g1 _ _ _=>aU<|O w6 F6 Z ?_ λc hc=>(g1 c hc).elim (g5 c) λh=>.inr oo;rw[wG,aH k1,aH k4,aH k5,aH k6,aH k7,aP k8];exact M
 have hZ:=KA p.B p.L (p.P.map aQ.name) x.body (L1.length+1);refine bI<|br (λk3=>?_) λk3=>?_
 ·refine aE sS ?_;refine aL dK (wV V) xx λ_ j0=>?_;have gE:=(g9 (.inr (.inr k3))).2.2;refine(Nz _ j0 xx oo).mono ?_;rintro _ w4 ⟨D,hb⟩;have gr:=D.size;refine n5 io hb.toI λ_ j1=>g0 D j1 oo oo λw5 F5 gG gH gV gi gI _=>aE rZ<|rI fW (PJ gi) gH.old xx λ_ hd=>(hJ gH hd hI so).mono ?_;rintro _ w6 ⟨Z,F6,M,g1⟩;have hM:=gG.size;have j2:=Z.size;obtain⟨z1,z2,z3,z4,z5⟩:=M.lt;refine Ya (lo:=w6.heap.size) (hi:=w6.heap.size) io io λ_ he=>(Cg M he z1 z2 (lr _) so).mono ?_;rintro _ w7 ⟨-,gA,F7,gJ,gW⟩;have j3:=gA.size;have gd:=cO w7
  have e7:L1++[(⟨2,0,x.term,0⟩:bH)]++eA p.B p.L (p.P.map aQ.name) x.body (L1++[(⟨2,0,x.term,0⟩:bH)]).length++[⟨3,0,bA,(L1.length:Int)⟩] =
      L1++(⟨2,0,x.term,0⟩:bH) :: (eA p.B p.L (p.P.map aQ.name) x.body (L1.length+1)++[⟨3,0,bA,(L1.length:Int)⟩]):=by simp
  rw[e7]at gJ;have g2:∀c∈F6,c∈F\/w.heap.size<=c:=λc hc=>(g1 c hc).elim (λh=>(gV c h).elim (g5 c) λh=>.inr oo) λh=>.inr oo;have gc:∀c∈F7,c∈F\/w.heap.size<=c:=λc hc=>(gW c hc).elim (g2 c) λh=>.inr oo;have gs:=qR (qR gG Z λc hc=>(gV c hc).elim (g5 c) λh=>.inr oo) gA g2;refine Fu (gJ.ext gd) rfl so λw9 F9 gt gf gK=>aU<|O w9 F9 (qR (gs.trans (gd.chg _)) gt gc) ?_ λc hc=>gc c (gK c hc);rw[wG,aH k1,aH k4,aH k5,aH k6,aH k7,aH k8,aP k3]
  have:((L1++(⟨2,0,x.term,0⟩:bH) :: (eA p.B p.L (p.P.map aQ.name) x.body (L1.length+1)++[⟨3,0,bA,(L1.length:Int)⟩])).length:Int)=((L1.length+1+(eA p.B p.L (p.P.map aQ.name) x.body (L1.length+1)).length+1:Nat):Int):=by
    simp only[bX,dA,eU];omega
  rw[this]at gf;exact gf
 refine bI<|br (λk2=>?_) λk2=>?_
 rotate_left
 ·exfalso;have h0:uD c x->False:=λq=>by rcases q with q|q|q|q<;>(have:=q.1;omega)
  cases n with
  |zero=>exact h0 gy.zero
  | succ n=>
    rcases gy.succ with q|⟨q,_⟩
    ·exact h0 q
    omega
 refine aE sS<|aL dK (wV V) xx λ_ hf=>?_;have gE:=(g9 (.inr (.inl k2))).2.2;refine(Nz _ hf xx oo).mono ?_;rintro _ w4 ⟨D,gx⟩;have gr:=D.size;refine n5 io gx.toI λ_ hg=>g0 D hg oo oo λw5 F5 gG gH gV gi gI gj=>?_;have gj:w1.heap.size∉F5:=gj.elim id λh=>oo;have hM:=gG.size;refine aE rZ<|rI fW (PJ gi) gH.old xx λ_ hh=>(hJ gH hh hI so).mono ?_;rintro _ w6 ⟨Z,F6,M,g1⟩;have j2:=Z.size
 have hN:=gi.keep (Z.block _ gI λhm=>by
   rcases bF.1 hm with e|hm
   ·omega
   exact gj hm)
 obtain⟨z1,z2,z3,z4,z5⟩:=M.lt;have gL:∀c∈F5,c∈F\/w.heap.size<=c:=λc hc=>(gV c hc).elim (g5 c) λh=>.inr oo;have g2:∀c∈F6,c∈F\/w.heap.size<=c:=λc hc=>(g1 c hc).elim (gL c) λh=>.inr oo;have gM:=qR gG Z gL
 have e6:L1++[(⟨2,0,x.term,0⟩:bH)]++eA p.B p.L (p.P.map aQ.name) x.body (L1++[(⟨2,0,x.term,0⟩:bH)]).length =
     L1++(⟨2,0,x.term,0⟩:bH) :: eA p.B p.L (p.P.map aQ.name) x.body (L1.length+1):=by simp
 rw[e6]at M;obtain⟨B,hB⟩:∃B,B=eA p.B p.L (p.P.map aQ.name) x.body (L1.length+1):=⟨_,rfl⟩;rw[<-hB]at M hZ;refine aE pU<|rI fW (PN hN) M.old xx λ_ hj=>aX fJ hj<|oN<|br (λke=>?_) λke=>?_
 ·refine TH (lo:=w6.heap.size) (hi:=w6.heap.size) io λ_ hn=>(Cg M hn z1 z2 (lr _) so).mono ?_;rintro _ w7 ⟨hq,gA,F7,gJ,gW⟩;rw[hq];have j3:=gA.size;have gd:=cO w7;have hs8:=gd.size;have e7:L1++(⟨2,0,x.term,0⟩:bH) :: B++[⟨3,0,bA,0⟩]=L1++(⟨2,0,x.term,0⟩:bH) :: (B++[⟨3,0,bA,0⟩]):=by simp
  rw[e7]at gJ;have gc:∀c∈F7,c∈F\/w.heap.size<=c:=λc hc=>(gW c hc).elim (g2 c) λh=>.inr oo;have gs:=qR gM gA g2;have gN:w1.heap.size∉F6:=λhm=>(g1 _ hm).elim gj λh=>oo;have hr:w1.heap.size∉F7:=λhm=>(gW _ hm).elim gN λh=>oo
  have j4:=hN.keep (gA.block _ oo λhm=>by
    rcases bF.1 hm with e|hm
    ·omega
    exact gN hm)
  refine Fu (gJ.ext gd) rfl so λw9 F9 gt gf gK=>?_;have hs9:=gt.size
  have j5:=(j4.ext gd).keep (gt.block _ oo λhm=>by
    rcases bF.1 hm with e|hm
    ·omega
    exact hr hm)
  refine aE pU<|rI fW (PN j5) gf.old xx λ_ ht=>?_;obtain⟨y0,hO⟩:∃y0:bH,y0=⟨2,0,x.term,((L1++(⟨2,0,x.term,0⟩:bH) :: (B++[⟨3,0,bA,0⟩])).length:Int)⟩:=⟨_,rfl⟩;have gf:rG W g p (L1++y0 :: (B++[⟨3,0,bA,0⟩])) F9 w9:=by rw[hO];exact gf
  refine(hW gf ht hV so).mono ?_;rintro _ j6 ⟨hv,j7,gn,hw⟩;have gO:∀c∈F9,c∈F\/w.heap.size<=c:=λc hc=>gc c (gK c hc);have gp:∀c∈j7,c∈F\/w.heap.size<=c:=λc hc=>(hw c hc).elim (gO c) λh=>.inr oo;have gP:=qR (qR (gs.trans (gd.chg _)) gt gc) hv gO;have gQ:=cO j6;have hP:=KA p.B p.L (p.P.map aQ.name) x.els (L1++y0 :: (B++[⟨3,0,bA,0⟩])).length;have j8:(L1++y0 :: (B++[(⟨3,0,bA,0⟩:bH)])).length=L1.length+1+B.length+1:=by simp only[bX,dA,eU];omega
  rw[j8]at gn hP;obtain⟨E,hQ⟩:∃E,E=eA p.B p.L (p.P.map aQ.name) x.els (L1.length+1+B.length+1):=⟨_,rfl⟩;rw[<-hQ]at gn hP;have j9:L1++y0 :: (B++[(⟨3,0,bA,0⟩:bH)])++E=(L1++y0 :: B)++(⟨3,0,bA,0⟩:bH) :: E:=by simp
  rw[j9]at gn;refine Fu (gn.ext gQ) ss (by simp only[bX,dA];omega) λja jb hy gR hz=>aU<|O ja jb (qR (gP.trans (gQ.chg _)) hy gp) ?_ λc hc=>gp c (hz c hc);rw[wG,aH k1,aH k4,aH k5,aH k6,aH k7,aH k8,aH k3,aP k2,aH oo,<-hB,<-hQ]
  have q1:y0=⟨2,0,x.term,((L1.length+1+B.length+1:Nat):Int)⟩:=by
    rw[hO];congr 1;simp only[bX,dA,eU];omega
  have q2:(((L1++y0 :: B)++(⟨3,0,bA,0⟩:bH) :: E).length:Int)=((L1.length+1+B.length+1+E.length:Nat):Int):=by
    simp only[bX,dA,eU];omega
  rw[q2,q1]at gR;simpa using gR
 have gd:=cO w6;refine Fu (M.ext gd) rfl so λw9 F9 gt gf gK=>aU<|O w9 F9 (qR (gM.trans (gd.chg _)) gt g2) ?_ λc hc=>g2 c (gK c hc);rw[wG,aH k1,aH k4,aH k5,aH k6,aH k7,aH k8,aH k3,aP k2,aP oo,<-hB]
 have:((L1++(⟨2,0,x.term,0⟩:bH) :: B).length:Int)=((L1.length+1+B.length:Nat):Int):=by
   simp only[bX,dA,eU];omega
 rw[this]at gf;exact gf
def P9(c:qG)(n:Nat):NW c n []:=by
 intro _ w g _ _ F _ hE h _ _;refine co (g:=kf [] [(1,766247770432944429179173513575154591809369561091801072,[4])] [(6,[0,1,2,3,4,5,6,7,9,10,8,11,12,13],2304),(8,[0,1,2,3,4,5,6,7,8,9],128),(10,[0,1,2,3,4,5,6,7,8,9],128),(12,[0,1,2,3,4,5,6,7,8,9,10],256),(14,[0,1,2,3,4,5,6,7,8,9,10],256),(21,[0,1,2,3,4,5,6,7,8,9,10,11,12],0),(27,[0,1,2,3,4,5,6,7,8,9,10,11,12],0),(29,[0,1,2,3,4,5,6,7,8,9,10,11,12],0),(30,[0,1,2,3,4,5,6,7,8,9,10,11,12],0)]) Tryz.func27 ?_;refine bV 0 (λk us w'=>us=[iV k]/\w'=w) 0 (z0 _) ⟨rfl,rfl⟩ ?_;rintro k _ _ _ _ ⟨hu,rfl⟩;try replace hu:=cJ hu
 rw[hu];refine aX fJ h<|bM<|br (λg0=>by simp at g0;omega) (λ_=>?_);exact⟨cH.refl _ _,F,by rw[eA,oJ];exact hE,λc hc=>.inl hc⟩
theorem Xf(c:qG):∀(n:Nat)(l:List aA),NW c n l
 |0,l=>Tv (n:=0) (l:=l) (λm l h=>absurd h oo) (P9 c)
 | n + 1, l => Tv (n := n + 1) (l := l) (λm l h => by
     obtain rfl:m=n:=oo;exact Xf c m l) (P9 c)
abbrev EX:=dM×dM×dM×dM×dM
def Eg{a b c d e:vL}(ha:a.oneCell'=true)(hb:b.oneCell'=true)(hc:c.oneCell'=true)(hd:d.oneCell'=true)(he:e.oneCell'=true):aK lo hi w (.agg #[a,b,c,d,e]) ((⟨a⟩,⟨b⟩,⟨c⟩,⟨d⟩,⟨e⟩):EX):=by
 refine⟨[],⟨⟨[a,b,c,d,e],?_,rfl⟩,kM,Wr.nil _⟩,ss⟩;have r:∀{v:vL},v.oneCell'=true->rep [] w [v] (⟨v⟩:dM):=λh=>⟨rfl,rfl,h⟩;exact oO (F:=[]) (r ha) (oO (F:=[]) (r hb) (oO (F:=[]) (r hc) (oO (F:=[]) (r hd) (r he))))
def zA7{p:aY}(h:Is w v p):∃c0 c1 c2,v=.agg #[c0,c1,c2]/\c0.oneCell'=true/\c1.oneCell'=true/\c2.oneCell'=true:=by
 obtain⟨_,_,hr,rfl⟩:=h;have C:=Rep.one hr;obtain⟨_,_,x1,_,rfl,rfl,h1,_,_,x3,x4,rfl,rfl,h2,h3⟩:=hr;have e1:∃a,x1=[a]:=by obtain⟨a,cap,Fi,xs,rfl,_⟩:=h1;exact⟨_,rfl⟩
 have e2:∃a,x3=[a]:=by obtain⟨a,cap,Fi,xs,rfl,_⟩:=h2;exact⟨_,rfl⟩
 have e3:∃a,x4=[a]:=by obtain⟨a,cap,Fi,xs,rfl,_⟩:=h3;exact⟨_,rfl⟩
 obtain⟨a1,rfl⟩:=e1;obtain⟨a2,rfl⟩:=e2;obtain⟨a3,rfl⟩:=e3;exact⟨a1,a2,a3,rfl,C a1 ss,C a2 ss,C a3 ss⟩
def TC{α:Type}[Rep α](ha:Rep.agg α=false){lo hi:Nat}{w:wD}{v:vL}{x:α}(h:aK lo hi w v x):v.oneCell'=true:=by
 obtain⟨_,⟨hm,_,_⟩,_⟩:=h;exact Rep.one (AJ ha hm) v ss
def cdQ(p:aY)(g1:Nat)(w0:wD):iE:=λi u T w=>match i with
 |0=>∃a,u 11=.slice (some a) 0 0
 |1=>u 12=pT g1 (0+0)
 |2=>Is w0 (u 13) p.B
 |3=>aK (T 3).1 (T 3).2 w (u 14) p.B
 |4=>∃a,u 15=.slice (some a) 0 0
 |5=>u 16=pT g1 (0+1)
 |6=>Is w0 (u 17) p.L
 |7=>aK (T 7).1 (T 7).2 w (u 18) p.L
 |8=>u 19=.agg #[u 14,u 18,.slice none 0 0,.slice none 0 0,.slice none 0 0]
 |9=>∃g,u 4=pT g 0/\(T 9).1<=g/\g<(T 9).2/\cA g 34 w [.slice none 0 0,.slice none 0 0,.slice none 0 0,.slice none 0 0,.slice none 0 0]
 |_=>True
structure AW(W:wD)(p:aY)(gk ge bs x2 l3 h3 l7 h7:Nat)(v14 v18 vp ve:vL)(N:List ByteArray)(E:List Int)(L:List bH)(Fp Fe Fi:List Nat)(w:wD):Prop where
 bk:cA gk 34 w [v14,v18,vp,ve,.slice none 0 0]
 g:aK l3 h3 w v14 p.B
 l:aK l7 h7 w v18 p.L
 n:dU Fp 9 w vp N
 e:dU Fe 3 w ve E
 nn:Fp.Nodup
 en:Fe.Nodup
 em:rG W ge p L Fi w
 x:cA x2 34 w [.slice none 0 0,.slice none 0 0,.slice none 0 0,.slice none 0 0,.slice none 0 0]
 dpe:∀c∈Fp,c∉Fe
 dpi:∀c∈Fp,c∉Fi
 dei:∀c∈Fe,c∉Fi
 bp:∀c∈Fp,bs<=c
 be:∀c∈Fe,bs<=c
 bi:∀c∈Fi,bs<=c
section
variable {W:wD}{p:aY}{gk ge bs x2 l3 h3 l7 h7:Nat}{v14 v18 vp ve:vL}{N:List ByteArray}{E:List Int}{L:List bH}{Fp Fe Fi:List Nat}{w w':wD}
def JM{α:Type}[Rep α]{lo hi:Nat}{v:vL}{x:α}{S:List Nat}(h:aK lo hi w v x)(hc:cH S w w')(hd:∀ c∈S,c<lo\/hi<=c):aK lo hi w' v x:=by
 obtain⟨F,hm,hF⟩:=h;exact⟨F,hm.keep λc g0=>hc.block c (hm.lt c g0) λhs=>by have:=hF c g0;have:=hd c hs;omega,hF⟩
def AW.ext(h:AW W p gk ge bs x2 l3 h3 l7 h7 v14 v18 vp ve N E L Fp Fe Fi w)(hx:aB w w'):AW W p gk ge bs x2 l3 h3 l7 h7 v14 v18 vp ve N E L Fp Fe Fi w':=
 ⟨h.bk.ext hx,h.g.ext hx,h.l.ext hx,h.n.keep λc hc=>hx.heap (h.n.lt c hc),h.e.keep λc hc=>hx.heap (h.e.lt c hc),h.nn,h.en,h.em.ext hx,h.x.ext hx,h.dpe,h.dpi,h.dei,h.bp,h.be,h.bi⟩
variable (ho:gk<bs/\ge<bs/\gk≠ge/\x2<bs/\x2≠gk/\x2≠ge/\h3<=bs/\h7<=bs/\(gk<l3\/h3<=gk)/\(gk<l7\/h7<=gk)/\(ge<l3\/h3<=ge)/\(ge<l7\/h7<=ge)/\W.heap.size<=gk/\W.heap.size<=ge)
include ho
def AW.names(h:AW W p gk ge bs x2 l3 h3 l7 h7 v14 v18 vp ve N E L Fp Fe Fi w){vp':vL}{N':List ByteArray}{Fp':List Nat}(hc:cH (gk :: Fp) w w')(hB:cA gk 34 w' [v14,v18,vp',ve,.slice none 0 0])
   (hR:dU Fp' 9 w' vp' N') (hn:Fp'.Nodup) (hs:∀c∈Fp',c∈Fp\/w.heap.size<=c) (hb:bs<=w.heap.size):AW W p gk ge bs x2 l3 h3 l7 h7 v14 v18 vp' ve N' E L Fp' Fe Fi w':=by
 have g0:=h.em.lt
 have hS:∀c∈gk :: Fp,c=gk\/bs<=c:=λc hc=>by
   rcases bF.1 hc with e|hc
   ·exact .inl e
   exact .inr (h.bp c hc)
 refine⟨hB,JM h.g hc λc C=>by have:=hS c C;omega,JM h.l hc λc C=>by have:=hS c C;omega,hR,h.e.keep λc C=>hc.block c (h.e.lt c C) λhm=>?_,hn,h.en,h.em.keep (λc C=>hc.block c ?_ λhm=>?_) (h.em.old.chgL hc λc C=>?_),h.x.chg hc λhm=>?_,λc C g1=>?_,λc C g2=>?_,h.dei,λc C=>?_,h.be,h.bi⟩
 ·rcases bF.1 hm with e|hm
  ·have:=h.be c C;omega
  exact h.dpe c hm C
 ·rcases bF.1 C with rfl|C
  ·exact g0.1
  exact g0.2.1 c C
 ·rcases bF.1 C with _|C
  ·rcases bF.1 hm with e|hm
   ·omega
   have:=h.bp c hm;omega
  rcases bF.1 hm with e|hm
  ·have:=h.bi c C;omega
  exact h.dpi c hm C
 ·rcases bF.1 C with e|C
  ·omega
  have:=h.bp c C;omega
 ·have:=hS _ hm;omega
 ·rcases hs c C with k|k
  ·exact h.dpe c k g1
  have:=h.e.lt c g1;omega
 ·rcases hs c C with k|k
  ·exact h.dpi c k g2
  have:=g0.2.1 c g2;omega
 rcases hs c C with k|k
 ·exact h.bp c k
 omega
def AW.ents(h:AW W p gk ge bs x2 l3 h3 l7 h7 v14 v18 vp ve N E L Fp Fe Fi w){ve':vL}{E':List Int}{Fe':List Nat}(hc:cH (gk :: Fe) w w')(hB:cA gk 34 w' [v14,v18,vp,ve',.slice none 0 0])
   (hR:dU Fe' 3 w' ve' E') (hn:Fe'.Nodup) (hs:∀c∈Fe',c∈Fe\/w.heap.size<=c) (hb:bs<=w.heap.size):AW W p gk ge bs x2 l3 h3 l7 h7 v14 v18 vp ve' N E' L Fp Fe' Fi w':=by
 have g0:=h.em.lt
 have hS:∀c∈gk :: Fe,c=gk\/bs<=c:=λc hc=>by
   rcases bF.1 hc with e|hc
   ·exact .inl e
   exact .inr (h.be c hc)
 refine⟨hB,JM h.g hc λc C=>by have:=hS c C;omega,JM h.l hc λc C=>by have:=hS c C;omega,h.n.keep λc C=>hc.block c (h.n.lt c C) λhm=>?_,hR,h.nn,hn,h.em.keep (λc C=>hc.block c ?_ λhm=>?_) (h.em.old.chgL hc λc C=>?_),h.x.chg hc λhm=>?_,λc C g2=>?_,h.dpi,λc C g1=>?_,h.bp,λc C=>?_,h.bi⟩
 ·rcases bF.1 hm with e|hm
  ·have:=h.bp c C;omega
  exact h.dpe c C hm
 ·rcases bF.1 C with rfl|C
  ·exact g0.1
  exact g0.2.1 c C
 ·rcases bF.1 C with _|C
  ·rcases bF.1 hm with e|hm
   ·omega
   have:=h.be c hm;omega
  rcases bF.1 hm with e|hm
  ·have:=h.bi c C;omega
  exact h.dei c hm C
 ·rcases bF.1 C with e|C
  ·omega
  have:=h.be c C;omega
 ·have:=hS _ hm;omega
 ·rcases hs c g2 with k|k
  ·exact h.dpe c C k
  have:=h.n.lt c C;omega
 ·rcases hs c C with k|k
  ·exact h.dei c k g1
  have:=g0.2.1 c g1;omega
 rcases hs c C with k|k
 ·exact h.be c k
 omega
def AW.ems(h:AW W p gk ge bs x2 l3 h3 l7 h7 v14 v18 vp ve N E L Fp Fe Fi w){L':List bH}{g1:List Nat}(hc:cH (ge :: Fi) w w')(hE:rG W ge p L' g1 w')(hs:∀ c∈g1,c∈Fi\/w.heap.size<=c)(hb:bs<=w.heap.size) :
   AW W p gk ge bs x2 l3 h3 l7 h7 v14 v18 vp ve N E L' Fp Fe g1 w':=by
 have hS:∀c∈ge :: Fi,c=ge\/bs<=c:=λc hc=>by
   rcases bF.1 hc with e|hc
   ·exact .inl e
   exact .inr (h.bi c hc)
 refine⟨h.bk.chg hc λhm=>?_,JM h.g hc λc C=>by have:=hS c C;omega,JM h.l hc λc C=>by have:=hS c C;omega,h.n.keep λc C=>hc.block c (h.n.lt c C) λhm=>?_,h.e.keep λc C=>hc.block c (h.e.lt c C) λhm=>?_,h.nn,h.en,hE,h.x.chg hc λhm=>?_,h.dpe,λc C g0=>?_,λc C g0=>?_,h.bp,h.be,λc C=>?_⟩
 ·have:=hS _ hm;omega
 ·rcases bF.1 hm with e|hm
  ·have:=h.bp c C;omega
  exact h.dpi c C hm
 ·rcases bF.1 hm with e|hm
  ·have:=h.be c C;omega
  exact h.dei c C hm
 ·have:=hS _ hm;omega
 ·rcases hs c g0 with k|k
  ·exact h.dpi c C k
  have:=h.n.lt c C;omega
 ·rcases hs c g0 with k|k
  ·exact h.dei c C k
  have:=h.e.lt c C;omega
 rcases hs c C with k|k
 ·exact h.bi c k
 omega
end
def B6{G L P:List ByteArray}{l:List aQ}(hk:k<l.length)(a:Nat):qJ G L P (l.drop k) a=eA G L P l[k].body a++(KG :: qJ G L P (l.drop (k+1)) (a+(eA G L P l[k].body a).length+1)):=by
 rw[tD hk,qJ]
def A6{G L P:List ByteArray}{l:List aQ}(hk:k<l.length)(a:Nat):tL G L P (l.drop k) a=(a:Int) :: tL G L P (l.drop (k+1)) (a+(eA G L P l[k].body a).length+1):=by
 rw[tD hk,tL]
def UR{α:Type}[Rep α]{e:TypeId}{F:List Nat}{w:wD}{v:vL}{l:List α}(h:dU F e w v l)(hn:F.Nodup):aZ F w v l:=⟨h.own,hn,h.wr⟩
def xi{t:aA} (h0:Is W0 v0 t)(e0:aB W0 w)(hr:Cc t) :
   aJ tp 204 [v0] w λr w'=>aB w w'/\(r=.bool true):=by
 refine co (g:=kf [] [] []) Tryz.func204 ?_;refine lA fB rfl h0 e0 λD y1 C _=>aE vZ<|aS aG (yI C) xx λ_=>bI<|br (λc1=>?_) λc1=>?_
 ·refine aE oB ?_;refine eV cG (qF C) xx λ_=>(cI ).mM λ_ y2=>bW (λc2=>?_) λc2=>?_
  ·refine aE sS ?_;refine aL dK (wV C) y2 λ_ gc=>(TJ gc y2).mM λ_ y3=>bW (λc3=>?_) λc3=>?_
   ·refine aE rZ ?_;refine aL fW (AO C) xx λ_ gd=>aX fJ gd<|bI<|br (λc4=>?_) λc4=>?_
    ·refine aE pU ?_;refine aL fW (yC C) xx λ_ gf=>aX fJ gf<|bI<|⟨xx,?_⟩;rcases hr with⟨k1,k2,k3,k4,k5⟩|⟨k1,k2,k3,k4,k5⟩|⟨k1,k2,k3,k4,k5⟩|⟨k1,k2,k3⟩|⟨k1,k2,k3,k4⟩<;>first|(exfalso;omega)|simp_all
    refine⟨xx,?_⟩;rcases hr with⟨k1,k2,k3,k4,k5⟩|⟨k1,k2,k3,k4,k5⟩|⟨k1,k2,k3,k4,k5⟩|⟨k1,k2,k3⟩|⟨k1,k2,k3,k4⟩<;>first|(exfalso;omega)|simp_all
   refine⟨xx,?_⟩;rcases hr with⟨k1,k2,k3,k4,k5⟩|⟨k1,k2,k3,k4,k5⟩|⟨k1,k2,k3,k4,k5⟩|⟨k1,k2,k3⟩|⟨k1,k2,k3,k4⟩<;>first|(exfalso;omega)|simp_all
  refine⟨xx,?_⟩;rcases hr with⟨k1,k2,k3,k4,k5⟩|⟨k1,k2,k3,k4,k5⟩|⟨k1,k2,k3,k4,k5⟩|⟨k1,k2,k3⟩|⟨k1,k2,k3,k4⟩<;>first|(exfalso;omega)|simp_all
 refine bI<|br (λc5=>?_) λc5=>?_
 ·refine aE oB ?_;refine eV cG (qF C) xx λ_=>eX<|br (λc6=>?_) λc6=>?_
  ·refine aE sS ?_;refine aL dK (wV C) xx λ_ gg=>(TJ gg xx).mM λ_ y4=>?_;refine⟨xx,?_⟩;rcases hr with⟨k1,k2,k3,k4,k5⟩|⟨k1,k2,k3,k4,k5⟩|⟨k1,k2,k3,k4,k5⟩|⟨k1,k2,k3⟩|⟨k1,k2,k3,k4⟩<;>first|(exfalso;omega)|simp_all
  refine⟨y1,?_⟩;rcases hr with⟨k1,k2,k3,k4,k5⟩|⟨k1,k2,k3,k4,k5⟩|⟨k1,k2,k3,k4,k5⟩|⟨k1,k2,k3⟩|⟨k1,k2,k3,k4⟩<;>first|(exfalso;omega)|simp_all
 refine bI<|br (λc7=>?_) λc7=>?_
 ·refine aE oB ?_;refine eV cG (qF C) xx λ_=>eX<|br (λc8=>?_) λc8=>?_
  ·refine aE sS ?_;refine aL dK (wV C) xx λ_ gh=>(TJ gh xx).mM λ_ y5=>bW (λc9=>?_) λc9=>?_
   ·refine aE pU ?_;refine aL fW (yC C) y5 λ_ gi=>aX fJ gi<|bI<|⟨xx,?_⟩;rcases hr with⟨k1,k2,k3,k4,k5⟩|⟨k1,k2,k3,k4,k5⟩|⟨k1,k2,k3,k4,k5⟩|⟨k1,k2,k3⟩|⟨k1,k2,k3,k4⟩<;>first|(exfalso;omega)|simp_all
   refine⟨xx,?_⟩;rcases hr with⟨k1,k2,k3,k4,k5⟩|⟨k1,k2,k3,k4,k5⟩|⟨k1,k2,k3,k4,k5⟩|⟨k1,k2,k3⟩|⟨k1,k2,k3,k4⟩<;>first|(exfalso;omega)|simp_all
  refine⟨y1,?_⟩;rcases hr with⟨k1,k2,k3,k4,k5⟩|⟨k1,k2,k3,k4,k5⟩|⟨k1,k2,k3,k4,k5⟩|⟨k1,k2,k3⟩|⟨k1,k2,k3,k4⟩<;>first|(exfalso;omega)|simp_all
 refine bI<|br (λgj=>?_) λgj=>?_
 ·refine aE oB ?_;refine eV cG (qF C) xx λV=>(cI ).mM λ_ y6=>bW (λgl=>?_) λgl=>?_
  ·refine aE sS ?_;refine aL dK (wV C) y6 λg5 Z=>(PW Z y6).mM λ_ y7=>br (λgn=>?_) λgn=>?_
   ·refine aE rZ ?_;refine aL fW (AO C) xx λg9 g0=>aX fJ g0<|bI<|br (λgp=>?_) λgp=>?_
    ·refine aE pU ?_;refine aL fW (yC C) xx λgb g1=>aX fJ g1<|bI<|⟨xx,?_⟩;rcases hr with⟨k1,k2,k3,k4,k5⟩|⟨k1,k2,k3,k4,k5⟩|⟨k1,k2,k3,k4,k5⟩|⟨k1,k2,k3⟩|⟨k1,k2,k3,k4⟩<;>first|(exfalso;omega)|simp_all
    refine⟨xx,?_⟩;rcases hr with⟨k1,k2,k3,k4,k5⟩|⟨k1,k2,k3,k4,k5⟩|⟨k1,k2,k3,k4,k5⟩|⟨k1,k2,k3⟩|⟨k1,k2,k3,k4⟩<;>first|(exfalso;omega)|simp_all
   refine⟨xx,?_⟩;rcases hr with⟨k1,k2,k3,k4,k5⟩|⟨k1,k2,k3,k4,k5⟩|⟨k1,k2,k3,k4,k5⟩|⟨k1,k2,k3⟩|⟨k1,k2,k3,k4⟩<;>first|(exfalso;omega)|simp_all
  refine⟨xx,?_⟩;rcases hr with⟨k1,k2,k3,k4,k5⟩|⟨k1,k2,k3,k4,k5⟩|⟨k1,k2,k3,k4,k5⟩|⟨k1,k2,k3⟩|⟨k1,k2,k3,k4⟩<;>first|(exfalso;omega)|simp_all
 refine bI<|br (λgq=>?_) λgq=>?_
 ·refine aE oB ?_;refine eV cG (qF C) xx λV=>(cI ).mM λ_ y8=>bW (λgr=>?_) λgr=>?_
  ·refine aE sS ?_;refine aL dK (wV C) y8 λg5 Z=>(PW Z y8).mM λ_ y9=>br (λgs=>?_) λgs=>?_
   ·refine aE rZ ?_;refine aL fW (AO C) xx λg9 g0=>aX fJ g0<|bI<|br (λgt=>?_) λgt=>?_
    ·refine aE pU ?_;refine aL fW (yC C) xx λgb g1=>aX fJ g1<|bI<|⟨xx,?_⟩;rcases hr with⟨k1,k2,k3,k4,k5⟩|⟨k1,k2,k3,k4,k5⟩|⟨k1,k2,k3,k4,k5⟩|⟨k1,k2,k3⟩|⟨k1,k2,k3,k4⟩<;>first|(exfalso;omega)|simp_all
    refine⟨xx,?_⟩;rcases hr with⟨k1,k2,k3,k4,k5⟩|⟨k1,k2,k3,k4,k5⟩|⟨k1,k2,k3,k4,k5⟩|⟨k1,k2,k3⟩|⟨k1,k2,k3,k4⟩<;>first|(exfalso;omega)|simp_all
   refine⟨xx,?_⟩;rcases hr with⟨k1,k2,k3,k4,k5⟩|⟨k1,k2,k3,k4,k5⟩|⟨k1,k2,k3,k4,k5⟩|⟨k1,k2,k3⟩|⟨k1,k2,k3,k4⟩<;>first|(exfalso;omega)|simp_all
  refine⟨xx,?_⟩;rcases hr with⟨k1,k2,k3,k4,k5⟩|⟨k1,k2,k3,k4,k5⟩|⟨k1,k2,k3,k4,k5⟩|⟨k1,k2,k3⟩|⟨k1,k2,k3,k4⟩<;>first|(exfalso;omega)|simp_all
 refine bI<|br (λgx=>?_) λgx=>?_
 ·refine aE oB ?_;refine eV cG (qF C) xx λV=>(cI ).mM λ_ M=>bW (λgy=>?_) λgy=>?_
  ·refine aE sS ?_;refine aL dK (wV C) M λg5 Z=>(PW Z M).mM λ_ g2=>br (λgz=>?_) λgz=>?_
   ·refine aE rZ ?_;refine aL fW (AO C) xx λg9 g0=>aX fJ g0<|bI<|br (λgA=>?_) λgA=>?_
    ·refine aE pU ?_;refine aL fW (yC C) xx λgb g1=>aX fJ g1<|bI<|⟨xx,?_⟩;rcases hr with⟨k1,k2,k3,k4,k5⟩|⟨k1,k2,k3,k4,k5⟩|⟨k1,k2,k3,k4,k5⟩|⟨k1,k2,k3⟩|⟨k1,k2,k3,k4⟩<;>first|(exfalso;omega)|simp_all
    refine⟨xx,?_⟩;rcases hr with⟨k1,k2,k3,k4,k5⟩|⟨k1,k2,k3,k4,k5⟩|⟨k1,k2,k3,k4,k5⟩|⟨k1,k2,k3⟩|⟨k1,k2,k3,k4⟩<;>first|(exfalso;omega)|simp_all
   refine⟨xx,?_⟩;rcases hr with⟨k1,k2,k3,k4,k5⟩|⟨k1,k2,k3,k4,k5⟩|⟨k1,k2,k3,k4,k5⟩|⟨k1,k2,k3⟩|⟨k1,k2,k3,k4⟩<;>first|(exfalso;omega)|simp_all
  refine⟨xx,?_⟩;rcases hr with⟨k1,k2,k3,k4,k5⟩|⟨k1,k2,k3,k4,k5⟩|⟨k1,k2,k3,k4,k5⟩|⟨k1,k2,k3⟩|⟨k1,k2,k3,k4⟩<;>first|(exfalso;omega)|simp_all
 refine bI<|br (λgB=>?_) λgB=>?_
 ·refine aE oB ?_;refine eV cG (qF C) xx λV=>(cI ).mM λ_ O=>bW (λgC=>?_) λgC=>?_
  ·refine aE sS ?_;refine aL dK (wV C) O λg5 Z=>(PW Z O).mM λ_ g3=>br (λgD=>?_) λgD=>?_
   ·refine aE rZ ?_;refine aL fW (AO C) xx λg9 g0=>aX fJ g0<|bI<|br (λgE=>?_) λgE=>?_
    ·refine aE pU ?_;refine aL fW (yC C) xx λgb g1=>aX fJ g1<|bI<|⟨xx,?_⟩;rcases hr with⟨k1,k2,k3,k4,k5⟩|⟨k1,k2,k3,k4,k5⟩|⟨k1,k2,k3,k4,k5⟩|⟨k1,k2,k3⟩|⟨k1,k2,k3,k4⟩<;>first|(exfalso;omega)|simp_all
    refine⟨xx,?_⟩;rcases hr with⟨k1,k2,k3,k4,k5⟩|⟨k1,k2,k3,k4,k5⟩|⟨k1,k2,k3,k4,k5⟩|⟨k1,k2,k3⟩|⟨k1,k2,k3,k4⟩<;>first|(exfalso;omega)|simp_all
   refine⟨xx,?_⟩;rcases hr with⟨k1,k2,k3,k4,k5⟩|⟨k1,k2,k3,k4,k5⟩|⟨k1,k2,k3,k4,k5⟩|⟨k1,k2,k3⟩|⟨k1,k2,k3,k4⟩<;>first|(exfalso;omega)|simp_all
  refine⟨xx,?_⟩;rcases hr with⟨k1,k2,k3,k4,k5⟩|⟨k1,k2,k3,k4,k5⟩|⟨k1,k2,k3,k4,k5⟩|⟨k1,k2,k3⟩|⟨k1,k2,k3,k4⟩<;>first|(exfalso;omega)|simp_all
 refine bI<|br (λgF=>?_) λgF=>?_
 ·refine aE oB ?_;refine eV cG (qF C) xx λ_=>eX<|br (λgG=>?_) λgG=>?_
  ·refine aE sS ?_;refine aL dK (wV C) xx λ_ gH=>(PW gH xx).mM λ_ g4=>br (λgI=>?_) λgI=>?_
   ·refine aE rZ ?_;refine aL fW (AO C) g4 λ_ gJ=>aX fJ gJ<|bI<|br (λgK=>?_) λgK=>?_
    ·refine aE pU ?_;refine aL fW (yC C) g4 λ_ gL=>aX fJ gL<|bI<|⟨xx,?_⟩;rcases hr with⟨k1,k2,k3,k4,k5⟩|⟨k1,k2,k3,k4,k5⟩|⟨k1,k2,k3,k4,k5⟩|⟨k1,k2,k3⟩|⟨k1,k2,k3,k4⟩<;>first|(exfalso;omega)|simp_all
    refine⟨xx,?_⟩;rcases hr with⟨k1,k2,k3,k4,k5⟩|⟨k1,k2,k3,k4,k5⟩|⟨k1,k2,k3,k4,k5⟩|⟨k1,k2,k3⟩|⟨k1,k2,k3,k4⟩<;>first|(exfalso;omega)|simp_all
   refine⟨xx,?_⟩;rcases hr with⟨k1,k2,k3,k4,k5⟩|⟨k1,k2,k3,k4,k5⟩|⟨k1,k2,k3,k4,k5⟩|⟨k1,k2,k3⟩|⟨k1,k2,k3,k4⟩<;>first|(exfalso;omega)|simp_all
  refine⟨y1,?_⟩;rcases hr with⟨k1,k2,k3,k4,k5⟩|⟨k1,k2,k3,k4,k5⟩|⟨k1,k2,k3,k4,k5⟩|⟨k1,k2,k3⟩|⟨k1,k2,k3,k4⟩<;>first|(exfalso;omega)|simp_all
 refine⟨y1,?_⟩;rcases hr with⟨k1,k2,k3,k4,k5⟩|⟨k1,k2,k3,k4,k5⟩|⟨k1,k2,k3,k4,k5⟩|⟨k1,k2,k3⟩|⟨k1,k2,k3,k4⟩<;>first|(exfalso;omega)|simp_all
def zGj{l:List aA}(hk:k<l.length):cM (l.drop k)=fU l[k]+cM (l.drop (k+1)):=by rw[tD hk,cM]
def th(l:List aA)(k:Nat):cM (l.drop k)<=cM l:=by
 have:=Dh (l.take k) (l.drop k);rw[XN]at this;omega
def Mw(n:Nat)(l:List aA):Prop:=∀{w W:wD}{v:vL}{d:Int}{g r:Nat},Is W v l->aB W w->(∀x∈l,SH n x)->(n:Int)<=d->d<=6->cA g 3 w [iV r]->W.heap.size<=g->cM l<=r->r<=1000 ->
 aJ tp 132 [v,iV d,pT g 0] w λres w'=>aN g (g+1) w w'/\res=.bool true/\cA g 3 w' [iV ((r-cM l:Nat):Int)]
def C6{l:List aA}(ih:∀ m l,m+1=n->Mw m l):Mw n l:=by
 intro w W _ _ g r h e hs _ _ hB hg _ _;have:=fD h;refine co (g:=kf [(8,136902082560,[])] [(2,288230376151710016,[11])] []) Tryz.func132 ?_;refine aX fJ h<|bV l.length (λk us w'=>us=[iV k]/\aN g (g+1) w w'/\k<=l.length/\∃q,q+cM l=r+cM (l.drop k)/\cA g 3 w' [iV q]) 0 (z0 _) ⟨rfl,aN.refl _,z0 _,r,rfl,hB⟩ ?_;rintro k m _ w1 _ ⟨hu,g9,_,q,hq,gb⟩;try replace hu:=cJ hu
 rw[hu];have gj:aB W w1:=e.xI g9 hg;refine bM<|br (λ_=>?_) λ_=>?_
 rotate_left
 ·have hk:k=l.length:=oo;subst hk;rw[BA,cM]at hq;refine⟨g9,rfl,?_⟩;rw[show r-cM l=q by omega];exact gb
 have hk:k<l.length:=oo;have gl:=th l k;rw[zGj hk]at hq gl;obtain⟨x,hx⟩:∃x,x=l[k]:=⟨_,rfl⟩;have gn:SH n x:=by rw[hx];exact hs _ (cY hk)
 rw[<-hx]at hq gl;have:=Aa x;refine bC fJ fB h hk λ_ _ g0=>?_;rw[<-hx]at g0;refine aL fB g0 gj λ_ gp=>mB zX rfl fB rfl gp gj λ_ gq _ gr=>?_;have gs:=gb.ext gq;have:=gb.lt;have gy:=uT gp gr rfl;have:=gr.lt;refine bZ.mk rfl<|cX aG gs rfl<|kQ io<|bZ.mk rfl ?_;rw[show(q:Int)-1=((q-1:Nat):Int) by omega];refine qL (α:=Int) (x:=((q-1:Nat):Int)) (lo:=0) (hi:=0) aG rfl rfl gs ss (Go.Sh.ownI_int io) λw3 gc g5=>?_;have:=gc.size;have g5:cA g 3 w3 [iV ((q-1:Nat):Int)]:=g5;have M:aN g (g+1) w w3:=(g9.trans gq.toI).trans gc;have gd:aB W w3:=e.xI M hg;have O:=gy.keep (gc.block _ oo oo);refine bZ.mk rfl<|cX aG g5 rfl<|bM<|br (λhh=>absurd hh oo) λ_=>?_;refine aL fB (O.at gd) xx λ_ gz=>(xi gz xx gn.one).mM λw4 C=>?_;have:=C.size;have g1:=O.ext C |>.at (gd.t C);have gt:=g5.ext C;refine dG<|bW (λhc=>by simp at hc) λ_=>?_;obtain⟨gA,gB,-,gC,gD⟩:=gn.kids
 have g2:¬(x.kind=2\/x.kind=3)->fU x=1:=λhn=>by
   obtain⟨q1,q2⟩:=gC hn;rw[Aa,q1,q2];simp[cM]
 have D:∀{w5:wD}{q5:Nat},aN g (g+1) w w5->q5+cM l=r+cM (l.drop (k+1))->cA g 3 w5 [iV q5] ->
     ∃m',m'<m/\∃k',k'+m'=l.length/\([Value.int .i64 ((k+1:Nat):Int)]=[iV k']/\aN g (g+1) w w5/\k'<=l.length/\∃q,q+cM l=r+cM (l.drop k')/\cA g 3 w5 [iV q]):=
   λ{w5 q5} a1 a2 a3=>⟨m-1,oo,k+1,oo,rfl,a1,oo,q5,a2,a3⟩
 refine dJ.mk (λus w'=>(x.kind=2\/x.kind=3)/\w'=w4) ?_ ?_
 ·refine aE vZ ?_;refine aS aG (yI g1) xx λhI=>fP<|br (λh2=>?_) (λh2=>⟨.inl (eK.1 h2),rfl⟩);refine aE vZ<|aS aG (yI g1) xx λhI=>fP<|br (λh3=>?_) (λh3=>⟨.inr (eK.1 h3),rfl⟩);have:=g2 oo;refine aU<|D (M.trans C.toI) (q5:=q-1) oo gt
 rintro _ w5 ⟨gE,rfl⟩;have:0<n:=gD gE;have g3:=And.intro gA gB;refine bI<|br (λhc=>oo) λ_=>?_;refine aE rZ ?_;have gg:aB W w5:=gd.t C;have g4:=O.ext C;refine rI fW (PJ g4) gg xx λ_ gF=>kQ io<|(ih (n-1) _ oo gF gg g3.1 oo oo gt hg oo oo).mono ?_;rintro _ w6 ⟨gh,rfl,gG⟩;have gx:aB W w6:=gg.xI gh hg;refine dG<|bW (λhc=>by simp at hc) λ_=>?_;refine aE pU<|rI fW (PN (g4.keep (gh.block _ oo oo))) gx xx λ_ gH=>kQ io<|(ih (n-1) _ oo gH gx g3.2 oo oo gG hg oo oo).mono ?_;rintro _ _ ⟨gI,rfl,gJ⟩;refine dG<|bW (λhc=>by simp at hc) λ_=>?_;refine aU<|D (((M.trans C.toI).trans gh).trans gI) ?_ gJ;omega
end Go.Proofs.YtcaakhmhlfgogaaGreatDoor
