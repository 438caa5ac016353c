/-
  Parts of the proof, put together by program.
-/
import Derived.Test.YtkgiigmcbgifdaaGreatDoorPFnExactWatch6
set_option maxRecDepth 20000
set_option linter.defProp false
set_option linter.unusedVariables false
set_option linter.unusedSimpArgs false
set_option linter.unusedSectionVars false
open Go renaming Value→vL,World→wD,Program→pG
namespace Go.Proofs.YtkgiigmcbgifdaaGreatDoor
open Go Go.Sh Go.Proofs
open Rep (rep)
variable {W0 w:wD} {k n:Nat} {v0:vL}
def zqw {t:DStmt}  (h0:Is W0 v0 t) (e0:Ext W0 w) (hr:zEw t) :
   CALL tp 204 [v0] w λr w'=>Ext w w'/\(r=.bool true):=by
 refine co (g:=kf [] [] []) Tryz.func204 ?_
 have:t.kind≠2->t.kind≠3->t.body=[]/\t.els=[]:=λ_ _=>by
   rcases hr with ⟨k1,k2,k3,k4,k5⟩ | ⟨k1,k2,k3,k4,k5⟩ | ⟨k1,k2,k3,k4,k5⟩ | ⟨k1,k2,k3⟩ | ⟨k1,k2,k3,k4⟩
   . exact ⟨k4,k5⟩
   . exact ⟨k4,k5⟩
   . exact ⟨k4,k5⟩
   . omega
   omega
 refine za2 zda rfl h0 e0 λD y1 C _=>zaa zdl<|zad ty3 (zb2 C) (xrf D) λ_=>zag<|br (λc1=>?_) (λc1=>?_)
 . refine zaa zbo ?_;refine zaq ty9 (zaT C) (xrf D) λ_=>?_;refine (implIsName_ok ).mono ?_;rintro _ _ ⟨y2,rfl⟩;refine zaN (λc2=>?_) (λc2=>?_)
   . refine zaa zce ?_;refine zab zcD (zbz C) y2 λ_ gj=>?_;refine (zdp gj y2).mono ?_;rintro _ _ ⟨y3,rfl⟩;refine zaN (λc3=>?_) (λc3=>?_)
     . refine zaa zcf ?_;refine zab zed (zb3 C) (y2.t y3) λ_ gd=>?_;have:=zan gd;refine zae u60 gd<|zag<|br (λc4=>?_) (λc4=>?_)
       . refine zaa zca ?_;refine zab zed (zbI C) (y2.t y3) λ_ gf=>?_;have:=zan gf;refine zae u60 gf<|zag<|⟨(y1.t (y2.t y3)),?_⟩;rcases hr with ⟨k1,k2,k3,k4,k5⟩ | ⟨k1,k2,k3,k4,k5⟩ | ⟨k1,k2,k3,k4,k5⟩ | ⟨k1,k2,k3⟩ | ⟨k1,k2,k3,k4⟩<;>first | (exfalso;omega) | simp_all
       refine ⟨(y1.t (y2.t y3)),?_⟩;rcases hr with ⟨k1,k2,k3,k4,k5⟩ | ⟨k1,k2,k3,k4,k5⟩ | ⟨k1,k2,k3,k4,k5⟩ | ⟨k1,k2,k3⟩ | ⟨k1,k2,k3,k4⟩<;>first | (exfalso;omega) | simp_all
     refine ⟨(y1.t (y2.t y3)),?_⟩;rcases hr with ⟨k1,k2,k3,k4,k5⟩ | ⟨k1,k2,k3,k4,k5⟩ | ⟨k1,k2,k3,k4,k5⟩ | ⟨k1,k2,k3⟩ | ⟨k1,k2,k3,k4⟩<;>first | (exfalso;omega) | simp_all
   refine ⟨(y1.t y2),?_⟩;rcases hr with ⟨k1,k2,k3,k4,k5⟩ | ⟨k1,k2,k3,k4,k5⟩ | ⟨k1,k2,k3,k4,k5⟩ | ⟨k1,k2,k3⟩ | ⟨k1,k2,k3,k4⟩<;>first | (exfalso;omega) | simp_all
 refine zag<|br (λc5=>?_) (λc5=>?_)
 . refine zaa zbo ?_;refine zaq ty9 (zaT C) (xrf D) λ_=>zat<|br (λc6=>?_) (λc6=>?_)
   . refine zaa zce ?_;refine zab zcD (zbz C) (xrf D) λ_ gl=>?_;refine (zdp gl (xrf D)).mono ?_;rintro _ _ ⟨y4,rfl⟩;refine ⟨(y1.t y4),?_⟩;rcases hr with ⟨k1,k2,k3,k4,k5⟩ | ⟨k1,k2,k3,k4,k5⟩ | ⟨k1,k2,k3,k4,k5⟩ | ⟨k1,k2,k3⟩ | ⟨k1,k2,k3,k4⟩<;>first | (exfalso;omega) | simp_all
   refine ⟨y1,?_⟩;rcases hr with ⟨k1,k2,k3,k4,k5⟩ | ⟨k1,k2,k3,k4,k5⟩ | ⟨k1,k2,k3,k4,k5⟩ | ⟨k1,k2,k3⟩ | ⟨k1,k2,k3,k4⟩<;>first | (exfalso;omega) | simp_all
 refine zag<|br (λc7=>?_) (λc7=>?_)
 . refine zaa zbo ?_;refine zaq ty9 (zaT C) (xrf D) λ_=>zat<|br (λc8=>?_) (λc8=>?_)
   . refine zaa zce ?_;refine zab zcD (zbz C) (xrf D) λ_ gn=>?_;refine (zdp gn (xrf D)).mono ?_;rintro _ _ ⟨y5,rfl⟩;refine zaN (λc9=>?_) (λc9=>?_)
     . refine zaa zca ?_;refine zab zed (zbI C) y5 λ_ gg=>?_;have:=zan gg;refine zae u60 gg<|zag<|⟨(y1.t y5),?_⟩;rcases hr with ⟨k1,k2,k3,k4,k5⟩ | ⟨k1,k2,k3,k4,k5⟩ | ⟨k1,k2,k3,k4,k5⟩ | ⟨k1,k2,k3⟩ | ⟨k1,k2,k3,k4⟩<;>first | (exfalso;omega) | simp_all
     refine ⟨(y1.t y5),?_⟩;rcases hr with ⟨k1,k2,k3,k4,k5⟩ | ⟨k1,k2,k3,k4,k5⟩ | ⟨k1,k2,k3,k4,k5⟩ | ⟨k1,k2,k3⟩ | ⟨k1,k2,k3,k4⟩<;>first | (exfalso;omega) | simp_all
   refine ⟨y1,?_⟩;rcases hr with ⟨k1,k2,k3,k4,k5⟩ | ⟨k1,k2,k3,k4,k5⟩ | ⟨k1,k2,k3,k4,k5⟩ | ⟨k1,k2,k3⟩ | ⟨k1,k2,k3,k4⟩<;>first | (exfalso;omega) | simp_all
 refine zag<|br (λgp=>?_) (λgp=>?_)
 . refine zaa zbo ?_;refine zaq ty9 (zaT C) (xrf D) λg1=>?_;refine (implIsName_ok ).mono ?_;rintro _ _ ⟨y6,rfl⟩;refine zaN (λgq=>?_) (λgq=>?_)
   . refine zaa zce ?_;refine zab zcD (zbz C) y6 λg9 g2=>?_;refine (zdr g2 y6).mono ?_;rintro _ _ ⟨y7,rfl⟩;refine br (λgr=>?_) (λgr=>?_)
     . refine zaa zcf ?_;refine zab zed (zb3 C) (y6.t y7) λgb M=>?_;have O:=zan M;refine zae u60 M<|zag<|br (λgs=>?_) (λgs=>?_)
       . refine zaa zca ?_;refine zab zed (zbI C) (y6.t y7) λgc U=>?_;have V:=zan U;refine zae u60 U<|zag<|⟨(y1.t (y6.t y7)),?_⟩;rcases hr with ⟨k1,k2,k3,k4,k5⟩ | ⟨k1,k2,k3,k4,k5⟩ | ⟨k1,k2,k3,k4,k5⟩ | ⟨k1,k2,k3⟩ | ⟨k1,k2,k3,k4⟩<;>first | (exfalso;omega) | simp_all
       refine ⟨(y1.t (y6.t y7)),?_⟩;rcases hr with ⟨k1,k2,k3,k4,k5⟩ | ⟨k1,k2,k3,k4,k5⟩ | ⟨k1,k2,k3,k4,k5⟩ | ⟨k1,k2,k3⟩ | ⟨k1,k2,k3,k4⟩<;>first | (exfalso;omega) | simp_all
     refine ⟨(y1.t (y6.t y7)),?_⟩;rcases hr with ⟨k1,k2,k3,k4,k5⟩ | ⟨k1,k2,k3,k4,k5⟩ | ⟨k1,k2,k3,k4,k5⟩ | ⟨k1,k2,k3⟩ | ⟨k1,k2,k3,k4⟩<;>first | (exfalso;omega) | simp_all
   refine ⟨(y1.t y6),?_⟩;rcases hr with ⟨k1,k2,k3,k4,k5⟩ | ⟨k1,k2,k3,k4,k5⟩ | ⟨k1,k2,k3,k4,k5⟩ | ⟨k1,k2,k3⟩ | ⟨k1,k2,k3,k4⟩<;>first | (exfalso;omega) | simp_all
 refine zag<|br (λgt=>?_) (λgt=>?_)
 . refine zaa zbo ?_;refine zaq ty9 (zaT C) (xrf D) λg1=>?_;refine (implIsName_ok ).mono ?_;rintro _ _ ⟨y8,rfl⟩;refine zaN (λgx=>?_) (λgx=>?_)
   . refine zaa zce ?_;refine zab zcD (zbz C) y8 λg9 g2=>?_;refine (zdr g2 y8).mono ?_;rintro _ _ ⟨y9,rfl⟩;refine br (λgy=>?_) (λgy=>?_)
     . refine zaa zcf ?_;refine zab zed (zb3 C) (y8.t y9) λgb M=>?_;have O:=zan M;refine zae u60 M<|zag<|br (λgz=>?_) (λgz=>?_)
       . refine zaa zca ?_;refine zab zed (zbI C) (y8.t y9) λgc U=>?_;have V:=zan U;refine zae u60 U<|zag<|⟨(y1.t (y8.t y9)),?_⟩;rcases hr with ⟨k1,k2,k3,k4,k5⟩ | ⟨k1,k2,k3,k4,k5⟩ | ⟨k1,k2,k3,k4,k5⟩ | ⟨k1,k2,k3⟩ | ⟨k1,k2,k3,k4⟩<;>first | (exfalso;omega) | simp_all
       refine ⟨(y1.t (y8.t y9)),?_⟩;rcases hr with ⟨k1,k2,k3,k4,k5⟩ | ⟨k1,k2,k3,k4,k5⟩ | ⟨k1,k2,k3,k4,k5⟩ | ⟨k1,k2,k3⟩ | ⟨k1,k2,k3,k4⟩<;>first | (exfalso;omega) | simp_all
     refine ⟨(y1.t (y8.t y9)),?_⟩;rcases hr with ⟨k1,k2,k3,k4,k5⟩ | ⟨k1,k2,k3,k4,k5⟩ | ⟨k1,k2,k3,k4,k5⟩ | ⟨k1,k2,k3⟩ | ⟨k1,k2,k3,k4⟩<;>first | (exfalso;omega) | simp_all
   refine ⟨(y1.t y8),?_⟩;rcases hr with ⟨k1,k2,k3,k4,k5⟩ | ⟨k1,k2,k3,k4,k5⟩ | ⟨k1,k2,k3,k4,k5⟩ | ⟨k1,k2,k3⟩ | ⟨k1,k2,k3,k4⟩<;>first | (exfalso;omega) | simp_all
 refine zag<|br (λgA=>?_) (λgA=>?_)
 . refine zaa zbo ?_;refine zaq ty9 (zaT C) (xrf D) λg1=>?_;refine (implIsName_ok ).mono ?_;rintro _ _ ⟨Z,rfl⟩;refine zaN (λgB=>?_) (λgB=>?_)
   . refine zaa zce ?_;refine zab zcD (zbz C) Z λg9 g2=>?_;refine (zdr g2 Z).mono ?_;rintro _ _ ⟨g3,rfl⟩;refine br (λgC=>?_) (λgC=>?_)
     . refine zaa zcf ?_;refine zab zed (zb3 C) (Z.t g3) λgb M=>?_;have O:=zan M;refine zae u60 M<|zag<|br (λgD=>?_) (λgD=>?_)
       . refine zaa zca ?_;refine zab zed (zbI C) (Z.t g3) λgc U=>?_;have V:=zan U;refine zae u60 U<|zag<|⟨(y1.t (Z.t g3)),?_⟩;rcases hr with ⟨k1,k2,k3,k4,k5⟩ | ⟨k1,k2,k3,k4,k5⟩ | ⟨k1,k2,k3,k4,k5⟩ | ⟨k1,k2,k3⟩ | ⟨k1,k2,k3,k4⟩<;>first | (exfalso;omega) | simp_all
       refine ⟨(y1.t (Z.t g3)),?_⟩;rcases hr with ⟨k1,k2,k3,k4,k5⟩ | ⟨k1,k2,k3,k4,k5⟩ | ⟨k1,k2,k3,k4,k5⟩ | ⟨k1,k2,k3⟩ | ⟨k1,k2,k3,k4⟩<;>first | (exfalso;omega) | simp_all
     refine ⟨(y1.t (Z.t g3)),?_⟩;rcases hr with ⟨k1,k2,k3,k4,k5⟩ | ⟨k1,k2,k3,k4,k5⟩ | ⟨k1,k2,k3,k4,k5⟩ | ⟨k1,k2,k3⟩ | ⟨k1,k2,k3,k4⟩<;>first | (exfalso;omega) | simp_all
   refine ⟨(y1.t Z),?_⟩;rcases hr with ⟨k1,k2,k3,k4,k5⟩ | ⟨k1,k2,k3,k4,k5⟩ | ⟨k1,k2,k3,k4,k5⟩ | ⟨k1,k2,k3⟩ | ⟨k1,k2,k3,k4⟩<;>first | (exfalso;omega) | simp_all
 refine zag<|br (λgE=>?_) (λgE=>?_)
 . refine zaa zbo ?_;refine zaq ty9 (zaT C) (xrf D) λg1=>?_;refine (implIsName_ok ).mono ?_;rintro _ _ ⟨g0,rfl⟩;refine zaN (λgF=>?_) (λgF=>?_)
   . refine zaa zce ?_;refine zab zcD (zbz C) g0 λg9 g2=>?_;refine (zdr g2 g0).mono ?_;rintro _ _ ⟨g4,rfl⟩;refine br (λgG=>?_) (λgG=>?_)
     . refine zaa zcf ?_;refine zab zed (zb3 C) (g0.t g4) λgb M=>?_;have O:=zan M;refine zae u60 M<|zag<|br (λgH=>?_) (λgH=>?_)
       . refine zaa zca ?_;refine zab zed (zbI C) (g0.t g4) λgc U=>?_;have V:=zan U;refine zae u60 U<|zag<|⟨(y1.t (g0.t g4)),?_⟩;rcases hr with ⟨k1,k2,k3,k4,k5⟩ | ⟨k1,k2,k3,k4,k5⟩ | ⟨k1,k2,k3,k4,k5⟩ | ⟨k1,k2,k3⟩ | ⟨k1,k2,k3,k4⟩<;>first | (exfalso;omega) | simp_all
       refine ⟨(y1.t (g0.t g4)),?_⟩;rcases hr with ⟨k1,k2,k3,k4,k5⟩ | ⟨k1,k2,k3,k4,k5⟩ | ⟨k1,k2,k3,k4,k5⟩ | ⟨k1,k2,k3⟩ | ⟨k1,k2,k3,k4⟩<;>first | (exfalso;omega) | simp_all
     refine ⟨(y1.t (g0.t g4)),?_⟩;rcases hr with ⟨k1,k2,k3,k4,k5⟩ | ⟨k1,k2,k3,k4,k5⟩ | ⟨k1,k2,k3,k4,k5⟩ | ⟨k1,k2,k3⟩ | ⟨k1,k2,k3,k4⟩<;>first | (exfalso;omega) | simp_all
   refine ⟨(y1.t g0),?_⟩;rcases hr with ⟨k1,k2,k3,k4,k5⟩ | ⟨k1,k2,k3,k4,k5⟩ | ⟨k1,k2,k3,k4,k5⟩ | ⟨k1,k2,k3⟩ | ⟨k1,k2,k3,k4⟩<;>first | (exfalso;omega) | simp_all
 refine zag<|br (λgI=>?_) (λgI=>?_)
 . refine zaa zbo ?_;refine zaq ty9 (zaT C) (xrf D) λ_=>zat<|br (λgJ=>?_) (λgJ=>?_)
   . refine zaa zce ?_;refine zab zcD (zbz C) (xrf D) λ_ gK=>?_;refine (zdr gK (xrf D)).mono ?_;rintro _ _ ⟨g5,rfl⟩;refine br (λgL=>?_) (λgL=>?_)
     . refine zaa zcf ?_;refine zab zed (zb3 C) g5 λ_ gh=>?_;have:=zan gh;refine zae u60 gh<|zag<|br (λgM=>?_) (λgM=>?_)
       . refine zaa zca ?_;refine zab zed (zbI C) g5 λ_ gi=>?_;have:=zan gi;refine zae u60 gi<|zag<|⟨(y1.t g5),?_⟩;rcases hr with ⟨k1,k2,k3,k4,k5⟩ | ⟨k1,k2,k3,k4,k5⟩ | ⟨k1,k2,k3,k4,k5⟩ | ⟨k1,k2,k3⟩ | ⟨k1,k2,k3,k4⟩<;>first | (exfalso;omega) | simp_all
       refine ⟨(y1.t g5),?_⟩;rcases hr with ⟨k1,k2,k3,k4,k5⟩ | ⟨k1,k2,k3,k4,k5⟩ | ⟨k1,k2,k3,k4,k5⟩ | ⟨k1,k2,k3⟩ | ⟨k1,k2,k3,k4⟩<;>first | (exfalso;omega) | simp_all
     refine ⟨(y1.t g5),?_⟩;rcases hr with ⟨k1,k2,k3,k4,k5⟩ | ⟨k1,k2,k3,k4,k5⟩ | ⟨k1,k2,k3,k4,k5⟩ | ⟨k1,k2,k3⟩ | ⟨k1,k2,k3,k4⟩<;>first | (exfalso;omega) | simp_all
   refine ⟨y1,?_⟩;rcases hr with ⟨k1,k2,k3,k4,k5⟩ | ⟨k1,k2,k3,k4,k5⟩ | ⟨k1,k2,k3,k4,k5⟩ | ⟨k1,k2,k3⟩ | ⟨k1,k2,k3,k4⟩<;>first | (exfalso;omega) | simp_all
 refine ⟨y1,?_⟩;rcases hr with ⟨k1,k2,k3,k4,k5⟩ | ⟨k1,k2,k3,k4,k5⟩ | ⟨k1,k2,k3,k4,k5⟩ | ⟨k1,k2,k3⟩ | ⟨k1,k2,k3,k4⟩<;>first | (exfalso;omega) | simp_all
def zCv {l:List DStmt} (hk:k<l.length):szL (l.drop k)=szS l[k]+szL (l.drop (k+1)):=by rw [qax hk,szL]
def zxE (l:List DStmt) (k:Nat):szL (l.drop k)<=szL l:=by
 have:=znp (l.take k) (l.drop k);rw [qca] at this;omega
def zEQ (n:Nat) (l:List DStmt):Prop:=∀ {w W:wD} {v:vL} {d:Int} {g r:Nat},Is W v l->Ext W w->(∀ x∈l,SH n x)->(n:Int)<=d->d<=6->Blk g 3 w [.int .i64 (r:Int)]->W.heap.size<=g->szL l<=r->r<=1000 ->
 CALL tp 132 [v,.int .i64 d,.pointer (some ⟨g,0,none⟩)] w λres w'=>ChgI g (g+1) w w'/\res=.bool true/\Blk g 3 w' [.int .i64 ((r-szL l:Nat):Int)]
def zjh {l:List DStmt} (ih:∀ m l,m+1=n->zEQ m l):zEQ n l:=by
 intro w W _ _ g r h e hs _ _ hB hg _ _;have:=zan h;have:=hB.lt;refine co (g:=kf [(8,136902082560,[])] [(2,288230376151710016,[11])] []) Tryz.func132 ?_;refine zae u60 h<|zar l.length (λk us w'=>us=[.int .i64 (k:Int)]/\ChgI g (g+1) w w'/\k<=l.length/\∃ q,q+szL l=r+szL (l.drop k)/\Blk g 3 w' [.int .i64 (q:Int)]) 0 (z0 _) ⟨rfl,ChgI.refl _,z0 _,r,rfl,hB⟩ ?_;rintro k m _ w1 _ ⟨hu,g9,_,q,hq,gd⟩;try replace hu:=zbv hu
 rw [hu];have gn:Ext W w1:=e.chgI g9 hg;have:=g9.size;refine zah<|br (λ_=>?_) (λ_=>?_)
 rotate_left
 . have hk:k=l.length:=oo;subst hk;rw [qbk,szL] at hq;refine ⟨g9,rfl,?_⟩;rw [show r-szL l=q by omega];exact gd
 have hk:k<l.length:=oo;have gp:=zxE l k;rw [zCv hk] at hq gp;obtain ⟨x,hx⟩:∃ x,x=l[k]:=⟨_,rfl⟩;have gq:SH n x:=by rw [hx];exact hs _ (qac hk)
 rw [<-hx] at hq gp;have:=zoU x;refine zac u60 zda h hk λ_ _ g0=>?_;rw [<-hx] at g0;refine zab zda g0 gn λ_ gr=>zbN zjy rfl zda rfl gr gn λ_ gf _ gs=>?_;have:=gf.size;have gt:=gd.ext gf;have:=gd.lt;have gy:=zcV gr gs rfl;have:=gs.lt;refine NIL.mk rfl<|zaj ty3 gt rfl<|zbp io<|NIL.mk rfl ?_;rw [show (q:Int)-1=((q-1:Nat):Int) by omega];refine zaW (α:=Int) (x:=((q-1:Nat):Int)) (lo:=0) (hi:=0) ty3 rfl rfl gt ss (Go.Sh.ownI_int io) λw3 gg gb=>?_;have:=gg.size;have gb:Blk g 3 w3 [.int .i64 ((q-1:Nat):Int)]:=gb;have M:ChgI g (g+1) w w3:=(g9.trans gf.toI).trans gg;have gh:Ext W w3:=e.chgI M hg;have O:=gy.keep (gg.block _ oo oo);have gi:=O.at gh;refine NIL.mk rfl<|zaj ty3 gb rfl<|zah<|br (λhh=>absurd hh oo) (λ_=>?_);refine zab zda gi (xrf _) λ_ gz=>?_;refine (zqw gz (xrf _) gq.one).mono ?_;rintro _ w4 ⟨C,rfl⟩;have:=C.size;have g1:=O.ext C |>.at (gh.t C);have gx:=gb.ext C;refine zau<|zaN (λhc=>by simp at hc) (λ_=>?_);obtain ⟨gA,gB,-,gC,gD⟩:=gq.kids
 have g2:¬(x.kind=2\/x.kind=3)->szS x=1:=λhn=>by
   obtain ⟨q1,q2⟩:=gC hn;rw [zoU,q1,q2];simp [szL]
 have D:∀ {w5:wD} {q5:Nat},ChgI g (g+1) w w5->q5+szL l=r+szL (l.drop (k+1))->Blk g 3 w5 [.int .i64 (q5:Int)] ->
     ∃ m',m'<m/\∃ k',k'+m'=l.length/\([Value.int .i64 ((k+1:Nat):Int)]=[.int .i64 (k':Int)]/\ChgI g (g+1) w w5/\k'<=l.length/\∃ q,q+szL l=r+szL (l.drop k')/\Blk g 3 w5 [.int .i64 (q:Int)]):=
   λ{w5 q5} a1 a2 a3=>⟨m-1,oo,k+1,oo,rfl,a1,oo,q5,a2,a3⟩
 refine JOIN.mk (λus w'=>(x.kind=2\/x.kind=3)/\w'=w4) ?_ ?_
 . refine zaa zdl ?_;refine zad ty3 (zb2 g1) (xrf _) λhI=>zaJ<|br (λh2=>?_) (λh2=>⟨.inl (qaf.1 h2),rfl⟩);refine zaa zdl<|zad ty3 (zb2 g1) (xrf _) λhI=>zaJ<|br (λh3=>?_) (λh3=>⟨.inr (qaf.1 h3),rfl⟩);have:=g2 oo;refine zaw<|D (M.trans C.toI) (q5:=q-1) oo gx
 rintro _ w5 ⟨gE,rfl⟩;have:0<n:=gD gE;have g3:=And.intro gA gB;refine zag<|br (λhc=>oo) (λ_=>?_);refine zaa zcf ?_;have gj:Ext W w5:=gh.t C;have g4:=O.ext C;refine zbd zed (zrF g4) gj (xrf _) λ_ gF=>zbp io ?_;refine (ih (n-1) _ oo gF gj g3.1 oo oo gx hg oo oo).mono ?_;rintro _ w6 ⟨gc,rfl,gG⟩;have:=gc.size;have gl:Ext W w6:=gj.chgI gc hg;have g5:=g4.keep (gc.block _ oo oo);have:=g5.at gl;refine zau<|zaN (λhc=>by simp at hc) (λ_=>?_);refine zaa zca<|zbd zed (zrG g5) gl (xrf _) λ_ gH=>zbp io ?_;refine (ih (n-1) _ oo gH gl g3.2 oo oo gG hg oo oo).mono ?_;rintro _ _ ⟨gI,rfl,gJ⟩;refine zau<|zaN (λhc=>by simp at hc) (λ_=>?_);refine zaw<|D (((M.trans C.toI).trans gc).trans gI) ?_ gJ;omega
end Go.Proofs.YtkgiigmcbgifdaaGreatDoor
namespace Go.Sh
open Rep (rep)
variable {F G:List Nat} {b o:Nat} {cs:List vL} {w:wD}
structure DEc where
 a:Raw
 b:Raw
 c:Raw
 d:Raw
 ins:RIns
def DEc.ext_iff {x y:DEc}:x=y↔(x.a=y.a/\x.b=y.b/\x.c=y.c/\x.d=y.d/\x.ins=y.ins):=⟨λh=>by rw [h];exact ⟨rfl,rfl,rfl,rfl,rfl⟩,λh=>by obtain ⟨h0,h1,h2,h3,h4⟩:=h;cases x;cases y;simp only at h0 h1 h2 h3 h4;simp only [h0,h1,h2,h3,h4]⟩
instance:Rep DEc:=Rep.via λx=>(x.a,x.b,x.c,x.d,x.ins)
instance:RepZ DEc:=⟨⟨(RepZ.zv:Raw),(RepZ.zv:Raw),(RepZ.zv:Raw),(RepZ.zv:Raw),(RepZ.zv:RIns)⟩,RepZ.zc (Raw×Raw×Raw×Raw×RIns),λw=>RepZ.zr (α:=Raw×Raw×Raw×Raw×RIns) w⟩
def zuD {γ:Type} {H:List Nat->wD->γ->Prop} {x:DEc} {upd:DEc->γ} (h:Lens H F w b o G x upd) :
   ∃ G1,Lens H F w b (o+0) G1 x.a (λy=>upd ⟨y,x.b,x.c,x.d,x.ins⟩):=by
 have h':Lens H F w b o G (x.a,x.b,x.c,x.d,x.ins) (λp:Raw×Raw×Raw×Raw×RIns=>upd ⟨p.1,p.2.1,p.2.2.1,p.2.2.2.1,p.2.2.2.2⟩):=⟨h.here,h.sub,λw' G' _ hc hO hs=>h.back w' G' _ hc hO hs⟩;obtain ⟨_,h'⟩:=h'.fst;exact ⟨_,h'⟩
def zuE {γ:Type} {H:List Nat->wD->γ->Prop} {x:DEc} {upd:DEc->γ} (h:Lens H F w b o G x upd) :
   ∃ G1,Lens H F w b (o+1) G1 x.b (λy=>upd ⟨x.a,y,x.c,x.d,x.ins⟩):=by
 have h':Lens H F w b o G (x.a,x.b,x.c,x.d,x.ins) (λp:Raw×Raw×Raw×Raw×RIns=>upd ⟨p.1,p.2.1,p.2.2.1,p.2.2.2.1,p.2.2.2.2⟩):=⟨h.here,h.sub,λw' G' _ hc hO hs=>h.back w' G' _ hc hO hs⟩;obtain ⟨_,h'⟩:=h'.snd;obtain ⟨G1,h'⟩:=h'.fst;exact ⟨_,h'⟩
def zuF {γ:Type} {H:List Nat->wD->γ->Prop} {x:DEc} {upd:DEc->γ} (h:Lens H F w b o G x upd) :
   ∃ G1,Lens H F w b (o+2) G1 x.c (λy=>upd ⟨x.a,x.b,y,x.d,x.ins⟩):=by
 have h':Lens H F w b o G (x.a,x.b,x.c,x.d,x.ins) (λp:Raw×Raw×Raw×Raw×RIns=>upd ⟨p.1,p.2.1,p.2.2.1,p.2.2.2.1,p.2.2.2.2⟩):=⟨h.here,h.sub,λw' G' _ hc hO hs=>h.back w' G' _ hc hO hs⟩;obtain ⟨_,h'⟩:=h'.snd;obtain ⟨G1,h'⟩:=h'.snd;obtain ⟨_,h'⟩:=h'.fst;exact ⟨_,h'⟩
def znC {γ:Type} {H:List Nat->wD->γ->Prop} {x:DEc} {upd:DEc->γ} (h:Lens H F w b o G x upd) :
   ∃ G1,Lens H F w b (o+3) G1 x.d (λy=>upd ⟨x.a,x.b,x.c,y,x.ins⟩):=by
 have h':Lens H F w b o G (x.a,x.b,x.c,x.d,x.ins) (λp:Raw×Raw×Raw×Raw×RIns=>upd ⟨p.1,p.2.1,p.2.2.1,p.2.2.2.1,p.2.2.2.2⟩):=⟨h.here,h.sub,λw' G' _ hc hO hs=>h.back w' G' _ hc hO hs⟩;obtain ⟨_,h'⟩:=h'.snd;obtain ⟨G1,h'⟩:=h'.snd;obtain ⟨_,h'⟩:=h'.snd;obtain ⟨_,h'⟩:=h'.fst;exact ⟨_,h'⟩
def zgo {γ:Type} {H:List Nat->wD->γ->Prop} {x:DEc} {upd:DEc->γ} (h:Lens H F w b o G x upd) :
   ∃ G1,Lens H F w b (o+4) G1 x.ins (λy=>upd ⟨x.a,x.b,x.c,x.d,y⟩):=by
 have h':Lens H F w b o G (x.a,x.b,x.c,x.d,x.ins) (λp:Raw×Raw×Raw×Raw×RIns=>upd ⟨p.1,p.2.1,p.2.2.1,p.2.2.2.1,p.2.2.2.2⟩):=⟨h.here,h.sub,λw' G' _ hc hO hs=>h.back w' G' _ hc hO hs⟩;obtain ⟨_,h'⟩:=h'.snd;obtain ⟨G1,h'⟩:=h'.snd;obtain ⟨_,h'⟩:=h'.snd;obtain ⟨_,h'⟩:=h'.snd;exact ⟨_,h'⟩
def zCw {x:DEc} (h:rep F w cs x):∃ F0 c0 F1 c1 F2 c2 F3 c3 F4 c4,F=(F0++(F1++(F2++(F3++F4))))/\cs=(c0++(c1++(c2++(c3++c4))))/\rep F0 w c0 x.a/\rep F1 w c1 x.b/\rep F2 w c2 x.c/\rep F3 w c3 x.d/\rep F4 w c4 x.ins:=by
 obtain ⟨F0,_,c0,_,rfl,rfl,h0,h⟩:=h;obtain ⟨F1,_,c1,_,rfl,rfl,h1,h⟩:=h;obtain ⟨F2,_,c2,_,rfl,rfl,h2,h⟩:=h;obtain ⟨F3,_,c3,_,rfl,rfl,h3,h⟩:=h;exact ⟨_,_,_,_,_,_,_,_,_,_,rfl,rfl,h0,h1,h2,h3,h⟩
end Go.Sh
namespace Go.Proofs.YtkgiigmcbgifdaaGreatDoor
open Go Go.Sh Go.Proofs
open Rep (rep)
variable {W0 w:wD} {s:ByteArray} {v0:vL}
def zxF (t:DTerm):Prop:=∀ {w W:wD} {v:vL},Is W v t->Ext W w->wT t<=1048576 ->
 CALL tp 129 [v] w λr w'=>Ext w w'/\Own w.heap.size w' r t
def zo6 {t:DTerm} (ih:∀ x∈t.kids,zxF x):zxF t:=by
 intro _ _ _ h e _;have hkl:t.kids.length<=1048576:=by have:=zwt t;have:=zpU t.kids;omega
 have gf:∀ x∈t.kids,wT x<=1048576:=λx hx=>by have:=zwt t;have:=zpU t.kids;have:=zAV wT hx;omega
 refine co (g:=kf [] [(3,523816,[3,9])] []) Tryz.func129 ?_;refine zbk h e λ_ g5 hA=>?_;have hs1:=g5.size;refine za1 zri λw2 D g9=>?_;have hg2:=g9.lt;have hs2:=D.size;refine zaa zcr<|zab ziM (za7 hA) D λ_ h7=>zae u65 h7 ?_
 refine zar t.kids.length (λk us w'=>∃ v3 hi,us=[v3,.int .i64 (k:Int)]/\k<=t.kids.length/\hi<=w'.heap.size/\w2.heap.size<=hi/\Ext w2 w'/\RowI w2.heap.size hi 67 w' v3 (t.kids.take k)) 0 (z0 _)
     ⟨.slice none 0 0,w2.heap.size,rfl,z0 _,lr _,qaE _,xrf _,zbL _ _ _ _⟩ ?_
 rintro k m _ w5 _ ⟨v3,hi,hu,_,_,_,C,r5⟩;obtain ⟨gg,gh⟩:=zcv hu;rw [gg,gh];have hs5:=C.size;refine zah<|br (λ_=>?_) (λ_=>?_)
 . have hk:k<t.kids.length:=oo;refine zac u65 zcD h7 hk λ_ _ g0=>zab zcD g0 (D.t C) λ_ gi=>zbN zri rfl zcD rfl gi (D.t C) λw6 g1 gj _=>?_;have hs6:=g1.size;refine zab zcD gj (xrf _) λ_ gl=>?_;refine (ih _ (qac hk) gl (xrf _) (gf _ (qac hk))).mono ?_;rintro _ _ ⟨g2,g3⟩;have g3:=g3.toI;have hs7:=g2.size;refine zbs (α:=DTerm) u65 zcD z67 zEE dD (r5.ext (g1.t g2)) oo g3 oo oo (by rw [zak,qao];omega) (by rw [qao];omega) λgn w8 gb r8=>?_;have hs8:=gb.size;refine zaw<|⟨m-1,oo,k+1,oo,gn,w8.heap.size,rfl,oo,lr _,oo,Ext.chgI (C.t (g1.t g2)) gb oo,?_⟩;rwa [<-tk hk] at r8
 have hk:t.kids.length<=k:=oo;refine zaa zfw<|zad ty3 (zcI hA) (D.t C) λgp=>zaa zgY<|zad ty3 (zco hA) (D.t C) λgq=>zaa zfx<|zaq ty9 (zb1 hA) (D.t C) λg4=>?_;have r5:=r5.own;rw [qai hk] at r5
 have gc:OwnI w2.heap.size hi w5 (.agg #[.int .i64 t.kind,.int .i64 t.num,.string t.name,v3]) t:=by
   have:=zc0 gp gq g4 r5;rwa [DTerm.eta] at this
 obtain ⟨a,n,cap,q1⟩:=zgf r5;subst q1;refine zas (cells:=#[.int .i64 t.kind,.int .i64 t.num,.string t.name,.slice a n cap]) kK<|za3 zcD rfl (g9.ext C) rfl gc λw6 gd gr=>zcL gr zcD<|⟨Ext.chgI (g5.t (D.t C)) gd oo,(gc.chg gd oo).own.mono oo⟩
def zmh (t:DTerm):zxF t:=DTerm.ind (λt ih {_ _ _}=>zo6 ih) t
def zh8 {l:(List ByteArray)}  (h0:Is W0 v0 l) (e0:Ext W0 w)  :
   CALL tp 128 [v0,.string s] w λr w'=>Ext w w'/\(r=.int .i64 (plc s l)):=by
 refine co (g:=kf [] [] []) Tryz.func128 ?_;refine (zil h0 e0).mono ?_;rintro _ _ ⟨y1,rfl⟩;refine ⟨y1,?_⟩;rfl
structure NmK (g bs:Nat) (c0 c1 c2:vL) (G L P:List ByteArray) (w:wD):Prop where
 m0:∃ F,Mine F w c0 G/\∀ b∈F,b<bs/\b≠g
 m1:∃ F,Mine F w c1 L/\∀ b∈F,b<bs/\b≠g
 m2:∃ F,Mine F w c2 P/\∀ b∈F,b<bs/\b≠g
structure CoF (W:wD) (g bs:Nat) (c0 c1 c2 ve:vL) (G L P:List ByteArray) (I:List DIns) (F:List Nat) (w:wD):Prop where
 oat:∃ rv,OAt F w g 0 (⟨⟨c0⟩,⟨c1⟩,⟨c2⟩,⟨ve⟩,⟨rv,I⟩⟩:DEc)
 nm:NmK g bs c0 c1 c2 G L P w
 old:Ext W w
 gW:W.heap.size<=g
 gb:g<bs
 Wb:bs<=w.heap.size
 Fb:∀ c∈F,bs<=c
section
variable {W w w':wD} {g bs:Nat} {c0 c1 c2 ve:vL} {G L P:List ByteArray} {I:List DIns} {F F':List Nat}
def NmK.keep (h:NmK g bs c0 c1 c2 G L P w) (hk:∀ b,b<bs->b≠g->b<w.heap.size->w'.heap[b]?=w.heap[b]?):NmK g bs c0 c1 c2 G L P w':=by
 obtain ⟨⟨F0,a0,b0⟩,⟨F1,a1,b1⟩,⟨F2,a2,b2⟩⟩:=h;exact ⟨⟨F0,a0.keep λb hb=>hk b (b0 b hb).1 (b0 b hb).2 (a0.lt b hb),b0⟩,⟨F1,a1.keep λb hb=>hk b (b1 b hb).1 (b1 b hb).2 (a1.lt b hb),b1⟩,⟨F2,a2.keep λb hb=>hk b (b2 b hb).1 (b2 b hb).2 (a2.lt b hb),b2⟩⟩
def CoF.lt (h:CoF W g bs c0 c1 c2 ve G L P I F w):g<w.heap.size/\(∀ c∈F,c<w.heap.size)/\g∉F/\∀ c∈F,W.heap.size<=c:=by
 obtain ⟨_,h2⟩:=h.oat;have:=h2.lts;have h6:=h.gb;have h7:=h.gW;exact ⟨this g ss,λc hc=>this c (by simp [hc]),λhm=>by have:=h.Fb g hm;omega,λc hc=>by have:=h.Fb c hc;omega⟩
def CoF.ext (h:CoF W g bs c0 c1 c2 ve G L P I F w) (hx:Ext w w'):CoF W g bs c0 c1 c2 ve G L P I F w':=by
 obtain ⟨rv,h2⟩:=h.oat;exact ⟨⟨rv,h2.ext hx⟩,h.nm.keep λ_ _ _ hb=>hx.heap hb,h.old.trans hx,h.gW,h.gb,qal h.Wb hx.size,h.Fb⟩
def CoF.turn {I':List DIns} {rv:vL} (h:CoF W g bs c0 c1 c2 ve G L P I F w) (hc:Chg (g :: F) w w') (hO:OAt F' w' g 0 (⟨⟨c0⟩,⟨c1⟩,⟨c2⟩,⟨ve⟩,⟨rv,I'⟩⟩:DEc)) (hF:∀ c∈F',c∈F\/w.heap.size<=c):CoF W g bs c0 c1 c2 ve G L P I' F' w':=by
 have hb:=h.Wb;have h1:=h.gW;have h2:=h.gb;refine ⟨⟨rv,hO⟩,h.nm.keep λb _ g0 g1=>hc.block b g1 λhm=>?_,h.old.chgL hc λc C=>?_,h1,h2,qal hb hc.size,λc C=>(hF c C).elim (h.Fb c) λh=>oo⟩
 . rcases qaa.1 hm with e | hm
   . exact g0 e
   have:=h.Fb b hm;omega
 rcases qaa.1 C with rfl | C
 . exact h1
 have:=h.Fb c C;omega
def zxG {j:Nat} {cj:vL} {l:List ByteArray} (h:CoF W g bs c0 c1 c2 ve G L P I F w) (hj:(j=0/\cj=c0/\l=G)\/(j=1/\cj=c1/\l=L)\/(j=2/\cj=c2/\l=P)) :
   w.rangeAt g (0+j) [cj]/\Is w cj l:=by
 obtain ⟨_,hO⟩:=h.oat;obtain ⟨⟨_,a0,_⟩,⟨_,a1,_⟩,⟨_,a2,_⟩⟩:=h.nm;rcases hj with ⟨rfl,rfl,rfl⟩ | ⟨rfl,rfl,rfl⟩ | ⟨rfl,rfl,rfl⟩
 . obtain ⟨G1,hL⟩:=zuD (Lens.var hO);obtain ⟨cs,⟨_,rfl,_⟩,hr,_⟩:=hL.here;exact ⟨hr,a0.is⟩
 . obtain ⟨G1,hL⟩:=zuE (Lens.var hO);obtain ⟨cs,⟨_,rfl,_⟩,hr,_⟩:=hL.here;exact ⟨hr,a1.is⟩
 obtain ⟨G1,hL⟩:=zuF (Lens.var hO);obtain ⟨cs,⟨_,rfl,_⟩,hr,_⟩:=hL.here;exact ⟨hr,a2.is⟩
def zji (h:CoF W g bs c0 c1 c2 ve G L P I F w):∃ rv,w.rangeAt g (0+4) [rv]/\Is w rv I/\OAt F w g 0 (⟨⟨c0⟩,⟨c1⟩,⟨c2⟩,⟨ve⟩,⟨rv,I⟩⟩:DEc):=by
 obtain ⟨rv,hO⟩:=h.oat;obtain ⟨_,hL⟩:=zgo (Lens.var hO);obtain ⟨_,⟨rfl,g0⟩,g1,_⟩:=hL.here;exact ⟨rv,g1,g0.own.is,hO⟩
def zr2 {w2 w3:wD} {rv u:vL} {x:DIns} {lo hi:Nat} {K:wD->Prop} (h:CoF W g bs c0 c1 c2 ve G L P I F w2) (hO:OAt F w2 g 0 (⟨⟨c0⟩,⟨c1⟩,⟨c2⟩,⟨ve⟩,⟨rv,I⟩⟩:DEc)) (hx:Ext w2 w3) (o:OwnI lo hi w3 u x) (hlo:w2.heap.size<=lo) (gx:lo<=w3.heap.size)
   (hI:I.length<=1000000) (k:∀ w4 F4,Chg (g :: F) w2 w4->CoF W g bs c0 c1 c2 ve G L P (I++[x]) F4 w4->(∀ c∈F4,c∈F\/w2.heap.size<=c)->K w4) :
   OP tp (Instr.buildSlice 32 1 #[(0,u)]) w3 λx49 w=>ExtX (λc=>c∈F) w3 w/\OP tp (Builtin.append_ #[32,32] 32 [rv,x49].toArray) w λx50 w'=>
     ExtX (λc=>c∈F) w w'/\NIL (.pointer (some ⟨g,0,none⟩)) (RDX tp (λc=>c∈F) (Instr.fieldAt 34 (.pointer (some ⟨g,0,none⟩)) 4) w' λx52=>OPU tp (Instr.storeAt 32 x52 x50) w' λw=>K w):=by
 obtain ⟨_,e2,_,_⟩:=h.lt;have:=hx.size;obtain ⟨_,gj,g4⟩:=o;have gd:=hO.ext hx;obtain ⟨G1,g5⟩:=zgo (Lens.var gd);obtain ⟨_,⟨rfl,g9⟩,_,gl,_,gn,_⟩:=g5.here
 have g2:∀ c∈G1,c∈F:=λc hc=>by
   rcases qaa.1 (g5.sub c (by simp [hc])) with e | h
   . exact absurd (e▸hc) gn
   exact h
 have g0:=gd.lts;refine zdD (β:=DIns) (G:=G1) u32 zdw z69 zEF dD g9 gl gj (λc hc gp=>by have:=g4 c hc;have:=e2 c (g2 c gp);omega) (by rw [zak];show I.length+1<=_;omega) (by show (I.length+1)*_<=_;omega) (λw4 _ w5 _ g3 gf gq gr gg=>?_) λ_ w4 g3 h=>⟨g3.toX,h⟩;have:=g3.size;refine ⟨gf.toX (λc hc=>g2 c hc),?_⟩;refine NIL.mk rfl<|zdy zaH ?_;have gb:Chg G1 w3 w5:=(g3.chg G1).trans gf;refine zis zcQ g5 g0 gb gq gr (λc hc=>?_) λw6 gs ⟨F',gh,gt⟩=>?_
 . rcases gg c hc with h | h | h
   . exact .inl h
   . refine .inr λhm=>?_;have:=g4 c h;rcases qaa.1 hm with e | hm
     . omega
     have:=e2 c hm;omega
   exact .inr λhm=>by have:=g0 c hm;omega
 have gc:g∉F':=by obtain ⟨_,_,_,_,_,hn,_⟩:=gh;exact hn
 have g1:Chg (g :: F) w2 w6:=(hx.chg _).trans (gs.mono λc hc=>by
   rcases qaa.1 hc with rfl | hc
   . simp
   simp [g2 c hc])
 have gi:∀ c∈F',c∈F\/w2.heap.size<=c:=λc hc=>by
   rcases gt c hc with h | h
   . rcases qaa.1 h with rfl | h
     . exact absurd hc gc
     exact .inl h
   rcases gg c h with h | h | h
   . exact .inl (g2 c h)
   . have:=g4 c h;exact .inr oo
   exact .inr oo
 exact k w6 F' g1 (h.turn g1 gh gi) gi
def zo7 {w2:wD} {u:vL} {x:DIns} {lo hi:Nat} {K:wD->Prop} (h:CoF W g bs c0 c1 c2 ve G L P I F w2) (o:OwnI lo hi w2 u x) (hlo:w2.heap.size<=lo)
   (hI:I.length<=1000000) {rv:vL} (hO:OAt F w2 g 0 (⟨⟨c0⟩,⟨c1⟩,⟨c2⟩,⟨ve⟩,⟨rv,I⟩⟩:DEc)) (k:∀ w4 F4,Chg (g :: F) w2 w4->CoF W g bs c0 c1 c2 ve G L P (I++[x]) F4 w4->(∀ c∈F4,c∈F\/w2.heap.size<=c)->K w4) :
   OP tp (Instr.buildSlice 32 1 #[(0,u)]) w2 λx49 w=>OP tp (Builtin.append_ #[32,32] 32 [rv,x49].toArray) w λx50 w'=>
     NIL (.pointer (some ⟨g,0,none⟩)) (RD tp (Instr.fieldAt 34 (.pointer (some ⟨g,0,none⟩)) 4) w' λx52=>OPU tp (Instr.storeAt 32 x52 x50) w' λw=>K w):=by
 obtain ⟨_,e2,_,_⟩:=h.lt;obtain ⟨_,gh,g2⟩:=o;obtain ⟨G1,g3⟩:=zgo (Lens.var hO);obtain ⟨_,⟨rfl,g4⟩,_,gi,_,gj,_⟩:=g3.here
 have g5:∀ c∈G1,c∈F:=λc hc=>by
   rcases qaa.1 (g3.sub c (by simp [hc])) with e | h
   . exact absurd (e▸hc) gj
   exact h
 have g0:=hO.lts;refine zdD (β:=DIns) (G:=G1) u32 zdw z69 zEF dD g4 gi gh (λc hc gl=>by have:=g2 c hc;have:=e2 c (g5 c gl);omega) (by rw [zak];show I.length+1<=_;omega) (by show (I.length+1)*_<=_;omega) (λw4 _ w5 _ g9 gn gp gq gd=>?_) λ_ w4 g9 h=>h;have:=g9.size;refine NIL.mk rfl<|zaa zaH ?_;have gb:Chg G1 w2 w5:=(g9.chg G1).trans gn;refine zis zcQ g3 g0 gb gp gq (λc hc=>?_) λw6 gr ⟨F',gf,gs⟩=>?_
 . rcases gd c hc with h | h | h
   . exact .inl h
   . refine .inr λhm=>?_;have:=g2 c h;rcases qaa.1 hm with e | hm
     . omega
     have:=e2 c hm;omega
   exact .inr λhm=>by have:=g0 c hm;omega
 have gc:g∉F':=by obtain ⟨_,_,_,_,_,hn,_⟩:=gf;exact hn
 have g1:Chg (g :: F) w2 w6:=gr.mono λc hc=>by
   rcases qaa.1 hc with rfl | hc
   . simp
   simp [g5 c hc]
 have gg:∀ c∈F',c∈F\/w2.heap.size<=c:=λc hc=>by
   rcases gs c hc with h | h
   . rcases qaa.1 h with rfl | h
     . exact absurd hc gc
     exact .inl h
   rcases gd c h with h | h | h
   . exact .inl (g5 c h)
   . have:=g2 c h;exact .inr oo
   exact .inr oo
 exact k w6 F' g1 (h.turn g1 gf gg) gg
def zkW {A R:List DIns} {y:DIns} {k:Nat} {K:wD->Prop} (h:CoF W g bs c0 c1 c2 ve G L P (A++y :: R) F w) (hk:A.length=k) (hL:(A++y :: R).length<=1000000)
   (kk:∀ w' F',Chg (g :: F) w w'->CoF W g bs c0 c1 c2 ve G L P (A++(⟨y.op,y.arg,y.term,((A++y :: R).length:Int)⟩:DIns) :: R) F' w'->(∀ c∈F',c∈F)->K w') :
   NIL (.pointer (some ⟨g,0,none⟩))<|RD tp (Instr.fieldAt 34 (.pointer (some ⟨g,0,none⟩)) 4) w λx110=>RD tp (Instr.loadAt 32 x110) w λx111=>
     NIL (.pointer (some ⟨g,0,none⟩))<|RD tp (Instr.fieldAt 34 (.pointer (some ⟨g,0,none⟩)) 4) w λx115=>RD tp (Instr.loadAt 32 x115) w λx116=>
     RD tp (Builtin.len_ #[32] 3 [x116].toArray) w λx117=>RD tp (Instr.indexAt 32 x111 (.int .i64 (k:Int))) w λx118=>RD tp (Instr.fieldAt 69 x118 3) w λx119=>
     OPU tp (Instr.storeAt 3 x119 x117) w λw=>K w:=by
 obtain ⟨_,_,_,_⟩:=h.lt;obtain ⟨rv,h2⟩:=h.oat;have:=h2.lts;have C:k<(A++y :: R).length:=by simp;omega
 obtain ⟨_,g3⟩:=zgo (Lens.var h2);obtain ⟨_,⟨rfl,g1⟩,g4,_⟩:=g3.here;obtain ⟨_,_,_,_,g5,_,g9⟩:=g3.elemV (k:=k) C;refine NIL.mk rfl<|zaa zaH<|zdH zcQ g4<|NIL.mk rfl<|zaa zaH<|zdH zcQ g4<|zae u32 (show Is w rv (A++y :: R) from g1.own.is)<|zl4 u32 zdw g5 C ?_;obtain ⟨_,gb⟩:=zlm g9;refine zaa zfa<|zkE ty3 gb (zcF io) ss λw' hc ⟨F',hO,gc⟩=>?_;have g2:g∉F':=by obtain ⟨_,_,_,_,_,hn,_⟩:=hO;exact hn
 have hF:∀ c∈F',c∈F:=λc g0=>by
   rcases gc c g0 with h | h
   . rcases qaa.1 h with rfl | h
     . exact absurd g0 g2
     exact h
   simp at h
 refine kk w' F' hc (h.turn (rv:=rv) hc ?_ λc g0=>.inl (hF c g0)) hF;have hO:OAt F' w' g 0 (⟨⟨c0⟩,⟨c1⟩,⟨c2⟩,⟨ve⟩,⟨rv,(A++y :: R).set k ⟨((A++y :: R)[k]'C).op,((A++y :: R)[k]'C).arg,((A++y :: R)[k]'C).term,((A++y :: R).length:Int)⟩⟩⟩:DEc):=hO;rw [zwK hk,zwL hk C] at hO;exact hO
end
end Go.Proofs.YtkgiigmcbgifdaaGreatDoor
namespace Go.Sh
open Rep (rep)
section
variable {P:pG} {X:Nat->Prop} {w W:wD} {K:vL->Prop}
def zr3 {m:Sem vL} {v:vL} (h:∀ w',RD P m w' (λu=>u=v)) (k:K v):RDX P X m w K:=
 ⟨v,λw' _=>by obtain ⟨u,hu,rfl⟩:=h w';exact hu w' (xrf w'),k⟩
def znD {α:Type} [Rep α] {t by_ b o:Nat} {x:α} (ht:tyI P t=some (Rep.size α,by_,true)) (ha:Rep.agg α=true) (hn:0<Rep.size α) (h:AtB W w b o x) (hX:¬X b) (k:∀ v,Is W v x->K v) :
   RDX P X (Instr.loadAt t (.pointer (some ⟨b,o,none⟩))) w K:=by
 obtain ⟨F,cs,hr,hc⟩:=h;obtain ⟨_,d,hi,hd,hs,_,hg⟩:=zdd ht;have hl:=Rep.len hr;have hb:=zea hc oo;refine ⟨.agg cs.toArray,λw' g0=>?_,k _ ⟨F,cs,hr,by simp [mkv,ha]⟩⟩;exact run_loadAt_mid w' b o t cs d (zbx hc (g0.block b hb hX)) hd hg (by simp [hi,hs,hl])
end
end Go.Sh
namespace Go.Proofs.YtkgiigmcbgifdaaGreatDoor
open Go Go.Sh Go.Proofs
open Rep (rep)
variable {F F':List Nat} {K:vL->Prop} {P:pG} {W w w' w5:wD} {b g gl gn gp n:Nat} {cs:List vL} {s:ByteArray} {v vl:vL}
def zD9 {x:DStmt} (h:AtB W w b 0 x):w.rangeAt b (0+1) [.string x.name]:=by
 obtain ⟨F,cs,hr,hc⟩:=h;have h:AtB W w b 0 x.tup:=⟨F,cs,zeq.1 hr,hc⟩;obtain ⟨F,cs,⟨_,rfl,_⟩,hr⟩:=h.snd.fst;exact hr
def zEa {x:DStmt} (h:AtB W w b 0 x):AtB W w b (0+2) x.term:=by
 obtain ⟨F,cs,hr,hc⟩:=h;have h:AtB W w b 0 x.tup:=⟨F,cs,zeq.1 hr,hc⟩;exact h.snd.snd.fst
section
variable {w:wD} {lo hi:Nat} {K:vL->Prop} {X:Nat->Prop}
def zqx {a b:Int} {u:vL} {t:DTerm} (ha:I64 a) (hb:I64 b) (hu:OwnI lo hi w u t) (k:∀ v,OwnI lo hi w v (⟨a,b,t,0⟩:DIns)->K v):RDX tp X (Instr.build 69 #[(0,.int .i64 a),(1,.int .i64 b),(2,u)]) w K:=by
 obtain ⟨p,q,rfl⟩:=zhD hu.is;exact zr3 (λ_=>zas (cells:=#[.int .i64 a,.int .i64 b,.int .i64 t.kind,.int .i64 t.num,.string t.name,.slice p t.kids.length q,.int .i64 0]) kK rfl) (k _ (zfI ha hb zcS hu))
def zr4 {a:Int} {u:vL} {t:DTerm} (ha:I64 a) (hu:OwnI lo hi w u t) (k:∀ v,OwnI lo hi w v (⟨a,0,t,0⟩:DIns)->K v):RDX tp X (Instr.build 69 #[(0,.int .i64 a),(2,u)]) w K:=by
 obtain ⟨p,q,rfl⟩:=zhD hu.is;exact zr3 (λ_=>zas (cells:=#[.int .i64 a,.int .i64 0,.int .i64 t.kind,.int .i64 t.num,.string t.name,.slice p t.kids.length q,.int .i64 0]) kK rfl) (k _ (zfI ha zcS zcS hu))
def zr5 {a b:Int} (ha:I64 a) (hb:I64 b) (k:∀ v,OwnI lo hi w v (⟨a,b,term0,0⟩:DIns)->K v):RDX tp X (Instr.build 69 #[(0,.int .i64 a),(1,.int .i64 b)]) w K:=by
 refine zr3 (v:=.agg #[.int .i64 a,.int .i64 b,.int .i64 0,.int .i64 0,.string nO,.slice none 0 0,.int .i64 0]) (λ_=>zas (cells:=#[.int .i64 a,.int .i64 b,.int .i64 0,.int .i64 0,.string nO,.slice none 0 0,.int .i64 0]) kK rfl)<|k _ (zfI ha hb zcS zcM)
end
section
variable {W w:wD} {g bs:Nat} {c0 c1 c2 ve:vL} {G L P:List ByteArray} {I:List DIns} {F:List Nat}
def zkX {j g5:Nat} {cj:vL} {l:List ByteArray} {op:Int} {x:DStmt} {K:wD->Prop} (h:CoF W g bs c0 c1 c2 ve G L P I F w) (hf:zdv tp 34 j=some j) (hj:(j=0/\cj=c0/\l=G)\/(j=1/\cj=c1/\l=L)\/(j=2/\cj=c2/\l=P))
   (ho:I64 op) (hB:AtB W w g5 0 x) (h5:g5∉F) (hI:I.length<=1000000) (k:∀ w4 F4,Chg (g :: F) w w4->CoF W g bs c0 c1 c2 ve G L P (I++[⟨op,plc x.name l,term0,0⟩]) F4 w4->(∀ c∈F4,c∈F\/w.heap.size<=c)->K w4) :
   XR λX=>NIL (.pointer (some ⟨g,0,none⟩))<|RDX tp X (Instr.fieldAt 34 (.pointer (some ⟨g,0,none⟩)) 4) w λx36=>RDX tp X (Instr.loadAt 32 x36) w λx37=>
     NIL (.pointer (some ⟨g,0,none⟩))<|RDX tp X (Instr.fieldAt 34 (.pointer (some ⟨g,0,none⟩)) j) w λx40=>RDX tp X (Instr.loadAt 26 x40) w λx41=>
     RDX tp X (Instr.fieldAt 117 (.pointer (some ⟨g5,0,none⟩)) 1) w λx42=>RDX tp X (Instr.loadAt 9 x42) w λx43=>CALL tp 128 [x41,x43] w λx44 w1=>
     ExtX X w w1/\RDX tp X (Instr.build 69 #[(0,.int .i64 op),(1,x44)]) w1 λx48=>OP tp (Instr.buildSlice 32 1 #[(0,x48)]) w1 λx49 w2=>ExtX X w1 w2 /\
     OP tp (Builtin.append_ #[32,32] 32 [x37,x49].toArray) w2 λx50 w3=>ExtX X w2 w3/\NIL (.pointer (some ⟨g,0,none⟩)) (RDX tp X (Instr.fieldAt 34 (.pointer (some ⟨g,0,none⟩)) 4) w3 λx52=>
     OPU tp (Instr.storeAt 32 x52 x50) w3 λw=>K w):=by
 obtain ⟨_,_,e3,_⟩:=h.lt;obtain ⟨_,hr,hi,hO⟩:=zji h;obtain ⟨hn,g1⟩:=zxG h hj;refine XR.mk (λc=>c∈F)<|NIL.mk rfl<|zdy zaH<|zeW zcQ hr e3<|NIL.mk rfl<|zdy hf<|zeW zb9 hn e3<|zdy zbo<|zeW ty9 (zD9 hB) h5 ?_;refine (zh8 g1 (xrf _)).mono ?_;rintro _ w4 ⟨g0,rfl⟩;refine ⟨g0.toX,?_⟩;have:=ziU (s:=x.name) (l:=l);have:=zan g1;refine zr5 (lo:=w4.heap.size) (hi:=w4.heap.size) ho io λ_ g2=>zr2 h hO g0 g2 g0.size (lr _) hI k
def zxH {g5:Nat} {x:DStmt} {K:wD->Prop} (h:CoF W g bs c0 c1 c2 ve G L P I F w) (hB:AtB W w g5 0 x) (h5:g5∉F) (hI:I.length<=1000000) (hw:wT x.term<=1000)
   (k:∀ w4 F4,Chg (g :: F) w w4->CoF W g bs c0 c1 c2 ve G L P (I++[⟨2,0,x.term,0⟩]) F4 w4->(∀ c∈F4,c∈F\/w.heap.size<=c)->K w4) :
   XR λX=>NIL (.pointer (some ⟨g,0,none⟩))<|RDX tp X (Instr.fieldAt 34 (.pointer (some ⟨g,0,none⟩)) 4) w λx36=>RDX tp X (Instr.loadAt 32 x36) w λx37=>
     RDX tp X (Instr.fieldAt 117 (.pointer (some ⟨g5,0,none⟩)) 2) w λx60=>RDX tp X (Instr.loadAt 67 x60) w λx61=>CALL tp 129 [x61] w λx62 w1=>
     ExtX X w w1/\RDX tp X (Instr.build 69 #[(0,.int .i64 2),(2,x62)]) w1 λx48=>OP tp (Instr.buildSlice 32 1 #[(0,x48)]) w1 λx49 w2=>ExtX X w1 w2 /\
     OP tp (Builtin.append_ #[32,32] 32 [x37,x49].toArray) w2 λx50 w3=>ExtX X w2 w3/\NIL (.pointer (some ⟨g,0,none⟩)) (RDX tp X (Instr.fieldAt 34 (.pointer (some ⟨g,0,none⟩)) 4) w3 λx52=>
     OPU tp (Instr.storeAt 32 x52 x50) w3 λw=>K w):=by
 obtain ⟨_,_,e3,_⟩:=h.lt;obtain ⟨_,hr,_,hO⟩:=zji h;refine XR.mk (λc=>c∈F)<|NIL.mk rfl<|zdy zaH<|zeW zcQ hr e3<|zdy zce<|znD zcD rfl dD (zEa hB) h5 λ_ g1=>?_;refine (zmh _ g1 h.old oo).mono ?_;rintro _ w4 ⟨g0,g2⟩;refine ⟨g0.toX,?_⟩;refine zr4 io g2.toI λ_ g3=>zr2 h hO g0 g3 (lr _) g0.size hI k
end
def zr6 (c:Scp) (n:Nat) (l:List DStmt):Prop:=∀ {W w:wD} {g bs:Nat} {c0 c1 c2 ve:vL} {G L P:List ByteArray} {I:List DIns} {F:List Nat} {v:vL},CoF W g bs c0 c1 c2 ve G L P I F w->Is W v l->(∀ x∈l,StR c n x)->I.length+2*szL l<=1000000 ->
 CALL tp 62 [.pointer (some ⟨g,0,none⟩),v] w λr w'=>Chg (g :: F) w w'/\∃ F',CoF W g bs c0 c1 c2 ve G L P (I++emL G L P l I.length) F' w'/\∀ c∈F',c∈F\/w.heap.size<=c
def AdI (W w:wD) (g bs:Nat) (c0 c1 c2 ve:vL) (G L P:List ByteArray) (I:List DIns) (F:List Nat) (l:List DStmt) (k:Nat) (us:List vL) (w':wD):Prop:=
 us=[.int .i64 (k:Int)]/\∃ I1 F1,k<=l.length/\I++emL G L P l I.length=I1++emL G L P (l.drop k) I1.length/\I1.length+2*szL (l.drop k)<=1000000 /\
   Chg (g :: F) w w'/\CoF W g bs c0 c1 c2 ve G L P I1 F1 w'/\∀ c∈F1,c∈F\/w.heap.size<=c
def zjj {c:Scp} {l:List DStmt} (ih:∀ m l,m+1=n->zr6 c m l) (g9:∀ m,zr6 c m []):zr6 c n l:=by
 intro W w g bs c0 c1 c2 ve G L P I F _ hE h hs gS;have hln:=zan h;obtain ⟨-,_,_,_⟩:=hE.lt;have e1:=hE.lt.1;have e3:=hE.gW;refine co (g:=⟨extL,[],[(1,1809251394333065553493296640760748560207343510400633813116524750123642649824,[10])],[(7,[0,1,2,3,4,5,6,7,8,9,10,12,13,11,14,15,16,17,18,19,20],215040),(9,[0,1,2,3,4,5,6,7,8,9,10,11,12,13],1664),(12,[0,1,2,3,4,5,6,7,8,9,10,11,12],0),(14,[0,1,2,3,4,5,6,7,8,9,10,11,12,13],1664),(19,[0,1,2,3,4,5,6,7,8,9,10,11,12],0),(21,[0,1,2,3,4,5,6,7,8,9,10,11,12],0),(22,[0,1,2,3,4,5,6,7,8,9,10,11,12],0),(24,[0,1,2,3,4,5,6,7,8,9,10,11,12,13,14,15,16,17],26624),(26,[0,1,2,3,4,5,6,7,8,9,10,11,12,13,14,15,16,17],26624),(28,[0,1,2,3,4,5,6,7,8,9,10,11,12,13,14,15,16,17],26624),(30,[0,1,2,3,4,5,6,7,8,9,10,11,12,13,14,15,16,17],26624)],[],[7,9,14,24,26,28,30],[]⟩) Tryz.func62 ?_;refine zae u60 h<|zar l.length (AdI W w g bs c0 c1 c2 ve G L P I F l) 0 (z0 _) ⟨rfl,I,F,z0 _,ss,by simpa using gS,Chg.refl _ _,hE,λc hc=>.inl hc⟩ ?_;rintro k m _ w1 _ ⟨hu,L1,F1,_,gL,gz,gT,gM,D⟩;try replace hu:=zbv hu
 rw [hu];have hL:=gT.size;refine zah<|br (λ_=>?_) (λ_=>?_)
 rotate_left
 . have hk:k=l.length:=oo;subst hk;rw [qbk,emL,qaJ] at gL;rw [gL];exact ⟨gT,F1,gM,D⟩
 have hk:k<l.length:=oo;obtain ⟨x,hx⟩:∃ x,x=l[k]:=⟨_,rfl⟩;have gx:StR c n x:=by rw [hx];exact hs _ (qac hk)
 have hl:l.drop k=x :: l.drop (k+1):=by rw [hx];exact qax hk
 rw [hl,emL] at gL;rw [hl,szL] at gz;have hel:=zrR G L P x L1.length;have hM:=zoU x
 have C:∀ w' F2,Chg (g :: F) w w'->CoF W g bs c0 c1 c2 ve G L P (L1++emS G L P x L1.length) F2 w'->(∀ c∈F2,c∈F\/w.heap.size<=c) ->
     ∃ m',m'<m/\∃ k',k'+m'=l.length/\AdI W w g bs c0 c1 c2 ve G L P I F l k' [.int .i64 ((k+1:Nat):Int)] w':=λw' F2 hc hE hF=>
   ⟨m-1,oo,k+1,oo,rfl,_,F2,oo,by rw [gL,qab,qaA],by rw [qab];omega,hc,hE,hF⟩
 obtain ⟨_,f2,f4,_⟩:=gM.lt;have hn:=gM.old;refine zac u60 zda h hk λ_ _ gA=>?_;rw [<-hx] at gA;refine zab zda gA hn λ_ hq=>zbN zjy rfl zda rfl hq hn λw2 gU _ hr=>?_;have hs2:=gU.size;have hg5:=hr.lt;have gN:=gM.ext gU;have ht:=zcV hq hr rfl;have hv:Chg (g :: F) w w2:=gT.trans (gU.chg _);have U:w1.heap.size∉F1:=λhm=>by have:=f2 _ hm;omega
 have V:(x.kind=1\/x.kind=2\/x.kind=3)->TmR c.gl x.term:=λ_=>by
   have h0:St0 c x->TmR c.gl x.term:=λq=>by
     rcases q with q | q | q | q
     . exact q.2.2.1
     . have:=q.1;omega
     . have:=q.1;omega
     have:=q.1;omega
   cases n with
   | zero=>exact h0 gx.zero
   | succ n=>
     rcases gx.succ with q | ⟨_,_,h3,_⟩
     . exact h0 q
     exact h3
 have gV:∃ q,(∀ y∈x.body,StR c q y)/\(∀ y∈x.els,StR c q y)/\zr6 c q x.body/\zr6 c q x.els:=by
   have h0:St0 c x->x.body=[]/\x.els=[]:=λh=>by rcases h with q | q | q | q<;>exact ⟨q.2.2.2.1,q.2.2.2.2⟩
   cases n with
   | zero=>
     obtain ⟨h1,h2⟩:=h0 gx.zero;rw [h1,h2];exact ⟨0,ss,ss,g9 0,g9 0⟩
   | succ n=>
     rcases gx.succ with q | ⟨_,_,_,h4,h5⟩
     . obtain ⟨h1,h2⟩:=h0 q;rw [h1,h2];exact ⟨0,ss,ss,g9 0,g9 0⟩
     exact ⟨n,h4,h5,ih n _ rfl,ih n _ rfl⟩
 obtain ⟨q,hw,hN,hy,hO⟩:=gV;have gX:=ht.at gN.old;refine NIL.mk rfl<|zaa zaH ?_;obtain ⟨_,hz,hi2,hP⟩:=zji gN;refine zdH zcQ hz<|zae u32 hi2<|zaa zdl<|zad ty3 (zb2 gX) (xrf _) λ_=>?_;have gY:=zai w2;have hs3:(World.drew1 w2).heap.size=w2.heap.size:=rfl;have g1:=gN.ext gY;have g2:=ht.ext gY;have gi:=hv.trans (gY.chg (g :: F));refine zag<|br (λk1=>?_) (λk1=>?_)
 . obtain ⟨_,hQ,_,hR⟩:=zji g1;obtain ⟨hS,gB⟩:=zxG (j:=0) g1 (.inl ⟨rfl,rfl,rfl⟩);refine XR.mk (λc=>c∈F1)<|NIL.mk rfl<|zdy zaH<|zeW zcQ hQ f4<|NIL.mk rfl<|zdy zez<|zeW zb9 hS f4<|zdy zbo<|zeW ty9 (zD9 g2) U<|zdy zce<|znD zcD rfl dD (zEa g2) U λ_ hT=>?_;refine (zh8 gB (xrf _)).mono ?_;rintro _ w4 ⟨gO,rfl⟩;refine ⟨gO.toX,?_⟩;have gb:=(V (.inl k1)).2.2;refine (zmh _ hT (g1.old.trans gO) oo).mono ?_;rintro _ w5 ⟨gZ,h6⟩;have h6:=h6.toI;have hs4:=gO.size;have hA:=gZ.size;refine ⟨gZ.toX,?_⟩;have hpl:=ziU (s:=x.name) (l:=G);have hU:=zan gB;refine zqx io io h6 λ_ hV=>zr2 g1 hR (gO.t gZ) hV oo oo oo λw6 F6 g3 M gg=>zaw<|C w6 F6 (zbl gi g3 D) ?_ λc hc=>(gg c hc).elim (D c) λh=>.inr oo;rw [zdb,qah k1];exact M
 have hC:=zgL G L P x.body (L1.length+1);have hD:L1++[(⟨2,0,x.term,0⟩:DIns)]++emL G L P x.body (L1++[(⟨2,0,x.term,0⟩:DIns)]).length=L1++(⟨2,0,x.term,0⟩:DIns) :: emL G L P x.body (L1.length+1):=by simp
 refine zag<|br (λk3=>?_) (λk3=>?_)
 . have gb:=(V (.inr (.inr k3))).2.2;refine zxH g1 g2 U oo gb λw5 F5 gj gC gP=>?_;have hA:=gj.size;have Z:∀ c∈F5,c∈F\/w.heap.size<=c:=λc hc=>(gP c hc).elim (D c) λh=>.inr oo;have gn:=zbl gi gj D
   have gc:=g2.keep (gj.block _ oo λhm=>by
     rcases qaa.1 hm with e | hm
     . omega
     exact U hm)
   refine zaa zcf<|zbd zed (zrF gc) gC.old (xrf _) λ_ hW=>?_;refine (hy gC hW hw so).mono ?_;rintro _ w6 ⟨g3,F6,M,gg⟩;have hX:=g3.size;have O:∀ c∈F6,c∈F\/w.heap.size<=c:=λc hc=>(gg c hc).elim (Z c) λh=>.inr oo;have gd:=zbl gn g3 Z;rw [hD] at M;obtain ⟨B,hB⟩:∃ B,B=emL G L P x.body (L1.length+1):=⟨_,rfl⟩;rw [<-hB] at M hC;refine NIL.mk rfl<|zaa zaH ?_;obtain ⟨hY,gQ,hG,h8⟩:=zji M;refine zdH zcQ gQ<|znx (lo:=w6.heap.size) (hi:=w6.heap.size) io io λ_ hZ=>zo7 M hZ (lr _) so h8 λw7 F7 gy gD gR=>?_;have j0:=gy.size;have g4:=zai w7;have e7:L1++(⟨2,0,x.term,0⟩:DIns) :: B++[⟨3,0,term0,(L1.length:Int)⟩]=L1++(⟨2,0,x.term,0⟩:DIns) :: (B++[⟨3,0,term0,(L1.length:Int)⟩]):=by simp
   rw [e7] at gD;have g0:∀ c∈F7,c∈F\/w.heap.size<=c:=λc hc=>(gR c hc).elim (O c) λh=>.inr oo;have gp:=zbl gd gy O;refine zkW (gD.ext g4) rfl so λw9 F9 gq g5 gE=>zaw<|C w9 F9 (zbl (gp.trans (g4.chg _)) gq g0) ?_ λc hc=>g0 c (gE c hc);rw [zdb,qad k1,qad oo,qad oo,qad oo,qad oo,qad oo,qah k3,<-hB]
   have:((L1++(⟨2,0,x.term,0⟩:DIns) :: (B++[⟨3,0,term0,(L1.length:Int)⟩])).length:Int)=((L1.length+1+B.length+1:Nat):Int):=by
     simp only [qab,qam,qaI];omega
   rw [this] at g5;exact g5
 refine zag<|br (λk2=>?_) (λk2=>?_)
 . have gb:=(V (.inr (.inl k2))).2.2;refine zxH g1 g2 U oo gb λw5 F5 gj gC gP=>?_;have hA:=gj.size;have Z:∀ c∈F5,c∈F\/w.heap.size<=c:=λc hc=>(gP c hc).elim (D c) λh=>.inr oo;have gn:=zbl gi gj D;have gF:w1.heap.size∉F5:=λhm=>(gP _ hm).elim U λh=>oo
   have gc:=g2.keep (gj.block _ oo λhm=>by
     rcases qaa.1 hm with e | hm
     . omega
     exact U hm)
   refine zaa zcf<|zbd zed (zrF gc) gC.old (xrf _) λ_ h9=>?_;refine (hy gC h9 hw so).mono ?_;rintro _ w6 ⟨g3,F6,M,gg⟩;have hX:=g3.size;have O:∀ c∈F6,c∈F\/w.heap.size<=c:=λc hc=>(gg c hc).elim (Z c) λh=>.inr oo;have gd:=zbl gn g3 Z;have gG:w1.heap.size∉F6:=λhm=>(gg _ hm).elim gF λh=>oo
   have hH:=gc.keep (g3.block _ oo λhm=>by
     rcases qaa.1 hm with e | hm
     . omega
     exact gF hm)
   rw [hD] at M;obtain ⟨B,hB⟩:∃ B,B=emL G L P x.body (L1.length+1):=⟨_,rfl⟩;rw [<-hB] at M hC;refine zaa zca<|zbd zed (zrG hH) M.old (xrf _) λ_ ha=>zae u60 ha<|zbZ<|br (λke=>?_) (λke=>?_)
   . obtain ⟨hY,gQ,hG,h8⟩:=zji M;refine NIL.mk rfl<|zaa zaH<|zdH zcQ gQ<|zae u32 hG<|NIL.mk rfl<|zaa zaH<|zdH zcQ gQ<|zgg (lo:=w6.heap.size) (hi:=w6.heap.size) io λ_ hb=>zo7 M hb (lr _) so h8 λw7 F7 gy gD gR=>?_;have j0:=gy.size;have g4:=zai w7;have hs8:=g4.size;have e7:L1++(⟨2,0,x.term,0⟩:DIns) :: B++[⟨3,0,term0,0⟩]=L1++(⟨2,0,x.term,0⟩:DIns) :: (B++[⟨3,0,term0,0⟩]):=by simp
     rw [e7] at gD;have g0:∀ c∈F7,c∈F\/w.heap.size<=c:=λc hc=>(gR c hc).elim (O c) λh=>.inr oo;have gp:=zbl gd gy O;have hd:w1.heap.size∉F7:=λhm=>(gR _ hm).elim gG λh=>oo
     have j1:=hH.keep (gy.block _ oo λhm=>by
       rcases qaa.1 hm with e | hm
       . omega
       exact gG hm)
     refine zkW (gD.ext g4) rfl so λw9 F9 gq g5 gE=>?_;have hs9:=gq.size
     have j2:=(j1.ext g4).keep (gq.block _ oo λhm=>by
       rcases qaa.1 hm with e | hm
       . omega
       exact hd hm)
     refine zaa zca<|zbd zed (zrG j2) g5.old (xrf _) λ_ he=>?_;obtain ⟨y0,hI⟩:∃ y0:DIns,y0=⟨2,0,x.term,((L1++(⟨2,0,x.term,0⟩:DIns) :: (B++[⟨3,0,term0,0⟩])).length:Int)⟩:=⟨_,rfl⟩;have g5:CoF W g bs c0 c1 c2 ve G L P (L1++y0 :: (B++[⟨3,0,term0,0⟩])) F9 w9:=by rw [hI];exact g5
     refine (hO g5 he hN so).mono ?_;rintro _ j3 ⟨hf,j4,gf,hg⟩;have gH:∀ c∈F9,c∈F\/w.heap.size<=c:=λc hc=>g0 c (gE c hc);have gh:∀ c∈j4,c∈F\/w.heap.size<=c:=λc hc=>(hg c hc).elim (gH c) λh=>.inr oo;have gI:=zbl (zbl (gp.trans (g4.chg _)) gq g0) hf gH;have gJ:=zai j3;have hJ:=zgL G L P x.els (L1++y0 :: (B++[⟨3,0,term0,0⟩])).length;have j5:(L1++y0 :: (B++[(⟨3,0,term0,0⟩:DIns)])).length=L1.length+1+B.length+1:=by simp only [qab,qam,qaI];omega
     rw [j5] at gf hJ;obtain ⟨E,hK⟩:∃ E,E=emL G L P x.els (L1.length+1+B.length+1):=⟨_,rfl⟩;rw [<-hK] at gf hJ;have j6:L1++y0 :: (B++[(⟨3,0,term0,0⟩:DIns)])++E=(L1++y0 :: B)++(⟨3,0,term0,0⟩:DIns) :: E:=by simp
     rw [j6] at gf;refine zkW (gf.ext gJ) ss (by simp only [qab,qam];omega) λj7 j8 hh gK hj=>zaw<|C j7 j8 (zbl (gI.trans (gJ.chg _)) hh gh) ?_ λc hc=>gh c (hj c hc);rw [zdb,qad k1,qad oo,qad oo,qad oo,qad oo,qad oo,qad k3,qah k2,qad oo,<-hB,<-hK]
     have q1:y0=⟨2,0,x.term,((L1.length+1+B.length+1:Nat):Int)⟩:=by
       rw [hI];congr 1;simp only [qab,qam,qaI];omega
     have q2:(((L1++y0 :: B)++(⟨3,0,term0,0⟩:DIns) :: E).length:Int)=((L1.length+1+B.length+1+E.length:Nat):Int):=by
       simp only [qab,qam,qaI];omega
     rw [q2,q1] at gK;simpa using gK
   have g4:=zai w6;refine zkW (M.ext g4) rfl so λw9 F9 gq g5 gE=>zaw<|C w9 F9 (zbl (gd.trans (g4.chg _)) gq O) ?_ λc hc=>O c (gE c hc);rw [zdb,qad k1,qad oo,qad oo,qad oo,qad oo,qad oo,qad k3,qah k2,qah oo,<-hB]
   have:((L1++(⟨2,0,x.term,0⟩:DIns) :: B).length:Int)=((L1.length+1+B.length:Nat):Int):=by
     simp only [qab,qam,qaI];omega
   rw [this] at g5;exact g5
 refine zag<|br (λk4=>?_) (λk4=>?_)
 . refine zkX (j:=2) g1 zby (.inr (.inr ⟨rfl,rfl,rfl⟩)) io g2 U oo λw4 F4 gr gs gt=>?_;refine zaw<|C w4 F4 (zbl gi gr D) ?_ λc hc=>(gt c hc).elim (D c) λh=>.inr oo;rw [zdb,qad k1,qah k4];exact gs
 refine zag<|br (λk5=>?_) (λk5=>?_)
 . refine zkX (j:=2) g1 zby (.inr (.inr ⟨rfl,rfl,rfl⟩)) io g2 U oo λw4 F4 gr gs gt=>?_;refine zaw<|C w4 F4 (zbl gi gr D) ?_ λc hc=>(gt c hc).elim (D c) λh=>.inr oo;rw [zdb,qad k1,qad k4,qah k5];exact gs
 refine zag<|br (λk6=>?_) (λk6=>?_)
 . refine zkX (j:=1) g1 zdM (.inr (.inl ⟨rfl,rfl,rfl⟩)) io g2 U oo λw4 F4 gr gs gt=>?_;refine zaw<|C w4 F4 (zbl gi gr D) ?_ λc hc=>(gt c hc).elim (D c) λh=>.inr oo;rw [zdb,qad k1,qad k4,qad k5,qah k6];exact gs
 refine zag<|br (λk7=>?_) (λk7=>?_)
 . refine zkX (j:=1) g1 zdM (.inr (.inl ⟨rfl,rfl,rfl⟩)) io g2 U oo λw4 F4 gr gs gt=>?_;refine zaw<|C w4 F4 (zbl gi gr D) ?_ λc hc=>(gt c hc).elim (D c) λh=>.inr oo;rw [zdb,qad k1,qad k4,qad k5,qad k6,qah k7];exact gs
 have k8:x.kind=8:=by
   have h0:St0 c x->x.kind=8:=λq=>by rcases q with q | q | q | q<;>(have:=q.1;omega)
   cases n with
   | zero=>exact h0 gx.zero
   | succ n=>
     rcases gx.succ with q | ⟨q,_⟩
     . exact h0 q
     omega
 refine NIL.mk rfl<|zaa zaH<|zdH zcQ hz<|zgg (lo:=w2.heap.size) (hi:=w2.heap.size) io λ_ j9=>zo7 gN j9 (lr _) oo hP λw6 F6 g3 M gg=>zaw<|C w6 F6 (zbl hv g3 D) ?_ λc hc=>(gg c hc).elim (D c) λh=>.inr oo;rw [zdb,qad k1,qad k4,qad k5,qad k6,qad k7,qah k8];exact M
def zks (c:Scp) (n:Nat):zr6 c n []:=by
 intro _ w g _ _ _ _ _ _ _ _ _ F _ hE h _ _;refine co (g:=⟨extL,[],[(1,1809251394333065553493296640760748560207343510400633813116524750123642649824,[10])],[(7,[0,1,2,3,4,5,6,7,8,9,10,12,13,11,14,15,16,17,18,19,20],215040),(9,[0,1,2,3,4,5,6,7,8,9,10,11,12,13],1664),(12,[0,1,2,3,4,5,6,7,8,9,10,11,12],0),(14,[0,1,2,3,4,5,6,7,8,9,10,11,12,13],1664),(19,[0,1,2,3,4,5,6,7,8,9,10,11,12],0),(21,[0,1,2,3,4,5,6,7,8,9,10,11,12],0),(22,[0,1,2,3,4,5,6,7,8,9,10,11,12],0),(24,[0,1,2,3,4,5,6,7,8,9,10,11,12,13,14,15,16,17],26624),(26,[0,1,2,3,4,5,6,7,8,9,10,11,12,13,14,15,16,17],26624),(28,[0,1,2,3,4,5,6,7,8,9,10,11,12,13,14,15,16,17],26624),(30,[0,1,2,3,4,5,6,7,8,9,10,11,12,13,14,15,16,17],26624)],[],[7,9,14,24,26,28,30],[]⟩) Tryz.func62 ?_;refine zae u60 h<|zar 0 (λk us w'=>us=[.int .i64 (k:Int)]/\w'=w) 0 (z0 _) ⟨rfl,rfl⟩ ?_;rintro k _ _ _ _ ⟨hu,rfl⟩;try replace hu:=zbv hu
 rw [hu];refine zah<|br (λg0=>by simp at g0;omega) (λ_=>?_);exact ⟨Chg.refl _ _,F,by rw [emL,qaJ];exact hE,λc hc=>.inl hc⟩
theorem zmi (c:Scp):∀ (n:Nat) (l:List DStmt),zr6 c n l
 | 0,l=>zjj (n:=0) (l:=l) (λm l h=>absurd h oo) (zks c)
 | n + 1, l => zjj (n := n + 1) (l := l) (λm l h => by
     obtain rfl:m=n:=oo;exact zmi c m l) (zks c)
theorem zmj:∀ (n:Nat) (l:List DStmt),zEQ n l
 | 0,l=>zjh (n:=0) (l:=l) (λm l h=>absurd h oo)
 | n + 1, l => zjh (n := n + 1) (l := l) λm l h => by
     obtain rfl:m=n:=oo;exact zmj m l
def zhs {p:DProg} (h:Is W v p) (e:Ext W w) (hn:p.procs.length<=1000):CALL tp 61 [v] w λr w'=>Ext w w'/\Own w.heap.size w' r (p.procs.map DProc.name):=by
 refine co (g:=kf [] [(3,523816,[3,9])] []) Tryz.func61 ?_;refine zbk h e λw1 g3 hA=>?_;have:=g3.size;refine zaa zde<|zab zkD (zbJ hA) (xrf _) λ_ h7=>zae u27 h7 ?_
 refine zar p.procs.length (λk us w'=>∃ v hi,us=[v,.int .i64 (k:Int)]/\k<=p.procs.length/\Ext w1 w'/\RowI w1.heap.size hi 9 w' v ((p.procs.take k).map DProc.name)/\hi<=w'.heap.size/\w1.heap.size<=hi) 0 (z0 _)
   ⟨_,w1.heap.size,rfl,z0 _,xrf _,zbL _ _ _ _,lr _,qaE _⟩ ?_
 rintro k m _ _ _ ⟨_,hi,hu,_,g0,r3,_,_⟩;obtain ⟨g5,g9⟩:=zcv hu;rw [g5,g9];refine zah<|br (λ_=>?_) (λ_=>?_)
 . have hk:k<p.procs.length:=oo;refine zac u27 ziL h7 hk λ_ _ g1=>zab ziL g1 g0 λ_ gb=>zbN zEt rfl ziL rfl gb g0 λw4 g2 gc _=>?_;have:=g2.size;refine zaa znc<|zaq ty9 (ze5 gc) (xrf _) λhS=>zbs (α:=ByteArray) (lo2:=w4.heap.size) (hi2:=w4.heap.size) u26 ty9 z9 zc9 dD (r3.ext g2) oo (zgC hS) oo oo (by rw [zak,qaD,qao];omega) (by rw [qaD,qao];omega) λgd w5 g4 r5=>?_;have:=g4.size;refine zaw<|⟨m-1,oo,k+1,oo,gd,w5.heap.size,rfl,oo,Ext.chgI (g0.t g2) g4 oo,?_,lr _,oo⟩;rw [tk hk,qbh];exact r5
 refine ⟨g3.t g0,?_⟩;rw [qai oo] at r3;exact r3.own.own.mono oo
def OutG (g:Nat) (w:wD) (F:List Nat) (o:List ByteArray):Prop:=∃ v,Blk g 26 w [v]/\RowF F 9 w v o/\F.Nodup/\g∉F
structure UnkG (g:Nat) (F:List Nat) (w:wD) (o:List ByteArray) (ok:Prop) (b:Nat) (F':List Nat) (o':List ByteArray) (w':wD):Prop where
 chg:Chg (g :: F) w w'
 out:OutG g w' F' o'
 sub:∀ c∈F',c∈F\/w.heap.size<=c
 iff_:o'=[]↔o=[]/\ok
 len:o'.length<=o.length+b
section
variable {g:Nat} {F F1 F2:List Nat} {w w1 w2:wD} {o o1 o2:List ByteArray} {ok ok':Prop} {b b':Nat}
def OutG.lt (h:OutG g w F o):g<w.heap.size/\∀ c∈F,c<w.heap.size:=by
 obtain ⟨_,hB,hr,_,_⟩:=h;exact ⟨hB.lt,RowG.lt (.inr hr)⟩
def OutG.ext (h:OutG g w F o) (hx:Ext w w1):OutG g w1 F o:=by
 obtain ⟨v,hB,hr,hn,hg⟩:=h;exact ⟨v,hB.ext hx,hr.ext hx,hn,hg⟩
def UnkG.refl (h:OutG g w F o):UnkG g F w o True 0 F o w:=⟨Chg.refl _ _,h,λc hc=>.inl hc,ss,qaE _⟩
def UnkG.trans (h:UnkG g F w o ok b F1 o1 w1) (k:UnkG g F1 w1 o1 ok' b' F2 o2 w2):UnkG g F w o (ok/\ok') (b+b') F2 o2 w2:=
 ⟨⟨k.chg.os.trans h.chg.os,k.chg.tape.trans h.chg.tape,k.chg.output.trans h.chg.output,qal h.chg.size k.chg.size,λc hc hn=>(k.chg.block c (qan hc h.chg.size) λhm=>by
   simp only [qaa,not_or] at hn hm;rcases hm with e | hm
   . exact hn.1 e
   . rcases h.sub c hm with h | h
     . exact hn.2 h
     omega).trans (h.chg.block c hc hn)⟩,
   k.out,λc hc=>(k.sub c hc).elim (h.sub c) λhh=>.inr (qal h.chg.size hh),by rw [k.iff_,h.iff_,and_assoc],by have:=h.len;have:=k.len;omega⟩
def UnkG.ext (h:UnkG g F w o ok b F1 o1 w1) (hx:Ext w1 w2):UnkG g F w o ok b F1 o1 w2:=⟨h.chg.trans (hx.chg _),h.out.ext hx,h.sub,h.iff_,h.len⟩
def UnkG.extL (hx:Ext w w1) (h:UnkG g F w1 o1 ok b F2 o2 w2):UnkG g F w o1 ok b F2 o2 w2:=⟨(hx.chg _).trans h.chg,h.out,λc hc=>(h.sub c hc).imp id λhh=>qal hx.size hh,h.iff_,h.len⟩
def UnkG.more (h:UnkG g F w o ok b F1 o1 w1) (hb:b<=b') (hk:ok↔ok'):UnkG g F w o ok' b' F1 o1 w1:=⟨h.chg,h.out,h.sub,by rw [h.iff_,hk],by have:=h.len;omega⟩
def UnkG.keep (h:UnkG g F w o ok b F1 o1 w1) {c:Nat} (hc:c<w.heap.size) (hg:c≠g) (hn:c∉F):w1.heap[c]?=w.heap[c]?:=h.chg.block c hc (by simp only [qaa,not_or];exact ⟨hg,hn⟩)
def UnkG.old {W:wD} (h:UnkG g F w o ok b F1 o1 w1) (e:Ext W w) (hg:W.heap.size<=g) (hF:∀ c∈F,W.heap.size<=c):Ext W w1:=e.chg_trans h.chg λc hc=>by
 rcases qaa.1 hc with rfl | hc
 . exact hg
 exact hF c hc
def UnkG.low {n:Nat} (h:UnkG g F w o ok b F1 o1 w1) (hF:∀ c∈F,n<=c) (hw:n<=w.heap.size):∀ c∈F1,n<=c:=λc hc=>(h.sub c hc).elim (hF c) λhh=>qal hw hh
end
def zxI {l o:List ByteArray} (h:Is W vl l) (e:Ext W w) (hO:OutG g w F o) (hs:s.size<=maxLen) (ho:o.length<=1000000) :
   CALL tp 133 [vl,.string s,.pointer (some ⟨g,0,none⟩)] w λr w'=>r=.tuple #[]/\∃ F' o',UnkG g F w o (s∈l) 1 F' o' w':=by
 refine co (g:=kf [] [] []) Tryz.func133 ?_;refine (zcb h e).mono ?_;rintro _ _ ⟨g0,rfl⟩;refine za0 ?_;have hR:=(UnkG.refl hO).ext g0;refine br (λhm=>?_) (λhm=>⟨rfl,F,o,hR.more oo (by simp only [qaf] at hm;simp [hm])⟩);obtain ⟨_,hB,hr,hn,hg⟩:=hO.ext g0;refine zaj zb9 hB rfl ?_;refine (zno hr hn hs ho).mono ?_;rintro v2 _ ⟨g3,F2,g1,gb,g4⟩;have gc:=hB.chg g3 hg;have hg1:=hB.lt;have g5:g∉F2:=λhm=>(g4 g hm).elim hg λh=>oo;refine zaW (α:=Raw) (lo:=0) (hi:=0) zb9 rfl rfl gc ss (zcY (RowG.one (.inr g1))) λ_ g9 gd=>?_;have g2:=RowG.lt (.inr g1);refine ⟨rfl,F2,zui o s,(hR.chg.trans (g3.mono sd)).trans (g9.toC.mono ss),⟨v2,gd,?_,gb,g5⟩,λc hc=>(g4 c hc).imp id λh=>qal g0.size h,?_,zsZ o s⟩
 . exact g1.keep λc hc=>g9.block c (g2 c hc) (by have:c≠g:=λe=>g5 (e▸hc);omega)
 have:zui o s≠[]:=by
   unfold zui;split
   . rename_i hm2;intro h0;rw [h0] at hm2;cases hm2
   simp
 exact ⟨λh=>absurd h this,λh=>absurd h.2 hm⟩
def zBm:zcq tp 26=some [.slice none 0 0]:=by kernel_rfl
def zEb:zeO tp 133=true:=by kernel_rfl
def zER:zeO tp 136=true:=by kernel_rfl
def zxJ:tyI tp 179=some (1,8,false):=by kernel_rfl
def zES:zcq tp 179=some [.nilFunc]:=by kernel_rfl
structure Kp (w5:wD) (g:Nat) (F:List Nat) (w:wD):Prop where
 size:w5.heap.size<=w.heap.size
 keep:∀ c,c<w5.heap.size->c≠g->w.heap[c]?=w5.heap[c]?
 low:∀ c∈F,w5.heap.size<=c
def Kp.ext (h:Kp w5 g F w) (hx:Ext w w'):Kp w5 g F w':=⟨qal h.size hx.size,λc hc hg=>(hx.heap (qan hc h.size)).trans (h.keep c hc hg),h.low⟩
def Kp.unk {o o':List ByteArray} {ok:Prop} (h:Kp w5 g F w) (k:UnkG g F w o ok b F' o' w'):Kp w5 g F' w':=
 ⟨qal h.size k.chg.size,λc hc hg=>(k.keep (qan hc h.size) hg λhm=>by have:=h.low c hm;omega).trans (h.keep c hc hg),k.low h.low h.size⟩
def Kp.blk {g e a:Nat} (h:Kp w5 g F w) (hB:Blk a e w5 cs) (ha:a≠g):Blk a e w cs:=hB.keep (h.keep a hB.lt ha)
structure UnkE (p:DProg) (w5:wD) (g gp gn gl:Nat):Prop where
 prg:AtB w5 w5 gp 0 p
 names:∃ vn FN,Blk gn 26 w5 [vn]/\Mine FN w5 vn (p.procs.map DProc.name)/\g∉FN
 look:Blk gl 179 w5 [.func (.func 133) #[] #[.pointer (some ⟨g,0,none⟩)]]
 ne:gp≠g/\gn≠g/\gl≠g
 lt:g<w5.heap.size
 hp:∃ Fp cs,rep Fp w5 cs p/\w5.rangeAt gp 0 cs/\g∉Fp
def UnkE.p {p:DProg} (h:UnkE p w5 g gp gn gl) (k:Kp w5 g F w):At w gp 0 p:=by
 obtain ⟨Fp,cs,hr,hc,hg⟩:=h.hp;have g0:=Rep.lt hr;refine ⟨Fp,cs,Rep.keep hr λc hm=>k.keep c (g0 c hm) (λe=>hg (e▸hm)),zbx hc (k.keep gp ?_ h.ne.1)⟩;exact zea hc (by rw [Rep.len hr];decide)
def zEc {x:DStmt} {p:DProg} {o:List ByteArray} (h:Is W v x) (e:Ext W w) (hW:W.heap.size<=g) (hE:UnkE p w5 g gp gn gl) (hK:Kp w5 g F w) (hO:OutG g w F o) (hx:SH n x) (ho:o.length<=900000) :
   CALL tp 136 [v,.pointer (some ⟨gl,0,none⟩),.pointer (some ⟨gp,0,none⟩),.pointer (some ⟨gn,0,none⟩)] w λr w'=>r=.bool true/\∃ F' o',UnkG g F w o (KnS (scP p) x/\RdK (scP p) x) 65 F' o' w':=by
 refine co (g:=kf [(10,34359738112,[])] [(11,562400197607552,[39])] []) Tryz.func136 ?_;obtain ⟨gr,g3⟩:=hO.lt;refine za2 zda rfl h e λw1 U hA hV=>?_;have hs1:=U.size;have gs:=hV.lt;have gt:=zcV h hV rfl;have g0:w.heap.size≠g/\w.heap.size∉F:=⟨oo,λhm=>by have:=g3 _ hm;omega⟩;have e1:=e.trans U;have g2:UnkG g F w1 o True 0 F o w1:=UnkG.refl (hO.ext U);have D:=hK.ext U;have gx:∀ c∈F,W.heap.size<=c:=λc hc=>by have:=hK.low c hc;have:=hE.lt;omega
 have C:∀ {w2 W2:wD} {vl:vL} {l:List ByteArray} {s:ByteArray} {ok:Prop} {b:Nat} {F2:List Nat} {o2:List ByteArray} {K:VW},UnkG g F w1 o ok b F2 o2 w2->b<=65->Is W2 vl l->Ext W2 w2->s.size<=maxLen ->
     (∀ r w3 F3 o3,UnkG g F w1 o (ok/\s∈l) (b+1) F3 o3 w3->K r w3)->OPN tp (zpv (.func (.func 133) #[] #[.pointer (some ⟨g,0,none⟩)]) [vl,.string s]) w2 K:=by
   intro w2 W2 vl l s ok b F2 o2 K hU _ hl hx gy hk;refine zmg (args:=[vl,.string s]) (caps:=[.pointer (some ⟨g,0,none⟩)]) zEb ((zxI hl hx hU.out gy (by have:=hU.len;omega)).mono ?_);rintro r w3 ⟨-,F3,o3,h3⟩;exact hk r w3 F3 o3 (hU.trans h3)
 refine JOIN.mk (λus w'=>∃ F2 o2,UnkG g F w1 o (KnS (scP p) x) 1 F2 o2 w') ?_ ?_
 . have hP:=hE.p D;refine zaa zdl<|zad ty3 (zb2 hA) (xrf _) λ_=>zag<|br (λk1=>?_) (λk1=>?_)
   . refine zaj zxJ (D.blk hE.look hE.ne.2.2) rfl ?_;refine zaa zgX<|zab zb9 (zc5 hP) (xrf _) λv14 g4=>zaa zbo<|zaq ty9 (zaT hA) (xrf _) λhS=>C g2 oo g4 (xrf _) hS λr w3 F3 o3 h3=>⟨F3,o3,h3.more oo ⟨λq=>⟨λ_=>q.2,λ_=>oo,λ_=>oo⟩,λq=>⟨trivial,q.k1 k1⟩⟩⟩
   refine zag<|zuk (Q:=x.kind=6\/x.kind=7) .inl (λhQ=>?_) (λgz _=>?_)
   . refine zaj zxJ (D.blk hE.look hE.ne.2.2) rfl ?_;refine zaa zhd<|zab zb9 (zdN hP) (xrf _) λv14 g4=>zaa zbo<|zaq ty9 (zaT hA) (xrf _) λhS=>C g2 oo g4 (xrf _) hS λr w3 F3 o3 h3=>⟨F3,o3,h3.more oo ⟨λq=>⟨λ_=>oo,λ_=>q.2,λ_=>oo⟩,λq=>⟨trivial,q.k6 hQ⟩⟩⟩
   refine zag<|br (λh7=>gz (.inr h7)) (λh7=>?_);refine zag<|zuk (Q:=x.kind=4\/x.kind=5) .inl (λhQ=>?_) (λg5 _=>?_)
   . refine zaj zxJ (D.blk hE.look hE.ne.2.2) rfl ?_;obtain ⟨_,_,gA,gc,gB⟩:=hE.names;refine zaj zb9 (D.blk gA hE.ne.2.1) rfl<|zaa zbo<|zaq ty9 (zaT hA) (xrf _) λhS=>C g2 oo (gc.keep λc hc=>D.keep c (gc.lt c hc) λe=>gB (e▸hc)).is (xrf _) hS λr w3 F3 o3 h3=>⟨F3,o3,h3.more oo ⟨λq=>⟨λ_=>oo,λ_=>oo,λ_=>q.2⟩,λq=>⟨trivial,q.k4 hQ⟩⟩⟩
   refine zag<|br (λh5=>g5 (.inr h5)) λh5=>⟨F,o,g2.more oo ⟨λq=>⟨λ_=>oo,λ_=>oo,λ_=>oo⟩,λq=>trivial⟩⟩
 rintro _ w2 ⟨F2,o2,M⟩;have gC:=D.unk M;have e2:=M.old e1 hW gx;have gD:=(gt.keep (M.keep gs g0.1 g0.2)).at e2;refine zaa zce<|zab zcD (zbz gD) (xrf _) λ_ gE=>?_;refine (zhg gE (xrf _)).mono ?_;rintro gF w3 ⟨gd,_,M37,gf⟩;have hln:=zlH x.term;have gg:=M.len;have g1:=M.out.lt;refine zae u26 M37.is ?_;have gh:=M.ext gd;have gG:=gC.ext gd;have gH:UnkG g F2 w3 o2 True 0 F2 o2 w3:=UnkG.refl gh.out;refine zar (zbf x.term).length (λk us w'=>us=[.int .i64 (k:Int)]/\k<=(zbf x.term).length/\∃ F3 o3,UnkG g F2 w3 o2 (∀ s∈(zbf x.term).take k,s∈p.globals) k F3 o3 w') 0 (z0 _) ⟨rfl,z0 _,F2,o2,gH.more oo ss⟩ ?_;rintro k m _ w4 _ ⟨hu,_,F4,o4,O⟩;try replace hu:=zbv hu
 rw [hu];refine zah<|br (λgr=>?_) (λ_=>⟨rfl,F4,o4,?_⟩)
 rotate_left
 . have:=(UnkG.extL U gh).trans O;rw [qai oo] at this;exact this.more oo Iff.rfl
 have gi:k<(zbf x.term).length:=oo;have gj:=gG.unk O;have gq:=O.len;have g9:Is w4 gF (zbf x.term):=(M37.keep λc hc=>O.keep (M37.lt c hc) (by have:=gf c hc;omega) λhm=>by have:=gf c hc;have:=g1.2 c hm;omega).is;refine zac u26 ty9 g9 gi λ_ _ gb=>zaq ty9 gb (xrf _) λhS=>zaj zxJ (gj.blk hE.look hE.ne.2.2) rfl<|zaa zgX<|zab zb9 (zc5 (hE.p gj)) (xrf _) λgI gJ=>zmg (args:=[gI,.string _]) (caps:=[.pointer (some ⟨g,0,none⟩)]) zEb ((zxI gJ (xrf _) O.out hS oo).mono ?_);rintro r _ ⟨-,F5,o5,gK⟩;refine zaw<|⟨m-1,oo,k+1,oo,rfl,oo,F5,o5,(O.trans gK).more oo ?_⟩;rw [tk gi];simp only [qae,qay];exact ⟨λhh s hs=>hs.elim (hh.1 s) λe=>e▸hh.2,λhh=>⟨λs hs=>hh s (.inl hs),hh _ (.inr rfl)⟩⟩
def zEd (p:DProg) (w5:wD) (g gp gn gl n:Nat) (l:List DStmt):Prop:=∀ {w W:wD} {v:vL} {F:List Nat} {o:List ByteArray},Is W v l->Ext W w->W.heap.size<=g->UnkE p w5 g gp gn gl->Kp w5 g F w->OutG g w F o->(∀ x∈l,SH n x)->o.length+66*szL l<=800000 ->
 CALL tp 135 [v,.func (.func 136) #[] #[.pointer (some ⟨gl,0,none⟩),.pointer (some ⟨gp,0,none⟩),.pointer (some ⟨gn,0,none⟩)]] w λr w'=>r=.bool true/\∃ F' o',UnkG g F w o (∀ x∈l,StR (scP p) n x) (66*szL l) F' o' w'
def zxK {p:DProg}:zEd p w5 g gp gn gl n []:=by
 intro w _ _ F o h _ _ _ _ hO _ _;refine co (g:=kf [] [(2,4294966864,[9])] []) Tryz.func135 ?_;refine zae u60 h<|zar 0 (λk us w'=>us=[.int .i64 (k:Int)]/\w'=w/\k<=0) 0 (z0 _) ⟨rfl,rfl,qbt _⟩ ?_;rintro k _ _ _ _ ⟨g0,rfl,_⟩;try replace g0:=zbv g0
 rw [g0];refine zah<|br (λg1=>by simp at g1;omega) (λ_=>⟨rfl,F,o,(UnkG.refl hO).more oo ss⟩)
def znE {p:DProg} {l:List DStmt} (ih:∀ m l,m+1=n->zEd p w5 g gp gn gl m l):zEd p w5 g gp gn gl n l:=by
 intro w W _ F o h e hW hE hK hO hs _;have:=zan h;refine co (g:=kf [] [(2,4294966864,[9])] []) Tryz.func135 ?_;refine zae u60 h ?_;have gg:∀ c∈F,W.heap.size<=c:=λc hc=>by have:=hK.low c hc;have:=hE.lt;omega
 refine zar l.length (λk us w'=>us=[.int .i64 (k:Int)]/\k<=l.length/\∃ F1 o1 b,UnkG g F w o (∀ x∈l.take k,StR (scP p) n x) b F1 o1 w'/\b+66*szL (l.drop k)<=66*szL l) 0 (z0 _) ⟨rfl,z0 _,F,o,0,(UnkG.refl hO).more (lr _) ss,ss⟩ ?_;rintro k m _ w1 _ ⟨g4,_,F1,o1,b,C,_⟩;try replace g4:=zbv g4
 rw [g4];refine zah<|br (λ_=>?_) (λ_=>⟨rfl,F1,o1,?_⟩)
 rotate_left
 . rw [qai oo] at C;exact C.more oo Iff.rfl
 have hk:k<l.length:=oo;obtain ⟨x,hx⟩:∃ x,x=l[k]:=⟨_,rfl⟩;have g5:SH n x:=by rw [hx];exact hs _ (qac hk)
 obtain ⟨gr,gs,gh,-,-⟩:=g5.kids;have:szL (l.drop k)=szS x+szL (l.drop (k+1)):=by rw [qax hk,szL,hx]
 have:szS x=1+szL x.body+szL x.els:=by cases x;rw [szS];rfl
 have:=C.len
 have gi:∀ y:List DStmt,(0<n\/y=[])->zEd p w5 g gp gn gl (n-1) y:=λy hy=>by
   rcases hy with hy | hy
   . exact ih (n-1) y oo
   rw [hy];exact zxK
 have e1:=C.old e hW gg;have gt:=hK.unk C;obtain ⟨_,gx⟩:=C.out.lt;refine zac u60 zda h hk λ_ _ g0=>?_;rw [<-hx] at g0;refine zab zda g0 e1 λgy g9=>zbN zjy rfl zda rfl g9 e1 λw2 O _ gb=>?_;have:=O.size;have gj:=gb.lt;have gq:=zcV g9 gb rfl;have g3:w1.heap.size≠g/\w1.heap.size∉F1:=⟨oo,λhm=>by have:=gx _ hm;omega⟩;have gz:UnkG g F1 w2 o1 True 0 F1 o1 w2:=UnkG.refl (C.out.ext O);have gc:=gt.ext O;have e2:=e1.trans O;have g1:∀ c∈F1,W.heap.size<=c:=C.low gg e.size;refine zcC gb (xrf _)<|zmg (args:=[gy]) (caps:=[_,_,_]) zER ((zEc g9 e2 hW hE gc gz.out g5 oo).mono ?_);rintro _ _ ⟨rfl,_,_,D⟩;refine zau<|zaN (λhc=>by simp at hc) (λ_=>?_);have e3:=D.old e2 hW g1;have:=D.len;refine zaa zcf<|zbd zed (zrF (gq.keep (D.keep gj g3.1 g3.2))) e3 (xrf _) λ_ gA=>?_;refine (gi x.body (gh.imp id λh=>h.1) gA e3 hW hE (gc.unk D) D.out gr oo).mono ?_;rintro _ _ ⟨rfl,_,_,gd⟩;have M:=D.trans gd;have e4:=M.old e2 hW g1;have:=M.len;refine zau<|zaN (λhc=>by simp at hc) (λ_=>?_);refine zaa zca<|zbd zed (zrG (gq.keep (M.keep gj g3.1 g3.2))) e4 (xrf _) λ_ gB=>?_;refine (gi x.els (gh.imp id λh=>h.2) gB e4 hW hE (gc.unk M) M.out gs oo).mono ?_;rintro _ _ ⟨rfl,F5,o5,gf⟩;have gC:=M.trans gf;refine zau<|zaN (λhc=>by simp at hc) (λ_=>?_);refine zaw<|⟨m-1,oo,k+1,oo,rfl,oo,F5,o5,_,(C.trans (UnkG.extL O gC)).more (lr _) ?_,oo⟩;rw [tk hk];simp only [qae,qay,<-hx];have g2:=zwD (c:=scP p) g5;constructor
 . rintro ⟨q1,⟨⟨q2,q3⟩,q4⟩,q5⟩ y hy;rcases hy with hy | rfl
   . exact q1 y hy
   exact g2.2 ⟨q2,q3,q4,q5⟩
 intro q;obtain ⟨q2,q3,q4,q5⟩:=g2.1 (q x (.inr rfl));exact ⟨λy hy=>q y (.inl hy),⟨⟨q2,q3⟩,q4⟩,q5⟩
theorem ztF {p:DProg} {w5:wD} {g gp gn gl:Nat}:∀ (n:Nat) (l:List DStmt),zEd p w5 g gp gn gl n l
 | 0,l=>znE (n:=0) (l:=l) (λm l h=>absurd h oo)
 | n + 1, l => znE (n := n + 1) (l := l) λm l h => by
     obtain rfl:m=n:=oo;exact ztF m l
def zqy {p:DProg} (h:Is W v p) (e:Ext W w) (hp:ShP p):CALL tp 65 [v] w λr w'=>Ext w w'/\∃ o:List ByteArray,Is w' r o/\(o=[]↔KnP p):=by
 obtain ⟨_,_⟩:=hp.n;refine co (g:=kf [] [(5,8372352,[14])] []) Tryz.func65 ?_;refine za2 zfs rfl h e λw1 g3 hA gb=>?_;have:=g3.size;have:=gb.lt;have gc:=zcV h gb rfl;have e1:=e.trans g3;refine za1 zBm λ_ g1 gd=>?_;have:=g1.size;have:=gd.lt;refine zab zfs hA g1 λ_ h8=>?_;refine (zhs h8 g1 oo).mono ?_;rintro v9 w3 ⟨g4,o9⟩;have:=g4.size;obtain ⟨F9,M9,B9⟩:=o9;have g5:v9.oneCell'=true:=zj3 (lo:=0) (hi:=w3.heap.size) rfl ⟨F9,M9,λb hb=>⟨qbt _,M9.lt b hb⟩⟩;refine zgS zBm zb9 g5 λw4 g2 gf=>?_;have:=g2.size;have:=gf.lt;refine za9 (v:=.func (.func 133) #[] #[.pointer (some ⟨w1.heap.size,0,none⟩)]) (λw' _=>by simp [Instr.makeFunc])<|zgS zES zxJ rfl λw5 M gl=>?_;have:=M.size;have C:=g1.t (g4.t (g2.t M));have e5:=e1.trans C
 have hE:UnkE p w5 w1.heap.size w.heap.size w3.heap.size w4.heap.size:=by
   obtain ⟨Fp,cs,hr,hc⟩:=gc.ext C;have gg:=Rep.lt hr;have:=e.size;exact ⟨⟨Fp,cs,zb7 hr e5,hc⟩,⟨v9,F9,gf.ext M,M9.ext (g2.t M),λhm=>by have:=B9 _ hm;omega⟩,gl,⟨oo,oo,oo⟩,oo,Fp,cs,zb7 hr e5,hc,λhm=>by have:=gg _ hm;omega⟩
 have gn:OutG w1.heap.size w5 [] []:=⟨_,gd.ext (g4.t (g2.t M)),zs2 _ _,qas,ss⟩;have gp:Kp w5 w1.heap.size [] w5:=⟨qaE _,λ_ _ _=>rfl,ss⟩;refine zaa zde ?_;have gq:=(gc.ext C);refine zbd zkD (zDK gq) e5 (xrf _) λ_ gh=>zae u27 gh ?_;have gi:W.heap.size<=w1.heap.size:=by have:=e.size;omega
 refine zar p.procs.length (λk us w'=>us=[.int .i64 (k:Int)]/\k<=p.procs.length/\∃ F6 o6,UnkG w1.heap.size [] w5 [] (∀ x∈p.procs.take k,∀ y∈x.body,StR (scP p) 6 y) (4000*k) F6 o6 w') 0 (z0 _) ⟨rfl,z0 _,[],[],(UnkG.refl gn).more oo ss⟩ ?_;rintro k m _ _ _ ⟨hu,_,F6,o6,D⟩;try replace hu:=zbv hu
 rw [hu];have e6:=D.old e5 gi ss;refine zah<|br (λgg=>?_) (λ_=>?_)
 . have hk:k<p.procs.length:=oo;refine zac u27 ziL gh hk λ_ _ g9=>zab ziL g9 e6 λ_ gj=>zbN zEt rfl ziL rfl gj e6 λ_ O _ gr=>zaa zlc<|zbd zed (zEN (zcV gj gr rfl)) (e6.trans O) (xrf _) λ_ gs=>za9 (v:=.func (.func 136) #[] #[.pointer (some ⟨w4.heap.size,0,none⟩),.pointer (some ⟨w.heap.size,0,none⟩),.pointer (some ⟨w3.heap.size,0,none⟩)]) (λw' _=>by simp [Instr.makeFunc]) ?_;have hb:=hp.b _ (qac hk);have g0:=D.len;refine (ztF 6 _ gs (e6.trans O) gi hE ((gp.unk D).ext O) (D.out.ext O) hb.1 (by simp at g0;have:=hb.2;omega)).mono ?_;rintro _ _ ⟨rfl,F8,o8,gt⟩;refine zaw<|⟨m-1,oo,k+1,oo,rfl,oo,F8,o8,(D.trans (UnkG.extL O gt)).more (by have:=hb.2;omega) ?_⟩;rw [tk hk];simp only [qae,qay];exact ⟨λhh x hx=>hx.elim (hh.1 x) λe=>e▸hh.2,λhh=>⟨λx hx=>hh x (.inl hx),hh _ (.inr rfl)⟩⟩
 obtain ⟨_,gx,gy,-,-⟩:=D.out;refine zaj zb9 gx rfl<|⟨(g3.t C).chg_trans D.chg (λ_ hc=>by simp only [qay] at hc;omega),o6,gy.own.is,?_⟩;rw [D.iff_,qai oo];exact ⟨λh=>h.2,λh=>⟨rfl,h⟩⟩
def zo8 {p:DProg} (h:Is W v p) (e:Ext W w) (hp:ShP p):CALL tp 63 [v] w λr w'=>Ext w w'/\r=.bool true:=by
 obtain ⟨_,f2⟩:=hp.n;refine co (g:=kf [] [(4,1099478073396,[25])] []) Tryz.func63 ?_;refine zbk h e λw1 gb hA=>zaa zgX<|zab zb9 (zc5 hA) (xrf _) λ_ h7=>?_;refine (zfd h7 (xrf _)).mono ?_;rintro _ _ ⟨g2,rfl⟩;refine zau<|zaN (λhc=>by rw [hp.gok] at hc;cases hc) (λ_=>?_);refine zaa zhd<|zab zb9 (zdN hA) g2 λ_ gc=>?_;refine (zfd gc g2).mono ?_;rintro _ _ ⟨gd,rfl⟩;refine zau<|zaN (λhc=>by rw [hp.lok] at hc;cases hc) (λ_=>?_);have C:=g2.t gd;refine zaa zde<|zab zkD (zbJ hA) C λ_ gf=>zae u27 gf<|zbZ<|br (λhc=>oo) (λ_=>?_);refine zaa zde<|zab zkD (zbJ hA) C λ_ g4=>zae u27 g4<|zar p.procs.length (λk us w'=>us=[.int .i64 (k:Int)]/\Ext w1 w'/\k<=p.procs.length) 0 (z0 _) ⟨rfl,C,qbt _⟩ ?_;rintro k m u _ _ ⟨hu,D,_⟩;try replace hu:=zbv hu
 rw [hu];refine zah<|br (λ_=>?_) (λ_=>⟨gb.t D,rfl⟩);have hk:k<p.procs.length:=oo;have g0:p.procs[k]∈p.procs:=qac hk;refine zac u27 ziL g4 hk λ_ _ g3=>zab ziL g3 D λ_ gg=>zbN zEt rfl ziL rfl gg D λ_ g5 g9 _=>?_;have:=D.size;have:=g5.size;refine zgS (u:=.int .i64 60) zlI ty3 rfl λw6 M gh=>?_;have:=M.size;refine zaa znc<|zaq ty9 (ze5 g9) M λ_=>?_;refine (implIsName_ok (w:=w6)).mono ?_;rintro _ _ ⟨g1,rfl⟩;refine zau<|zaN (λhc=>by rw [f2 _ (qa3.2 ⟨_,g0,rfl⟩)] at hc;cases hc) (λ_=>?_);refine zaa zlc<|zab zed (zhC g9) (M.t g1) λ_ gi=>?_;have hb:=hp.b _ g0;refine (zmj 6 _ (r:=60) gi (M.t g1) hb.1 oo oo (gh.ext g1) (lr _) (by have:=hb.2;omega) oo).mono ?_;rintro _ _ ⟨gj,rfl,-⟩;refine zau<|zaN (λhc=>by cases hc) (λ_=>?_);refine zaw<|⟨m-1,oo,k+1,oo,rfl,((D.t g5).trans (M.t g1)).chgI gj oo,oo⟩
def zeM {p:DProg} (h:Is W v p) (e:Ext W w) (hp:ShP p):CALL tp 24 [v] w λr w'=>Ext w w'/\r=.int .i64 (zcT p):=by
 obtain ⟨_,_⟩:=hp.n;refine co (g:=kf [] [] []) Tryz.func24 ?_;refine zbk h e λw1 g1 hA=>zab zfs hA (xrf _) λ_ h4=>?_;refine (zo8 h4 (xrf _) hp).mono ?_;rintro _ _ ⟨g2,rfl⟩;refine zau<|zaN (λhc=>by cases hc) (λ_=>?_);refine zab zfs hA g2 λ_ h7=>?_;refine (zhs h7 g2 oo).mono ?_;rintro _ _ ⟨gg,o8⟩;have M:=g2.t gg;have g3:∀ {w':wD},Ext w1 w'->(¬p.globals.Nodup\/¬p.locks.Nodup\/¬(p.procs.map DProc.name).Nodup)->Ext w w'/\Value.int .i64 2=.int .i64 (zcT p):=λhx hq=>⟨g1.t hx,by unfold zcT;rw [qah hq]⟩;refine zaa zgX<|zab zb9 (zc5 hA) M λ_ gh=>?_;refine (zel gh M).mono ?_;rintro _ _ ⟨g4,rfl⟩;have C:=M.t g4;refine br (λhq=>g3 C (.inl hq)) (λc1=>?_);refine zaa zhd<|zab zb9 (zdN hA) C λ_ gi=>?_;refine (zel gi C).mono ?_;rintro _ _ ⟨g5,rfl⟩;have g0:=C.t g5;refine br (λhq=>g3 g0 (.inr (.inl hq))) (λc2=>?_);refine (zel o8.is (g4.t g5)).mono ?_;rintro _ _ ⟨gb,rfl⟩;have D:=g0.t gb;refine br (λhq=>g3 D (.inr (.inr hq))) (λc3=>?_);have g9:¬(¬p.globals.Nodup\/¬p.locks.Nodup\/¬(p.procs.map DProc.name).Nodup):=by simp only [not_or];exact ⟨c1,c2,c3⟩
 refine zab zfs hA D λ_ gj=>?_;refine (zqy gj D hp).mono ?_;rintro _ _ ⟨gc,_,gl,ho⟩;have O:=D.t gc;refine zae u26 gl<|zbZ<|br (λhc=>⟨g1.t O,?_⟩) (λhc=>?_)
 . unfold zcT;rw [qad g9,qah λhk=>by rw [ho.2 hk] at hc;simp at hc]
 have gd:KnP p:=ho.1 (qaj oo);refine (zcb o8.is (g4.t (g5.t (gb.t gc)))).mono ?_;rintro _ _ ⟨gf,rfl⟩;refine za0<|br (λhc=>⟨g1.t (O.t gf),?_⟩) (λhc=>⟨g1.t (O.t gf),?_⟩)
 . unfold zcT;rw [qad g9,qad (by simp only [qby];exact gd),qah (show zg5∉p.procs.map DProc.name from hc)]
 unfold zcT;rw [qad g9,qad (by simp only [qby];exact gd),qad (show ¬zg5∉p.procs.map DProc.name from hc)]
def zqz {l:List ByteArray} (h:Is W v l) (e:Ext W w) (hn:l.length<=1000000) :
   CALL tp 60 [v] w λr w'=>Ext w w'/\OwnI w.heap.size w'.heap.size w' r l:=by
 refine co (g:=kf [] [] []) Tryz.func60 ?_;obtain ⟨_,_,_,_,rfl,_,_,_,h4⟩:=zdU h;refine zke u26<|zaN (λg0=>?_) (λ_=>?_)
 . have:l=[]:=by
     rcases h4 with h4 | ⟨_,_,rfl,_⟩
     . exact h4
     simp at g0
   subst this;exact ⟨xrf w,(zk8 rfl).toI⟩
 refine zaI (α:=ByteArray) u26 ty9 λ_ _ g1 _=>zjS (α:=ByteArray) u26 ty9 zc9 h (e.trans g1) (by rw [zak];omega) oo λ_ _ g2 g3=>⟨g1.t g2,g3.own.mono g1.size (lr _)⟩
def zET {x:DProc} (h:AtB W w b 0 x):AtB W w b (0+1) x.body:=by
 obtain ⟨F,cs,hr,hc⟩:=h;have h:AtB W w b 0 (x.name,x.body):=⟨F,cs,hr,hc⟩;exact h.snd
def zxL {t by_ b:Nat} (ht:tyI P t=some (cs.length,by_,true)) (hr:w.rangeAt b 0 cs) (k:K (.agg cs.toArray)):RD P (Instr.loadAt t (.pointer (some ⟨b,0,none⟩))) w K:=by
 obtain ⟨_,d,hi,hd,hs,_,hg⟩:=zdd ht;exact za9 (λw' g0=>run_loadAt_mid w' b 0 t cs d (zbw hr g0) hd hg (by simp [hi,hs])) k
def ciQ (p:DProg) (g1:Nat) (w0:wD):ParQ:=λi u T w=>match i with
 | 0=>u 11=.pointer (some ⟨g1,0+0,none⟩)
 | 1=>Is w0 (u 12) p.globals
 | 2=>OwnI (T 2).1 (T 2).2 w (u 13) p.globals
 | 3=>u 14=.pointer (some ⟨g1,0+1,none⟩)
 | 4=>Is w0 (u 15) p.locks
 | 5=>OwnI (T 5).1 (T 5).2 w (u 16) p.locks
 | 6=>Is w0 (u 17) p
 | 7=>OwnI (T 7).1 (T 7).2 w (u 18) (p.procs.map DProc.name)
 | 8=>u 19=.agg #[u 13,u 16,u 18,.slice none 0 0,.slice none 0 0]
 | 9=>∃ g,u 4=.pointer (some ⟨g,0,none⟩)/\(T 9).1<=g/\g<(T 9).2/\Blk g 34 w [.slice none 0 0,.slice none 0 0,.slice none 0 0,.slice none 0 0,.slice none 0 0]
 | _=>True
section
variable {W w w':wD} {g bs:Nat} {c0 c1 c2 ve:vL} {G L P:List ByteArray} {I:List DIns} {F F':List Nat}
def CoF.turnV {ve':vL} {I':List DIns} {rv:vL} (h:CoF W g bs c0 c1 c2 ve G L P I F w) (hc:Chg (g :: F) w w') (hO:OAt F' w' g 0 (⟨⟨c0⟩,⟨c1⟩,⟨c2⟩,⟨ve'⟩,⟨rv,I'⟩⟩:DEc)) (hF:∀ c∈F',c∈F\/w.heap.size<=c):CoF W g bs c0 c1 c2 ve' G L P I' F' w':=by
 have hb:=h.Wb;have h1:=h.gW;have h2:=h.gb;refine ⟨⟨rv,hO⟩,h.nm.keep λb _ g0 g1=>hc.block b g1 λhm=>?_,h.old.chgL hc λc C=>?_,h1,h2,qal hb hc.size,λc C=>(hF c C).elim (h.Fb c) λh=>oo⟩
 . rcases qaa.1 hm with e | hm
   . exact g0 e
   have:=h.Fb b hm;omega
 rcases qaa.1 C with rfl | C
 . exact h1
 have:=h.Fb c C;omega
def CoF.away {S:List Nat} (h:CoF W g bs c0 c1 c2 ve G L P I F w) (hc:Chg S w w') (hS:∀ c∈S,bs<=c/\c∉F):CoF W g bs c0 c1 c2 ve G L P I F w':=by
 obtain ⟨rv,hO⟩:=h.oat;have:=h.lt;have h1:=h.gW;have h2:=h.gb;have hb:=h.Wb;refine ⟨⟨rv,hO.keep λc C=>hc.block c (hO.lts c C) λhm=>?_⟩,h.nm.keep λb _ _ g0=>hc.block b g0 λhm=>?_,h.old.chgL hc λc C=>?_,h1,h2,qal hb hc.size,h.Fb⟩
 . rcases qaa.1 C with rfl | C
   . have:=(hS _ hm).1;omega
   exact (hS c hm).2 C
 . have:=(hS b hm).1;omega
 have:=(hS c C).1;omega
def zzu {w2:wD} {u:vL} {x:DIns} {lo hi:Nat} {K:wD->Prop} (h:CoF W g bs c0 c1 c2 ve G L P I F w2) (o:OwnI lo hi w2 u x) (hlo:w2.heap.size<=lo)
   (hI:I.length<=1000000) {rv:vL} (hO:OAt F w2 g 0 (⟨⟨c0⟩,⟨c1⟩,⟨c2⟩,⟨ve⟩,⟨rv,I⟩⟩:DEc)) (k:∀ w4 F4,Chg (g :: F) w2 w4->CoF W g bs c0 c1 c2 ve G L P (I++[x]) F4 w4->(∀ c∈F4,c∈F\/w2.heap.size<=c)->K w4) :
   OP tp (Instr.buildSlice 32 1 #[(0,u)]) w2 λx49 w=>OP tp (Builtin.append_ #[32,32] 32 [rv,x49].toArray) w λx50 w'=>
     RD tp (Instr.fieldAt 34 (.pointer (some ⟨g,0,none⟩)) 4) w' λx52=>OPU tp (Instr.storeAt 32 x52 x50) w' λw=>K w:=
 OP.mono (zo7 h o hlo hI hO k) λ_ _ h=>OP.mono h λ_ _ ⟨_,h⟩=>h
def zzv {E:List Int} {Fe:List Nat} {K:wD->Prop} (h:CoF W g bs c0 c1 c2 ve G L P I F w) (he:RowG Fe 3 w ve E) (hn:Fe.Nodup) (hd:∀ c∈Fe,bs<=c/\c∉F) (hI:I.length<=1000000) (hE:E.length<=1000000)
   (k:∀ ve' w' Fe' F',Chg (g :: (F++Fe)) w w'->CoF W g bs c0 c1 c2 ve' G L P I F' w'->RowG Fe' 3 w' ve' (E++[(I.length:Int)])->Fe'.Nodup->(∀ c∈Fe',bs<=c/\c∉F')->(∀ c∈Fe',c∈Fe\/w.heap.size<=c)->(∀ c∈F',c∈F)->K w') :
   RD tp (Instr.fieldAt 34 (.pointer (some ⟨g,0,none⟩)) 3) w λx27=>RD tp (Instr.loadAt 31 x27) w λx28=>RD tp (Instr.fieldAt 34 (.pointer (some ⟨g,0,none⟩)) 4) w λx29=>
     RD tp (Instr.loadAt 32 x29) w λx30=>RD tp (Builtin.len_ #[32] 3 [x30].toArray) w λx31=>OP tp (Instr.buildSlice 31 1 #[(0,x31)]) w λx32 w=>
     OP tp (Builtin.append_ #[31,31] 31 [x28,x32].toArray) w λx33 w=>RD tp (Instr.fieldAt 34 (.pointer (some ⟨g,0,none⟩)) 3) w λx34=>OPU tp (Instr.storeAt 31 x34 x33) w λw=>K w:=by
 obtain ⟨_,e2,_,_⟩:=h.lt;have:=h.gb;have:=h.Wb;obtain ⟨_,hr,hi,hO⟩:=zji h
 have gg:w.rangeAt g (0+3) [ve]:=by
   obtain ⟨_,hL⟩:=znC (Lens.var hO);obtain ⟨_,⟨_,rfl,_⟩,hr,_⟩:=hL.here;exact hr
 refine zaa zbj<|zdH zcn gg<|zaa zaH<|zdH zcQ hr<|zae u32 hi<|zdD (β:=Int) (G:=Fe) (x:=(I.length:Int)) u31 ty3 z3 zc3 dD he hn (zcF io) ss (by rw [zak];omega) oo (λw4 g2 _ Fe' g0 g3 g4 gh gc=>?_) λ_ w4 g0 h=>h;have:=g0.size;have:=g3.size;have h5:=(h.ext g0).away g3 hd;obtain ⟨_,gi⟩:=h5.oat;obtain ⟨_,gj⟩:=znC (Lens.var gi)
 have g1:∀ c∈Fe',bs<=c/\c∉F:=λc hc=>by
   rcases gc c hc with h | h | h
   . exact hd c h
   . simp at h
   exact ⟨oo,λhm=>by have:=e2 c hm;omega⟩
 refine zaa zbj<|zkE (β:=Raw) (G':=[]) zcn gj (y':=⟨g2⟩) ⟨⟨[g2],⟨rfl,rfl,g4.one⟩,rfl⟩,qas,Wr.nil _⟩ ss λw6 g5 ⟨F',gd,gl⟩=>?_;have g9:g∉F':=by obtain ⟨_,_,_,_,_,hn,_⟩:=gd;exact hn
 have hF:∀ c∈F',c∈F:=λc gf=>by
   rcases gl c gf with h | h
   . rcases qaa.1 h with rfl | h
     . exact absurd gf g9
     exact h
   simp at h
 have h6:=h5.turnV g5 gd λc hc=>.inl (hF c hc);refine k g2 w6 Fe' F' ((((g0.chg Fe).trans g3).mono λc hc=>by simp [hc]).trans (g5.mono λc hc=>by rcases qaa.1 hc with rfl | hc<;>simp [*])) h6 (g4.keep λc hc=>g5.block c (g4.lt c hc) λhm=>?_) gh (λc hc=>⟨(g1 c hc).1,λhm=>(g1 c hc).2 (hF c hm)⟩) (λc hc=>?_) hF
 . rcases qaa.1 hm with rfl | hm
   . have:=(g1 c hc).1;omega
   exact (g1 c hc).2 hm
 rcases gc c hc with h | h | h
 . exact .inl h
 . simp at h
 exact .inr h
end
structure CiS (W:wD) (p:DProg) (g bs x2 l0 h0 l1 h1 l2 h2:Nat) (c0 c1 c2 ve:vL) (E:List Int) (I:List DIns) (Fe F:List Nat) (w:wD):Prop where
 co:CoF W g bs c0 c1 c2 ve p.globals p.locks (p.procs.map DProc.name) I F w
 e:RowG Fe 3 w ve E
 en:Fe.Nodup
 de:∀ c∈Fe,bs<=c/\c∉F
 o0:OwnI l0 h0 w c0 p.globals
 o1:OwnI l1 h1 w c1 p.locks
 o2:OwnI l2 h2 w c2 (p.procs.map DProc.name)
 x:Blk x2 34 w [.slice none 0 0,.slice none 0 0,.slice none 0 0,.slice none 0 0,.slice none 0 0]
section
variable {W:wD} {p:DProg} {g bs x2 l0 h0 l1 h1 l2 h2:Nat} {c0 c1 c2 ve:vL} {E:List Int} {I:List DIns} {Fe F:List Nat} {w w':wD}
def CiS.ext (h:CiS W p g bs x2 l0 h0 l1 h1 l2 h2 c0 c1 c2 ve E I Fe F w) (hx:Ext w w'):CiS W p g bs x2 l0 h0 l1 h1 l2 h2 c0 c1 c2 ve E I Fe F w':=
 ⟨h.co.ext hx,h.e.keep λc hc=>hx.heap (h.e.lt c hc),h.en,h.de,h.o0.ext hx,h.o1.ext hx,h.o2.ext hx,h.x.ext hx⟩
def CiS.go {ve':vL} {E':List Int} {I':List DIns} {Fe' F':List Nat} {S:List Nat} (h:CiS W p g bs x2 l0 h0 l1 h1 l2 h2 c0 c1 c2 ve E I Fe F w) (ho:h0<=bs/\h1<=bs/\h2<=bs/\(g<l0\/h0<=g)/\(g<l1\/h1<=g)/\(g<l2\/h2<=g)/\x2<bs/\x2≠g)
   (hc:Chg (g :: S) w w') (hS:∀ c∈S,bs<=c) (hE:CoF W g bs c0 c1 c2 ve' p.globals p.locks (p.procs.map DProc.name) I' F' w') (he:RowG Fe' 3 w' ve' E') (hn:Fe'.Nodup) (hd:∀ c∈Fe',bs<=c/\c∉F'):CiS W p g bs x2 l0 h0 l1 h1 l2 h2 c0 c1 c2 ve' E' I' Fe' F' w':=by
 have g0:∀ c∈g :: S,c=g\/bs<=c:=λc hc=>by
   rcases qaa.1 hc with e | hc
   . exact .inl e
   exact .inr (hS c hc)
 exact ⟨hE,he,hn,hd,zdu h.o0 hc λc C=>by have:=g0 c C;omega,zdu h.o1 hc λc C=>by have:=g0 c C;omega,zdu h.o2 hc λc C=>by have:=g0 c C;omega,h.x.chg hc λhm=>by have:=g0 _ hm;omega⟩
end
def zo9 {p:DProg} (h:Is W v p) (e:Ext W w) (hp:ProgR p) :
   CALL tp 23 [v] w λr w'=>Ext w w'/\∃ a,r=.tuple #[a,.bool true]/\OwnI w.heap.size w'.heap.size w' a (zc1 p):=by
 have hcl:=(znq hp).2;obtain ⟨_,_,_,_⟩:=hp.n;refine co (g:=⟨extL,[],[(5,35184363700288,[23])],[],[(3,1046544,10)],[],[]⟩) Tryz.func23 ?_;refine zbk h e λw1 hn hA=>?_;have hs1:=hn.size;refine za1 zAT λ_ gE hs=>?_;have hs2:=gE.size;have hg2:=hs.lt;refine zab zfs hA gE λ_ h7=>?_;refine (zeM h7 gE hp.sh).mono ?_;rintro _ w3 ⟨gK,rfl⟩;rw [zs5 hp];have hs3:=gK.size;refine zaJ<|br (λhc=>absurd rfl hc) (λ_=>?_);have gL:=gE.t gK;have gM:=zai w3;have hs4:=gM.size;generalize World.drew1 w3=w4 at *;have M:=gL.t gM
 have ht:w.heap.size<w1.heap.size:=by
   obtain ⟨F,cs,hr,hY⟩:=hA;exact zea hY (by rw [Rep.len hr];decide)
 refine PAR.mk (ciQ p w.heap.size w4) ?_ ?_ ?_
 . intro i u u' T T' _ wb _ gF hd hq
   match i,hd,hq with
   | 0,hd,hq=>exact (hd (0,11) dD).1.trans hq
   | 1,hd,hq=>have:=(hd (1,12) dD).1;show Is _ (u' 12) _;simp only [this];exact hq
   | 2,hd,hq=>
     obtain ⟨e1,e2⟩:=hd (2,13) dD;simp only at e1 e2;show OwnI (T' 2).1 (T' 2).2 wb (u' 13) p.globals;rw [e1,e2];exact OwnI.ext hq gF
   | 3,hd,hq=>exact (hd (3,14) dD).1.trans hq
   | 4,hd,hq=>have:=(hd (4,15) dD).1;show Is _ (u' 15) _;simp only [this];exact hq
   | 5,hd,hq=>
     obtain ⟨e1,e2⟩:=hd (5,16) dD;simp only at e1 e2;show OwnI (T' 5).1 (T' 5).2 wb (u' 16) p.locks;rw [e1,e2];exact OwnI.ext hq gF
   | 6,hd,hq=>have:=(hd (6,17) dD).1;show Is _ (u' 17) _;simp only [this];exact hq
   | 7,hd,hq=>
     obtain ⟨e1,e2⟩:=hd (7,18) dD;simp only at e1 e2;show OwnI (T' 7).1 (T' 7).2 wb (u' 18) (p.procs.map DProc.name);rw [e1,e2];exact OwnI.ext hq gF
   | 8,hd,hq=>
     have e1:=(hd (8,19) dD).1;have e2:=(hd (2,13) dD).1;have e3:=(hd (5,16) dD).1;have e4:=(hd (7,18) dD).1;simp only at e1 e2 e3 e4;show u' 19=.agg #[u' 13,u' 16,u' 18,.slice none 0 0,.slice none 0 0];rw [e1,e2,e3,e4];exact hq
   | 9,hd,⟨g,q1,q2,q3,q4⟩=>
     obtain ⟨e1,e2⟩:=hd (9,4) dD;simp only at e1 e2;exact ⟨g,e1.trans q1,by rw [e2];exact q2,by rw [e2];exact q3,q4.ext gF⟩
   | n+10,_,_=>trivial
 . have gN:p.globals.length<=1000000:=by have:=hp.g.1;omega
   have gO:p.locks.length<=1000000:=by have:=hp.l.1;omega
   refine ⟨λu T w' hx _ _=>?_,λu T w' hx _ O=>?_,λu T w' hx _ O=>?_,λu T w' hx _ _=>?_,λu T w' hx _ O=>?_,λu T w' hx _ O=>?_,λu T w' hx _ _=>?_,λu T w' hx _ O=>?_,λu T w' hx _ O=>?_,λu T w' hx _ _=>?_,trivial⟩
   . exact zaa zgX ⟨xrf _,rfl⟩
   . have q0:u 11=_:=O.1;rw [q0];exact zab zb9 (zc5 hA) (M.t hx) λv6 h6=>⟨xrf _,h6.ext M⟩
   . have q1:Is _ (u 12) p.globals:=O.1;exact (zqz q1 hx gN).mono λr w5 ⟨g0,o5⟩=>⟨g0,o5⟩
   . exact zaa zhd ⟨xrf _,rfl⟩
   . have q0:u 14=_:=O.1;rw [q0];exact zab zb9 (zdN hA) (M.t hx) λv6 h6=>⟨xrf _,h6.ext M⟩
   . have q1:Is _ (u 15) p.locks:=O.1;exact (zqz q1 hx gO).mono λr w5 ⟨g0,o5⟩=>⟨g0,o5⟩
   . exact zab zfs hA (M.t hx) λv6 h6=>⟨xrf _,h6.ext M⟩
   . have q1:Is _ (u 17) p:=O.1;exact (zhs q1 hx oo).mono λr w5 ⟨g0,o5⟩=>⟨g0,o5.toI⟩
   . have o1:OwnI _ _ _ (u 13) p.globals:=O.1;have o2:OwnI _ _ _ (u 16) p.locks:=O.2.1;have o3:OwnI _ _ _ (u 18) (p.procs.map DProc.name):=O.2.2.1;obtain ⟨a,n,cap,q1⟩:=zgf o1;obtain ⟨a',n',gP,hv⟩:=zgf o2;obtain ⟨a2,n2,gQ,q2⟩:=zgf o3;rw [q1,hv,q2];refine zas (cells:=#[.slice a n cap,.slice a' n' gP,.slice a2 n2 gQ,.slice none 0 0,.slice none 0 0]) kK ⟨xrf _,?_⟩;show _=Value.agg #[u 13,u 16,u 18,.slice none 0 0,.slice none 0 0];rw [q1,hv,q2];rfl
   exact za1 zAT λw5 g0 hB=>⟨g0,w'.heap.size,rfl,lr _,hB.lt,hB⟩
 rintro u T w5 g0 g1 ⟨-,-,gt,-,-,gx,-,gy,gG,⟨gk,q4,gR,gS,hw⟩,-⟩;have gt:OwnI (T 2).1 (T 2).2 w5 (u 13) p.globals:=gt;have gx:OwnI (T 5).1 (T 5).2 w5 (u 16) p.locks:=gx;have gy:OwnI (T 7).1 (T 7).2 w5 (u 18) (p.procs.map DProc.name):=gy;have gG:u 19=.agg #[u 13,u 16,u 18,.slice none 0 0,.slice none 0 0]:=gG;have t2:=g1.1 2 dD;have t5:=g1.1 5 dD;have t7:=g1.1 7 dD;have t9:=g1.1 9 dD;have gT:=g1.2 2 dD 5 dD dD;have gU:=g1.2 2 dD 7 dD dD;have gV:=g1.2 5 dD 7 dD dD;have hy:=g1.2 2 dD 9 dD dD;have hz:=g1.2 5 dD 9 dD dD;have hC:=g1.2 7 dD 9 dD dD;have hs5:=g0.size;obtain ⟨l0,hD⟩:∃ x,(T 2).1=x:=⟨_,rfl⟩;obtain ⟨h0,hH⟩:∃ x,(T 2).2=x:=⟨_,rfl⟩;obtain ⟨l1,hI⟩:∃ x,(T 5).1=x:=⟨_,rfl⟩;obtain ⟨h1,hJ⟩:∃ x,(T 5).2=x:=⟨_,rfl⟩;obtain ⟨l2,hK⟩:∃ x,(T 7).1=x:=⟨_,rfl⟩;obtain ⟨h2,hL⟩:∃ x,(T 7).2=x:=⟨_,rfl⟩;rw [hD,hH] at gt t2 gT gU hy;rw [hI,hJ] at gx t5 gT gV hz;rw [hK,hL] at gy t7 gU gV hC;generalize u 13=c0 at *;generalize u 16=c1 at *;generalize u 18=c2 at *;rw [gG,q4];have g9:=zj3 rfl gt;have gc:=zj3 rfl gx;have gd:=zj3 rfl gy;refine za3 (α:=Raw5) (x:=(⟨c0⟩,⟨c1⟩,⟨c2⟩,⟨.slice none 0 0⟩,⟨.slice none 0 0⟩)) (lo:=0) (hi:=0) zbO rfl hw rfl (zjg g9 gc gd rfl rfl) λw6 gr hN=>?_;have hs6:=gr.size;have gz:Ext w1 w6:=Ext.chgI (M.t g0) gr oo;have o0:=gt.chg gr oo;have o1:=gx.chg gr oo;have o2:=gy.chg gr oo;have gf:h0<=w6.heap.size/\h1<=w6.heap.size/\h2<=w6.heap.size/\(gk<l0\/h0<=gk)/\(gk<l1\/h1<=gk)/\(gk<l2\/h2<=gk)/\w1.heap.size<w6.heap.size/\w1.heap.size≠gk:=oo;have hZ:w1.heap.size<l0/\w1.heap.size<l1/\w1.heap.size<l2/\w.heap.size<=l0/\w.heap.size<=l1/\w.heap.size<=l2/\(h0<=l1\/h1<=l0)/\(h0<=l2\/h2<=l0)/\(h1<=l2\/h2<=l1):=oo
 have j0:CoF w1 gk w6.heap.size c0 c1 c2 (.slice none 0 0) p.globals p.locks (p.procs.map DProc.name) [] [] w6:=by
   refine ⟨⟨.slice none 0 0,[c0,c1,c2,.slice none 0 0,.slice none 0 0],?_,hN.range,qas,Wr.nil _,ss,_,_,hN⟩,⟨?_,?_,?_⟩,gz,oo,oo,lr _,ss⟩
   . have r:∀ {v:vL},v.oneCell'=true->rep [] w6 [v] (⟨v⟩:Raw):=λh=>⟨rfl,rfl,h⟩;exact zaQ (F:=[]) (r g9) (zaQ (F:=[]) (r gc) (zaQ (F:=[]) (r gd) (zaQ (F:=[]) (r rfl) (show rep [] w6 [Value.slice none 0 0] (⟨.slice none 0 0,[]⟩:RIns) from ⟨rfl,.inl ⟨none,rfl,rfl,rfl⟩⟩))))
   . obtain ⟨F,hM,hF⟩:=o0;exact ⟨F,hM,λb hb=>by have:=hF b hb;omega⟩
   . obtain ⟨F,hM,hF⟩:=o1;exact ⟨F,hM,λb hb=>by have:=hF b hb;omega⟩
   obtain ⟨F,hM,hF⟩:=o2;exact ⟨F,hM,λb hb=>by have:=hF b hb;omega⟩
 have j1:CiS w1 p gk w6.heap.size w1.heap.size l0 h0 l1 h1 l2 h2 c0 c1 c2 (.slice none 0 0) [] [] [] [] w6:=
   ⟨j0,.inl ⟨none,rfl,rfl,rfl⟩,qas,ss,o0,o1,o2,(((hs.ext gK).ext gM).ext g0).chgI gr oo⟩
 refine zaa zde<|zab zkD (zbJ hA) gz λ_ hO=>zae u27 hO ?_;have j2:w1.heap.size<=gk:=oo;have hww:w.heap.size<=w1.heap.size:=oo;clear hw gR gS gT gU gV hy hz hC t2 t5 t7 t9 hD hH hI hJ hK hL g1 gG q4;generalize hbs:w6.heap.size=bs at *;obtain ⟨G,hG⟩:∃ G,G=p.globals:=⟨_,rfl⟩;obtain ⟨Lk,gH⟩:∃ G,G=p.locks:=⟨_,rfl⟩;obtain ⟨Pn,gI⟩:∃ G,G=p.procs.map DProc.name:=⟨_,rfl⟩;have hP:zc1 p=⟨G,Lk,Pn,zmV G Lk Pn p.procs 0,emP G Lk Pn p.procs 0⟩:=by rw [hG,gH,gI];rfl
 refine zar p.procs.length (λk us w'=>us=[.int .i64 (k:Int)]/\∃ ve E I Fe F,k<=p.procs.length/\E.length=k/\CiS w1 p gk bs w1.heap.size l0 h0 l1 h1 l2 h2 c0 c1 c2 ve E I Fe F w' /\
     zmV G Lk Pn p.procs 0=E++zmV G Lk Pn (p.procs.drop k) I.length/\emP G Lk Pn p.procs 0=I++emP G Lk Pn (p.procs.drop k) I.length) 0 (z0 _)
     ⟨rfl,_,[],[],[],[],z0 _,rfl,j1,ss,ss⟩ ?_
 rintro k m _ w8 _ ⟨hu,ve,E,I,Fe,F,_,j3,C,g3,gA⟩;try replace hu:=zbv hu
 rw [hu];have gg:=C.co.old;have hb8:=C.co.Wb;refine zah ?_
 have hLl:I.length<=968:=by
   have h1:=qat List.length gA;have h2:(zc1 p).ins.length=(emP G Lk Pn p.procs 0).length:=by rw [hP]
   rw [qab] at h1;omega
 refine br (λ_=>?_) (λ_=>?_)
 . have hk:k<p.procs.length:=oo;have g2:=hp.b _ (qac hk);rw [zqv hk] at g3;rw [ztE hk] at gA;refine zac u27 ziL hO hk λ_ _ gW=>zab ziL gW gg λ_ hQ=>zbN zEt rfl ziL rfl hQ gg λ_ hR _ hS=>?_;have hs9:=hR.size;have hg9:=hS.lt;have j4:=zcV hQ hS rfl;have gh:=C.ext hR;have j5:=C.co.lt.1;have gX:∀ c∈F,c<w8.heap.size:=C.co.lt.2.1;have gY:∀ c∈Fe,c<w8.heap.size:=λc hc=>C.e.lt c hc;refine zzv gh.co gh.e gh.en gh.de oo oo λ_ gJ Fe' _ D U gi gj V _ _=>?_;have gZ:=D.size
   have h4:=gh.go gf D (λc hc=>by
     rcases qae.1 hc with h | h
     . exact gh.co.Fb c h
     exact (gh.de c h).1) U gi gj V
   have gl:=j4.keep (D.block _ oo λhm=>by
     rcases qaa.1 hm with e | hm
     . omega
     rcases qae.1 hm with h | h
     . have:=gX _ h;omega
     have:=gY _ h;omega)
   refine zaa zlc<|zbd zed (zET gl) U.old (xrf _) λ_ j6=>?_;have hbl:=zgL G Lk Pn (p.procs[k]).body I.length;refine (zmi _ 6 _ U j6 g2.1 (by have:=g2.2;omega)).mono ?_;rintro _ hT ⟨gn,j7,g4,h5⟩;have j8:=gn.size;have j9:=U.lt.2.1;have g5:∀ c∈Fe',c<gJ.heap.size:=λc hc=>gi.lt c hc;have gp:∀ c∈Fe',bs<=c/\c∉j7:=λc hc=>⟨(V c hc).1,λhm=>(h5 c hm).elim (V c hc).2 λh=>by have:=g5 c hc;omega⟩;have hU:gk∉Fe':=λhm=>by have:=(V _ hm).1;have:=U.gb;omega
   have gB:=gi.keep λc hc=>gn.block c (g5 c hc) λhm=>by
     rcases qaa.1 hm with rfl | hm
     . exact hU hc
     exact (V c hc).2 hm
   have h8:=h4.go gf gn (λc hc=>U.Fb c hc) g4 gB gj gp;obtain ⟨_,h9,_,he⟩:=zji g4;refine zaa zaH<|zdH zcQ h9<|zgg (lo:=hT.heap.size) (hi:=hT.heap.size) io λ_ ja=>?_
   have jb:(I++emL p.globals p.locks (p.procs.map DProc.name) p.procs[k].body I.length).length<=1000000:=by
     rw [<-hG,<-gH,<-gI,qab];have:=g2.2;omega
   refine zzu g4 ja (lr _) jb he λ_ jc gq hf hg=>?_;have jd:=gq.size
   have hh:=gB.keep λc hc=>gq.block c (by have:=g5 c hc;omega) λhm=>by
     rcases qaa.1 hm with rfl | hm
     . exact hU hc
     exact (gp c hc).2 hm
   have hj:∀ c∈Fe',bs<=c/\c∉jc:=λc hc=>⟨(V c hc).1,λhm=>(hg c hm).elim (gp c hc).2 λh=>by have:=g5 c hc;omega⟩;have gC:=h8.go gf gq (λc hc=>g4.Fb c hc) hf hh gj hj;rw [<-hG,<-gH,<-gI] at gC;refine zaw<|⟨m-1,oo,k+1,oo,rfl,_,_,_,_,_,oo,by simp [j3],gC,?_,?_⟩
   . rw [g3];simp [qbW]
   rw [gA];simp [qbW,zA3]
 have hk:k=p.procs.length:=oo;subst hk;rw [qbk,zmV,qaJ] at g3;rw [qbk,emP,qaJ] at gA;obtain ⟨rv,_,_,hV⟩:=zji C.co;obtain ⟨Gi,hW⟩:=zgo (Lens.var hV);obtain ⟨_,⟨rfl,Z⟩,_,hX,_,ht,_⟩:=hW.here;have Z:RowG Gi 69 w8 rv I:=Z
 have gs:∀ c∈Gi,c∈F:=λc hc=>by
   rcases qaa.1 (hW.sub c (by simp [hc])) with e | h
   . exact absurd (e▸hc) ht
   exact h
 have hl:w8.rangeAt gk 0 [c0,c1,c2,ve,rv]:=by
   obtain ⟨cs,hr,ha,_⟩:=hV;obtain ⟨F0,_,F1,_,F2,_,_,_,_,_,rfl,rfl,⟨_,rfl,_⟩,⟨_,rfl,_⟩,⟨_,rfl,_⟩,⟨_,rfl,_⟩,⟨rfl,_⟩⟩:=zCw hr;exact ha
 refine zxL (cs:=[c0,c1,c2,ve,rv]) zbO hl<|za3 (α:=Raw5) (x:=(⟨c0⟩,⟨c1⟩,⟨c2⟩,⟨ve⟩,⟨rv⟩)) (lo:=0) (hi:=0) zbO rfl C.x rfl (zjg g9 gc gd C.e.one Z.one) λgJ D gl=>?_;have gZ:=D.size;refine zcL gl zbO ?_;have je:Ext w gJ:=Ext.chgI (hn.t gg) D oo;refine ⟨je,_,rfl,?_⟩;obtain ⟨F0,M0,B0⟩:=C.o0.chg D oo;obtain ⟨F1,M1,B1⟩:=C.o1.chg D oo;obtain ⟨F2,M2,B2⟩:=C.o2.chg D oo;have keep:∀ c,bs<=c->c<w8.heap.size->gJ.heap[c]?=w8.heap[c]?:=λc h1 h2=>D.block c oo oo;have gD:=C.co.Fb;have Me:=zhr (C.e.keep λc hc=>keep c (C.de c hc).1 (C.e.lt c hc)) C.en;have Mi:=zhr (Z.keep λc hc=>keep c (gD c (gs c hc)) (Z.lt c hc)) hX;rw [hP,g3,gA,hG,gH,gI];refine ⟨F0++(F1++(F2++(Fe++Gi))),⟨⟨[c0,c1,c2,ve,rv],zaQ (zcs rfl M0.own) (zaQ (zcs rfl M1.own) (zaQ (zcs rfl M2.own) (zaQ (zcs rfl Me.own) (zcs rfl Mi.own)))),rfl⟩,?_,M0.wr.append (M1.wr.append (M2.wr.append (Me.wr.append Mi.wr)))⟩,λc hc=>?_⟩
 . simp only [qav,qae];refine ⟨M0.nodup,⟨M1.nodup,⟨M2.nodup,⟨C.en,hX,λa ha b hb e=>?_⟩,λa ha b hb e=>?_⟩,λa ha b hb e=>?_⟩,λa ha b hb e=>?_⟩
   . exact (C.de a ha).2 (gs a (e▸hb))
   . subst e;have:=B2 a ha;rcases hb with h | h
     . have:=(C.de a h).1;omega
     have:=gD a (gs a h);omega
   . subst e;have:=B1 a ha;rcases hb with h | h | h
     . have:=B2 a h;omega
     . have:=(C.de a h).1;omega
     have:=gD a (gs a h);omega
   subst e;have:=B0 a ha;rcases hb with h | h | h | h
   . have:=B1 a h;omega
   . have:=B2 a h;omega
   . have:=(C.de a h).1;omega
   have:=gD a (gs a h);omega
 simp only [qae] at hc;rcases hc with h | h | h | h | h
 . have:=B0 c h;omega
 . have:=B1 c h;omega
 . have:=B2 c h;omega
 . have:=(C.de c h).1;have:=C.e.lt c h;omega
 have:=gD c (gs c h);have:=Z.lt c h;omega
def zpa {p:DProg} (h:Is W v p) (e:Ext W w) (hp:ProgR p) :
   CALL tp 9 [v] w λr w'=>Ext w w'/\∃ a,r=.tuple #[a,.bool true]/\OwnI w.heap.size w'.heap.size w' a (zc1 p):=by
 have hcl:=(znq hp).2;obtain ⟨_,_,_,_⟩:=hp.n;refine co (g:=⟨extL,[],[(6,4611686018418999360,[6])],[(8,[0,1,2,3,4,5,6,7,8,9,10,11],256),(9,[0,1,2,3,4,5,6,7,8,9,10],128)],[(3,1046544,10)],[],[]⟩) Tryz.func9 ?_;refine zbk h e λw1 hL hA=>?_;have hs1:=hL.size;refine za1 zAT λ_ gN hM=>?_;have hs2:=gN.size;have hg2:=hM.lt;refine zab zfs hA gN λ_ h7=>?_;refine (zhl h7 gN hp.sh).mono ?_;rintro _ w3 ⟨gP,rfl⟩;rw [zs5 hp];have hs3:=gP.size;refine zaJ<|br (λhc=>absurd rfl hc) (λ_=>?_);have g2:=gN.t gP;have gQ:=zai w3;have hs4:=gQ.size;generalize World.drew1 w3=w4 at *;have V:=g2.t gQ
 have hN:w.heap.size<w1.heap.size:=by
   obtain ⟨F,_,hr,hZ⟩:=hA;exact zea hZ (by rw [Rep.len hr];decide)
 refine PAR.mk (cdQ p w.heap.size w4) ?_ ?_ ?_
 . intro i u u' T T' _ wb _ gR hd hq
   match i,hd,hq with
   | 0,hd,⟨a,hq⟩=>exact ⟨a,(hd (0,11) dD).1.trans hq⟩
   | 1,hd,hq=>exact (hd (1,12) dD).1.trans hq
   | 2,hd,hq=>have:=(hd (2,13) dD).1;show Is _ (u' 13) _;simp only [this];exact hq
   | 3,hd,hq=>
     obtain ⟨e1,e2⟩:=hd (3,14) dD;simp only at e1 e2;show OwnI (T' 3).1 (T' 3).2 wb (u' 14) p.globals;rw [e1,e2];exact OwnI.ext hq gR
   | 4,hd,⟨a,hq⟩=>exact ⟨a,(hd (4,15) dD).1.trans hq⟩
   | 5,hd,hq=>exact (hd (5,16) dD).1.trans hq
   | 6,hd,hq=>have:=(hd (6,17) dD).1;show Is _ (u' 17) _;simp only [this];exact hq
   | 7,hd,hq=>
     obtain ⟨e1,e2⟩:=hd (7,18) dD;simp only at e1 e2;show OwnI (T' 7).1 (T' 7).2 wb (u' 18) p.locks;rw [e1,e2];exact OwnI.ext hq gR
   | 8,hd,hq=>
     have e1:=(hd (8,19) dD).1;have e2:=(hd (3,14) dD).1;have e3:=(hd (7,18) dD).1;simp only at e1 e2 e3;show u' 19=.agg #[u' 14,u' 18,.slice none 0 0,.slice none 0 0,.slice none 0 0];rw [e1,e2,e3];exact hq
   | 9,hd,⟨g,q1,q2,q3,q4⟩=>
     obtain ⟨e1,e2⟩:=hd (9,4) dD;simp only at e1 e2;exact ⟨g,e1.trans q1,by rw [e2];exact q2,by rw [e2];exact q3,q4.ext gR⟩
   | n+10,_,_=>trivial
 . refine ⟨λu T w' hx _ _=>?_,λu T w' hx _ _=>?_,λu T w' hx _ U=>?_,λu T w' hx _ U=>?_,λu T w' hx _ _=>?_,λu T w' hx _ _=>?_,λu T w' hx _ U=>?_,λu T w' hx _ U=>?_,λu T w' hx _ U=>?_,λu T w' hx _ _=>?_,trivial⟩
   . exact zaI (α:=ByteArray) u26 ty9 λa w5 O _=>⟨O,a,rfl⟩
   . exact zaa zgX ⟨xrf _,rfl⟩
   . have q0:u 12=_:=U.1;rw [q0];exact zab zb9 (zc5 hA) (V.t hx) λv6 h6=>⟨xrf _,h6.ext V⟩
   . obtain ⟨a,q0⟩:∃ a,u 11=.slice (some a) 0 0:=U.1;have q1:Is _ (u 13) p.globals:=U.2.1;rw [q0];exact zjS (α:=ByteArray) u26 ty9 zc9 q1 hx (by have:=hp.g.1;rw [zak];omega) (by have:=hp.g.1;omega) λv5 w5 O r5=>⟨O,r5.own⟩
   . exact zaI (α:=ByteArray) u26 ty9 λa w5 O _=>⟨O,a,rfl⟩
   . exact zaa zhd ⟨xrf _,rfl⟩
   . have q0:u 16=_:=U.1;rw [q0];exact zab zb9 (zdN hA) (V.t hx) λv6 h6=>⟨xrf _,h6.ext V⟩
   . obtain ⟨a,q0⟩:∃ a,u 15=.slice (some a) 0 0:=U.1;have q1:Is _ (u 17) p.locks:=U.2.1;rw [q0];exact zjS (α:=ByteArray) u26 ty9 zc9 q1 hx (by have:=hp.l.1;rw [zak];omega) (by have:=hp.l.1;omega) λv5 w5 O r5=>⟨O,r5.own⟩
   . have o1:OwnI _ _ _ (u 14) p.globals:=U.1;have o2:OwnI _ _ _ (u 18) p.locks:=U.2.1;obtain ⟨a,n,cap,q1⟩:=zgf o1;obtain ⟨a',n',gS,hO⟩:=zgf o2;rw [q1,hO];refine zas (cells:=#[.slice a n cap,.slice a' n' gS,.slice none 0 0,.slice none 0 0,.slice none 0 0]) kK ⟨xrf _,?_⟩;show _=Value.agg #[u 14,u 18,.slice none 0 0,.slice none 0 0,.slice none 0 0];rw [q1,hO];rfl
   exact za1 zAT λw5 O hB=>⟨O,w'.heap.size,rfl,lr _,hB.lt,hB⟩
 rintro u T w5 O gq ⟨-,-,-,gy,-,-,-,gz,gT,⟨gk,q4,_,_,j0⟩,-⟩;have gy:OwnI (T 3).1 (T 3).2 w5 (u 14) p.globals:=gy;have gz:OwnI (T 7).1 (T 7).2 w5 (u 18) p.locks:=gz;have gT:u 19=.agg #[u 14,u 18,.slice none 0 0,.slice none 0 0,.slice none 0 0]:=gT;have t3:=gq.1 3 dD;have t7:=gq.1 7 dD;have t9:=gq.1 9 dD;have hP:=gq.2 3 dD 7 dD dD;have j1:=gq.2 3 dD 9 dD dD;have j2:=gq.2 7 dD 9 dD dD;have hs5:=O.size;obtain ⟨l3,j3⟩:∃ x,(T 3).1=x:=⟨_,rfl⟩;obtain ⟨h3,j4⟩:∃ x,(T 3).2=x:=⟨_,rfl⟩;obtain ⟨l7,j5⟩:∃ x,(T 7).1=x:=⟨_,rfl⟩;obtain ⟨h7,j6⟩:∃ x,(T 7).2=x:=⟨_,rfl⟩;rw [j3,j4] at gy t3 hP j1;rw [j5,j6] at gz t7 hP j2;generalize u 14=v14 at *;generalize u 18=v18 at *;rw [gT,q4];have g9:=zj3 rfl gy;have gb:=zj3 rfl gz;refine za3 (α:=Raw5) (x:=(⟨v14⟩,⟨v18⟩,⟨.slice none 0 0⟩,⟨.slice none 0 0⟩,⟨.slice none 0 0⟩)) (lo:=0) (hi:=0) zbO rfl j0 rfl (zjg g9 gb rfl rfl rfl) λw6 gA j7=>?_;have hs6:=gA.size;have gB:Ext w1 w6:=Ext.chgI (V.t O) gA oo;refine zab zfs hA gB λ_ hQ=>?_;obtain ⟨c0,c1,c2,rfl,gU,gV,gW⟩:=zxD hQ;refine zas (cells:=#[c0,c1,c2,.slice none 0 0]) kK<|zrz λw7 gr gX=>?_;have hs7:=gr.size;have hg7:=gX.lt
 have j8:EmF w1 w6.heap.size p [] [] w7:=by
   refine ⟨c0,c1,c2,.slice none 0 0,hQ,⟨[c0,c1,c2,.slice none 0 0],?_,gX.range,qas,Wr.nil _,ss,_,_,gX⟩,gB.t gr,oo,ss⟩;have r:∀ {v:vL},v.oneCell'=true->rep [] w7 [v] (⟨v⟩:Raw):=λh=>⟨rfl,rfl,h⟩;exact zaQ (F:=[]) (r gU) (zaQ (F:=[]) (r gV) (zaQ (F:=[]) (r gW) (show rep [] w7 [Value.slice none 0 0] (⟨.slice none 0 0,[]⟩:RIns) from ⟨rfl,.inl ⟨none,rfl,rfl,rfl⟩⟩)))
 have g3:gk<w7.heap.size/\w6.heap.size<w7.heap.size/\gk≠w6.heap.size/\w1.heap.size<w7.heap.size/\w1.heap.size≠gk/\w1.heap.size≠w6.heap.size/\h3<=w7.heap.size/\h7<=w7.heap.size/\(gk<l3\/h3<=gk)/\(gk<l7\/h7<=gk) /\
     (w6.heap.size<l3\/h3<=w6.heap.size)/\(w6.heap.size<l7\/h7<=w6.heap.size)/\w1.heap.size<=gk/\w1.heap.size<=w6.heap.size:=oo
 have j9:CdS w1 p gk w6.heap.size w7.heap.size w1.heap.size l3 h3 l7 h7 v14 v18 (.slice none 0 0) (.slice none 0 0) [] [] [] [] [] [] w7:=
   ⟨j7.ext gr,(gy.chg gA oo).ext gr,(gz.chg gA oo).ext gr,.inl ⟨none,rfl,rfl,rfl⟩,.inl ⟨none,rfl,rfl,rfl⟩,qas,qas,j8,((((hM.ext gP).ext gQ).ext O).chgI gA oo).ext gr,ss,ss,ss,ss,ss,ss⟩
 generalize hge:w6.heap.size=ge at *;generalize hbs:w7.heap.size=bs at *;obtain ⟨G,hG⟩:∃ G,G=p.globals:=⟨_,rfl⟩;obtain ⟨Lk,gY⟩:∃ G,G=p.locks:=⟨_,rfl⟩;obtain ⟨Pn,gZ⟩:∃ G,G=p.procs.map DProc.name:=⟨_,rfl⟩;have hR:zc1 p=⟨G,Lk,Pn,zmV G Lk Pn p.procs 0,emP G Lk Pn p.procs 0⟩:=by rw [hG,gY,gZ];rfl
 refine zar p.procs.length (λk us w'=>us=[.int .i64 (k:Int)]/\∃ vp ve E L Fp Fe Fi,k<=p.procs.length/\E.length=k/\CdS w1 p gk ge bs w1.heap.size l3 h3 l7 h7 v14 v18 vp ve ((p.procs.take k).map DProc.name) E L Fp Fe Fi w'/\bs<=w'.heap.size /\
     zmV G Lk Pn p.procs 0=E++zmV G Lk Pn (p.procs.drop k) L.length/\emP G Lk Pn p.procs 0=L++emP G Lk Pn (p.procs.drop k) L.length) 0 (z0 _)
     ⟨rfl,_,_,[],[],[],[],[],z0 _,rfl,by simpa using j9,oo,ss,ss⟩ ?_
 rintro k m _ w8 _ ⟨hu,vp,ve,E,L,Fp,Fe,Fi,_,h4,C,_,g4,gC⟩;try replace hu:=zbv hu
 rw [hu];have gd:=C.em.old;refine zaa zde<|zab zkD (zbJ hA) gd λ_ ja=>zae u27 ja<|zah ?_
 have hLl:L.length<=968:=by
   have h1:=qat List.length gC;have h2:(zc1 p).ins.length=(emP G Lk Pn p.procs 0).length:=by rw [hR]
   rw [qab] at h1;omega
 refine br (λ_=>?_) (λ_=>?_)
 . have hk:k<p.procs.length:=oo;have Z:=hp.b _ (qac hk);rw [zqv hk] at g4;rw [ztE hk] at gC;have gD:=zai w8;have gs:=C.ext gD;have jb:=gD.size;generalize World.drew1 w8=w9 at *;have gE:=gd.t gD;refine zaa zby<|zaj zb9 gs.bk rfl<|zaa zde<|zab zkD (zbJ hA) gE λ_ jc=>zac u27 ziL jc hk λ_ _ h5=>zaa znc<|zaq ty9 (ze5 h5) gE λh8=>?_;have hS:((p.procs.take k).map DProc.name).length=k:=by rw [qaD,qao];omega
   refine zdD (β:=ByteArray) (G:=Fp) u26 ty9 z9 zc9 dD gs.n gs.nn (zsW h8) ss (by rw [zak,hS];omega) (by rw [hS];omega) (λh9 jd _ Fp' gf gg gh he gF=>?_) λs' w' hf h'=>⟨hf,h'⟩;have hg:=gf.size;have hT:=gg.size;have gG:gk∉Fp:=λhm=>by have:=gs.bp _ hm;omega
   have hh:=(gs.bk.ext gf).chg gg gG;refine zaa zby<|zaW (α:=Raw) (lo:=0) (hi:=0) zb9 rfl rfl hh ss (zcY gh.one) λhj gi hl=>?_;have je:=gi.size
   have gH:gk∉Fp':=λhm=>by
     rcases gF _ hm with h | h | h
     . exact gG h
     . simp at h
     omega
   have hn:=gs.names g3 (vp':=jd) (N':=(p.procs.take (k+1)).map DProc.name) (Fp':=Fp') (w':=hj) ((((gf.chg Fp).trans gg).mono sd).trans (gi.toC.mono ss)) hl
     (by rw [tk hk,qbh];exact gh.keep λc hc=>gi.block c (gh.lt c hc) (by have:c≠gk:=λe=>gH (e▸hc);omega)) he (λc hc=>by
       rcases gF c hc with h | h | h
       . exact .inl h
       . simp at h
       exact .inr h) oo
   have g2:=zai hj;have D:=hn.ext g2;have jf:=g2.size;generalize World.drew1 hj=w13 at *;have hU:=D.em.old;refine zaa zbj<|zaj zcn D.bk rfl<|NIL.mk rfl ?_;obtain ⟨d0,d1,d2,rv,jg,gO,jh,ji,jj⟩:=D.em;refine zaa zlb<|zab (α:=RIns) zcQ (zoT gO.at) (xrf _) λjk jl=>?_;obtain ⟨hs,ht⟩:=zB1 jl;have hs:jk=rv:=hs;have ht:Is w13 rv L:=ht;rw [hs];refine zae u32 ht<|zdD (β:=Int) (G:=Fe) (x:=(L.length:Int)) u31 ty3 z3 zc3 dD D.e D.en (zcF io) ss (by rw [zak,h4];omega) (by rw [h4];omega) (λ_ jm _ Fe' g0 gj gl hv gI=>?_) λs' w' hf h'=>⟨hf,h'⟩;have jn:=g0.size;have hV:=gj.size;have gJ:gk∉Fe:=λhm=>by have:=D.be _ hm;omega
   have hw:=(D.bk.ext g0).chg gj gJ;refine zaa zbj<|zaW (α:=Raw) (lo:=0) (hi:=0) zcn rfl rfl hw ss (zcY gl.one) λjo gn hy=>?_;have jp:=gn.size
   have gK:gk∉Fe':=λhm=>by
     rcases gI _ hm with h | h | h
     . exact gJ h
     . simp at h
     omega
   have gp:=D.ents g3 (ve':=jm) (E':=E++[(L.length:Int)]) (Fe':=Fe') (w':=jo) ((((g0.chg Fe).trans gj).mono sd).trans (gn.toC.mono ss)) hy
     (gl.keep λc hc=>gn.block c (gl.lt c hc) (by have:c≠gk:=λe=>gK (e▸hc);omega)) hv (λc hc=>by
       rcases gI c hc with h | h | h
       . exact .inl h
       . simp at h
       exact .inr h) oo
   have gc:=gp.em.old;refine zaa zde<|zab zkD (zbJ hA) gc λ_ jq=>zac u27 ziL jq hk λ_ _ hz=>zaa zlc<|zab zed (zhC hz) gc λ_ jr=>?_;have hbl:=zgL G Lk Pn (p.procs[k]).body L.length;refine (zl5 _ 6 _ gp.em jr Z.1 (by have:=Z.2;omega)).mono ?_;rintro _ hW ⟨gL,_,g5,hC⟩;have js:=gL.size;rw [<-hG,<-gY,<-gZ] at g5;have hD:=gp.ems g3 gL g5 hC oo;obtain ⟨z1,z2,z3,_,_⟩:=g5.lt;refine zgg (lo:=hW.heap.size) (hi:=hW.heap.size) io λ_ jt=>?_;refine (zi5 g5 jt z1 z2 (lr _) (by have:=Z.2;rw [qab];omega)).mono ?_;rintro _ _ ⟨-,gM,_,hF,hH⟩;have ju:=gM.size;have hI:=hD.ems g3 gM hF hH oo;refine zaw<|⟨m-1,oo,k+1,oo,rfl,_,_,_,_,_,_,_,oo,by simp [h4],hI,oo,?_,?_⟩
   . rw [g4];simp [qbW]
   rw [gC];simp [qbW,zA3]
 have hk:k=p.procs.length:=oo;subst hk;rw [qbk,zmV,qaJ] at g4;rw [qbk,emP,qaJ] at gC;rw [qaM] at C;refine NIL.mk rfl ?_;obtain ⟨d0,d1,d2,rv,jg,gO,jh,ji,jj⟩:=C.em;refine zaa zlb<|zab (α:=RIns) zcQ (zoT gO.at) (xrf _) λjv jw=>?_;obtain ⟨hJ,-⟩:=zB1 jw;have hJ:jv=rv:=hJ;rw [hJ];obtain ⟨Gi,hX⟩:=zjT (Lens.var gO);obtain ⟨_,⟨rfl,M⟩,_,hY,_,hN,_⟩:=hX.here;have M:RowG Gi 69 w8 rv L:=M
 have gt:∀ c∈Gi,c∈Fi:=λc hc=>by
   rcases qaa.1 (hX.sub c (by simp [hc])) with e | h
   . exact absurd (e▸hc) hN
   exact h
 refine zaa zaH<|zaW (α:=Raw) (lo:=0) (hi:=0) zcQ rfl rfl C.bk ss (zcY M.one) λw9 gx jx=>?_;have jb:=gx.size;refine zfg jx zbO ?_;have gD:=C.x.chgI gx oo;refine za3 (α:=Raw5) (x:=(⟨v14⟩,⟨v18⟩,⟨vp⟩,⟨ve⟩,⟨rv⟩)) (lo:=0) (hi:=0) zbO rfl gD rfl (zjg g9 gb C.n.one C.e.one M.one) λh9 g1 hK=>?_;have hg:=g1.size;refine zcL hK zbO ?_;have jy:Ext w h9:=Ext.chgI (Ext.chgI (hL.t gd) gx oo) g1 oo;refine ⟨jy,_,rfl,?_⟩;obtain ⟨F3,M3,B3⟩:=(C.g.chg gx oo).chg g1 oo;obtain ⟨F7,M7,B7⟩:=(C.l.chg gx oo).chg g1 oo;have keep:∀ c,bs<=c->c<w8.heap.size->h9.heap[c]?=w8.heap[c]?:=λc h1 h2=>(g1.block c oo oo).trans (gx.block c h2 oo);have Mp:=zhr (C.n.keep λc hc=>keep c (C.bp c hc) (C.n.lt c hc)) C.nn;have Me:=zhr (C.e.keep λc hc=>keep c (C.be c hc) (C.e.lt c hc)) C.en;have Mi:=zhr (M.keep λc hc=>keep c (C.bi c (gt c hc)) (M.lt c hc)) hY;rw [hR,g4,gC,hG,gY,gZ];refine ⟨F3++(F7++(Fp++(Fe++Gi))),⟨⟨[v14,v18,vp,ve,rv],zaQ (zcs rfl M3.own) (zaQ (zcs rfl M7.own) (zaQ (zcs rfl Mp.own) (zaQ (zcs rfl Me.own) (zcs rfl Mi.own)))),rfl⟩,?_,M3.wr.append (M7.wr.append (Mp.wr.append (Me.wr.append Mi.wr)))⟩,λc hc=>?_⟩
 . simp only [qav,qae];refine ⟨M3.nodup,⟨M7.nodup,⟨C.nn,⟨C.en,hY,λa ha b hb e=>?_⟩,λa ha b hb e=>?_⟩,λa ha b hb e=>?_⟩,λa ha b hb e=>?_⟩
   . exact C.dei a ha (gt a (e▸hb))
   . subst e;rcases hb with h | h
     . exact C.dpe a ha h
     exact C.dpi a ha (gt a h)
   . subst e;have:=B7 a ha;rcases hb with h | h | h
     . have:=C.bp a h;omega
     . have:=C.be a h;omega
     have:=C.bi a (gt a h);omega
   subst e;have:=B3 a ha;rcases hb with h | h | h | h
   . have:=B7 a h;omega
   . have:=C.bp a h;omega
   . have:=C.be a h;omega
   have:=C.bi a (gt a h);omega
 simp only [qae] at hc;rcases hc with h | h | h | h | h
 . have:=B3 c h;omega
 . have:=B7 c h;omega
 . have:=C.bp c h;have:=C.n.lt c h;omega
 . have:=C.be c h;have:=C.e.lt c h;omega
 have:=C.bi c (gt c h);have:=M.lt c h;omega
open Go.Shelf
def Tryz.laysN166_ren:Go.Shelf.Ren:=⟨fun | 166=>31 | 240=>84 | 276=>158 | n=>n,fun | 70=>73 | 9=>9 | 3=>3 | 75=>78 | 0=>0 | 72=>75 | 37=>24 | 4=>4 | 164=>196 | 80=>83 | 5=>5 | n=>n,fun | n=>n⟩
def Tryz.laysN166:Go.Proofs.Lays.n166 tp Tryz.laysN166_ren where
 mixed:=by kernel_rfl
 f166:=Tryz.func31.trans (qat some kK)
 f240:=Tryz.func84.trans (qat some kK)
 f276:=Tryz.func158.trans (qat some kK)
 t0:=Tryz.underlying0
 a0:=Tryz.isAgg0
 z0:=Tryz.sizeOf0
 v0:=Tryz.zeroValue0
 t3:=Tryz.underlying3
 a3:=Tryz.isAgg3
 z3:=Tryz.sizeOf3
 v3:=Tryz.zeroValue3
 t4:=Tryz.underlying4
 a4:=Tryz.isAgg4
 z4:=Tryz.sizeOf4
 v4:=Tryz.zeroValue4
 t9:=Tryz.underlying9
 a9:=Tryz.isAgg9
 z9:=Tryz.sizeOf9
 v9:=Tryz.zeroValue9
 t20:=Tryz.underlying20
 a20:=Tryz.isAgg20
 z20:=Tryz.sizeOf20
 v20:=Tryz.zeroValue20
 t37:=Tryz.underlying24
 a37:=Tryz.isAgg24
 z37:=Tryz.sizeOf24
 v37:=Tryz.zeroValue24
 t70:=Tryz.underlying73
 a70:=Tryz.isAgg73
 z70:=Tryz.sizeOf73
 v70:=Tryz.zeroValue73
 t72:=Tryz.underlying75
 a72:=Tryz.isAgg75
 z72:=Tryz.sizeOf75
 v72:=Tryz.zeroValue75
 t75:=Tryz.underlying78
 a75:=Tryz.isAgg78
 z75:=Tryz.sizeOf78
 v75:=Tryz.zeroValue78
 t164:=Tryz.underlying196
 a164:=Tryz.isAgg196
 z164:=Tryz.sizeOf196
 v164:=Tryz.zeroValue196
def Tryz.laysN169_ren:Go.Shelf.Ren:=⟨fun | 169=>34 | n=>n,fun | 70=>73 | 9=>9 | 0=>0 | 72=>75 | 37=>24 | 127=>147 | 3=>3 | 5=>5 | n=>n,fun | n=>n⟩
def Tryz.laysN169:Go.Proofs.Lays.n169 tp Tryz.laysN169_ren where
 mixed:=by kernel_rfl
 f169:=Tryz.func34.trans (qat some kK)
 t0:=Tryz.underlying0
 a0:=Tryz.isAgg0
 z0:=Tryz.sizeOf0
 v0:=Tryz.zeroValue0
 t3:=Tryz.underlying3
 a3:=Tryz.isAgg3
 z3:=Tryz.sizeOf3
 v3:=Tryz.zeroValue3
 t9:=Tryz.underlying9
 a9:=Tryz.isAgg9
 z9:=Tryz.sizeOf9
 v9:=Tryz.zeroValue9
 t37:=Tryz.underlying24
 a37:=Tryz.isAgg24
 z37:=Tryz.sizeOf24
 v37:=Tryz.zeroValue24
 t70:=Tryz.underlying73
 a70:=Tryz.isAgg73
 z70:=Tryz.sizeOf73
 v70:=Tryz.zeroValue73
 t72:=Tryz.underlying75
 a72:=Tryz.isAgg75
 z72:=Tryz.sizeOf75
 v72:=Tryz.zeroValue75
 t127:=Tryz.underlying147
 a127:=Tryz.isAgg147
 z127:=Tryz.sizeOf147
 v127:=Tryz.zeroValue147
def Tryz.laysN170_ren:Go.Shelf.Ren:=⟨fun | 170=>33 | n=>n,fun | 70=>73 | 3=>3 | 0=>0 | 72=>75 | 37=>24 | 5=>5 | n=>n,fun | n=>n⟩
def Tryz.laysN170:Go.Proofs.Lays.n170 tp Tryz.laysN170_ren where
 mixed:=by kernel_rfl
 f170:=Tryz.func33.trans (qat some kK)
 t0:=Tryz.underlying0
 a0:=Tryz.isAgg0
 z0:=Tryz.sizeOf0
 v0:=Tryz.zeroValue0
 t3:=Tryz.underlying3
 a3:=Tryz.isAgg3
 z3:=Tryz.sizeOf3
 v3:=Tryz.zeroValue3
 t37:=Tryz.underlying24
 a37:=Tryz.isAgg24
 z37:=Tryz.sizeOf24
 v37:=Tryz.zeroValue24
 t70:=Tryz.underlying73
 a70:=Tryz.isAgg73
 z70:=Tryz.sizeOf73
 v70:=Tryz.zeroValue73
 t72:=Tryz.underlying75
 a72:=Tryz.isAgg75
 z72:=Tryz.sizeOf75
 v72:=Tryz.zeroValue75
open Go.RowKit (Below)
variable {P:pG} {W0 W1 w:wD} {b h0 i k m:Nat} {c:DCode} {s:ByteArray} {t:TypeId} {v v0 v1:vL} {x:DRace}
def zBn:Builder.X72 tp Tryz.laysN166_ren:=⟨kK,kK⟩
def zEU:Builder.Extra tp Tryz.laysN169_ren where
 sizeBuilder:=by kernel_rfl
 liesBuilder:=by kernel_rfl
 t5:=Tryz.underlying5
 a5:=Tryz.isAgg5
 z5:=Tryz.sizeOf5
 v5:=Tryz.zeroValue5
 infoByte:=by kernel_rfl
 cellsByte:=by kernel_rfl
 sizeByte:=by kernel_rfl
 neB5:=by decide
def byI:∃ i,tp.info? 5=some i/\i.zero=some (.int .u8 0)/\i.size=1/\i.bytes=1:=by
 have h:(tp.info? 5).map (λi=>(i.zero,i.size,i.bytes))=some (some (.int .u8 0),1,1):=by kernel_rfl
 obtain ⟨i,hi,he⟩:=qaS.1 h;simp only [qaB] at he;exact ⟨i,hi,he.1,he.2.1,he.2.2⟩
def BldAt (w:wD) (g:Nat) (l:List UInt8) (X:Nat->Prop):Prop:=
 ∃ p v,Blk g 75 w [p,v]/\(p=.pointer none\/p=.pointer (some ⟨g,0,none⟩))/\w.ownsRow (g+1) 5 1 v l.length (Lib.byteCells l)/\∀ k,v.ownBlock=some k->X k
section
variable {w w':wD} {g:Nat} {l:List UInt8} {X Y:Nat->Prop}
def BldAt.mono (h:BldAt w g l X) (hx:∀ k,X k->k<w.heap.size->Y k):BldAt w g l Y:=by
 obtain ⟨p,v,h1,h2,h3,h4⟩:=h;exact ⟨p,v,h1,h2,h3,λk hk=>hx k (h4 k hk) (h3.lt k hk).2⟩
def BldAt.lt (h:BldAt w g l X):g<w.heap.size:=by
 obtain ⟨_,_,h1,_⟩:=h;exact h1.lt
def zxM {v:vL} {b n:Nat} {xs:List vL} (h:w.ownsRow b 5 1 v n xs) (hx:Ext w w'):w'.ownsRow b 5 1 v n xs:=
 h.kept (row:=none) ⟨hx.os,hx.tape,hx.output,hx.size,λk hk _=>hx.block k hk⟩ (by cases v.ownBlock<;>simp)
def ztG {v:vL} {b b' n:Nat} {xs:List vL} (h:w.ownsRow b 5 1 v n xs) (hb:b'<=b):w.ownsRow b' 5 1 v n xs:=by
 refine ⟨h.1,?_⟩;rcases h.2 with h | ⟨g,cap,cur,h1,h2,h3⟩
 . exact .inl h
 exact .inr ⟨g,cap,cur,h1,qal hb h2,h3⟩
def BldAt.ext (h:BldAt w g l X) (hx:Ext w w'):BldAt w' g l X:=by
 obtain ⟨p,v,h1,h2,h3,h4⟩:=h;exact ⟨p,v,h1.ext hx,h2,zxM h3 hx,h4⟩
def ztH {v:vL} {n:Nat} {xs:List vL} (h:w.ownsRow (g+1) 5 1 v n xs):v.ownBlock≠some g:=λe=>by
 have:=(h.lt g e).1;omega
def zmk (l:List UInt8) (s:ByteArray):Lib.byteCells (l++bts s)=Lib.byteCells l++Lib.strCells s:=by
 unfold Lib.byteCells Lib.strCells bts;rw [qbh]
def zCx {K:VW} (k:∀ w',Ext w w'->BldAt w' w.heap.size [] X->K (.pointer (some ⟨w.heap.size,0,none⟩)) w') :
   OP tp (Instr.alloc 75 true (.tuple #[])) w K:=by
 refine za1 (zs:=[.pointer none,.slice none 0 0]) kK λw' hx hB=>k w' hx ⟨_,_,hB,.inl rfl,World.ownsRow_nil _ _ _ _,?_⟩;intro k hk;simp [Value.ownBlock] at hk
def zml (h:BldAt w g l X):∃ p v,Blk g 75 w [p,v]/\(p=.pointer none\/p=.pointer (some ⟨g,0,none⟩))/\w.ownsRow (g+1) 5 1 v l.length (Lib.byteCells l)/\(∀ k,v.ownBlock=some k->X k)/\Lib.BuilderAt 75 5 g g p (Lib.byteCells l) w:=by
 obtain ⟨p,v,h1,h2,h3,h4⟩:=h;have hl:(Lib.byteCells l).length=l.length:=by simp [Lib.byteCells]
 exact ⟨p,v,h1,h2,h3,h4,lr _,v,h1,by rw [hl];exact ztG h3 (Nat.le_succ g),ztH h3⟩
def zqA (h:BldAt w g l X) :
   CALL tp 84 [.pointer (some ⟨g,0,none⟩)] w λ_ w'=>Chg [g] w w'/\w'.heap.size=w.heap.size /\
     ∃ v,Blk g 75 w' [.pointer (some ⟨g,0,none⟩),v]/\w'.ownsRow (g+1) 5 1 v l.length (Lib.byteCells l)/\∀ k,v.ownBlock=some k->X k:=by
 obtain ⟨_,v,h1,h2,h3,h4,hB⟩:=zml h;rcases h2 with rfl | rfl
 . refine ⟨(Any.Builder_copyCheck_fresh { Tryz.laysN166 with } zBn g w hB.cell0 hB.shape hB.frozen0).mono ?_⟩;rintro e w' ⟨he,rfl⟩;refine ⟨_,he,⟨rfl,rfl,rfl,by simp [World.setCell],λk _ hk=>Below.heap_setCell _ _ _ _ (by simpa using hk)⟩,by simp [World.setCell],v,?_,?_,h4⟩
   . have g0:w.heap[g]?=some (.cells #[.pointer none,v] 75 (0,0)):=h1;unfold Blk;simp [World.setCell,Array.getElem?_modify,g0]
   exact h3.kept (row:=some g) ⟨rfl,rfl,rfl,by simp [World.setCell],λk _ hk=>Below.heap_setCell _ _ _ _ (λe=>hk (by simp [e]))⟩ (.inr (ztH h3))
 refine ⟨(Any.Builder_copyCheck_used { Tryz.laysN166 with } zBn g w hB.cell0).mono ?_⟩;rintro e w' ⟨he,rfl⟩;exact ⟨_,he,Chg.refl _ _,rfl,v,h1,h3,h4⟩
def znF {v:vL} {b n:Nat} {xs:List vL} {s:ByteArray} {K:VW} (h:w.ownsRow b 5 1 v n xs) (hn:n+s.size<=140737488355328) (hb:b<=w.heap.size)
   (k:∀ v' w',w'.ownsRow b 5 1 v' (n+s.size) (xs++Lib.strCells s)->w.grownBy w' v.ownBlock->(∀ j,v'.ownBlock=some j->v.ownBlock=some j\/w.heap.size<=j)->K v' w'):OP tp (Builtin.append_ #[24,9] 24 [v,.string s].toArray) w K:=by
 obtain ⟨i,hi,hz,hs,hy⟩:=byI;have hm:n+s.size<=maxLen:=by rw [zak];omega
 obtain ⟨v',w',hr,h1,h2,_⟩:=Lib.run_append_own_string (P:=tp) w b 24 9 24 5 i Tryz.underlying24 Tryz.underlying9 hi hz hs hy v n xs h s hm hn hb;have g0:xs.length=n:=by simpa using h.1
 refine ⟨v',w',hr,k v' w' h1 h2 λj hk=>?_⟩;clear k;rcases h.2 with ⟨rfl,rfl⟩ | ⟨g,cap,cur,rfl,_,hg,_,_,_,_⟩
 . have hx:xs=[]:=qaj g0;subst hx;obtain ⟨_,_,C,g1,_⟩:=Lib.run_append_own_string (P:=tp) w w.heap.size 24 9 24 5 i Tryz.underlying24 Tryz.underlying9 hi hz hs hy _ 0 [] (World.ownsRow_nil w w.heap.size 5 1) s hm hn (lr _);rw [hr] at C;simp only [Result.ok.injEq] at C;obtain ⟨rfl,rfl⟩:=C;exact .inr (g1.lt _ hk).1
 by_cases hroom:n+s.size<=cap
 . have C:=Lib.run_append_room_string (P:=tp) w 24 9 24 5 i Tryz.underlying24 Tryz.underlying9 hi hs g n cap cur hg s hroom oo;rw [show (#[.slice (some ⟨g,0,none⟩) n cap,.string s]:Array vL)=[.slice (some ⟨g,0,none⟩) n cap,.string s].toArray from rfl,hr] at C;simp only [Result.ok.injEq] at C;obtain ⟨rfl,rfl⟩:=C;exact .inl hk
 have C:=Lib.run_append_grow_string (P:=tp) w 24 9 24 5 i (.int .u8 0) Tryz.underlying24 Tryz.underlying9 hi hz ⟨g,0,none⟩ n cap xs (by rw [hs];simpa using g0) (h.cells (g:=g) rfl) s oo oo (by rw [hy];exact growslice_fits oo oo);rw [show (#[.slice (some ⟨g,0,none⟩) n cap,.string s]:Array vL)=[.slice (some ⟨g,0,none⟩) n cap,.string s].toArray from rfl,hr] at C;simp only [Result.ok.injEq] at C;obtain ⟨rfl,rfl⟩:=C;simp only [Value.ownBlock,qaq] at hk;exact .inr oo
def zFa {F:List Nat} (h:Chg F w w') (hF:∀ k∈F,X k):ExtX X w w':=⟨h.os,h.tape,h.output,h.size,λb hb hx=>h.block b hb λhm=>hx (hF b hm)⟩
def zyB {w2:wD} (h:ExtX X w w') (k:ExtX X w' w2):ExtX X w w2:=
 ⟨k.os.trans h.os,k.tape.trans h.tape,k.output.trans h.output,qal h.size k.size,λb hb hx=>(k.block b (qan hb h.size) hx).trans (h.block b hb hx)⟩
theorem zmm {b o:Nat} {v:vL} (h:w.cell? ⟨b,o,none⟩=some v):w.rangeAt b o [v]:=by
 intro j _ hu;cases j with
 | zero=>simp at hu;subst hu;exact h
 | succ j=>simp at hu
def zh9 {s:ByteArray} (h:BldAt w g l X) (hX:∀ k,w.heap.size<=k->X k) (hs:l.length+s.size<=140737488355328) (hm:s.size<=maxLen) :
   CALL tp 31 [.pointer (some ⟨g,0,none⟩),.string s] w λ_ w'=>ExtX (λb=>b=g\/X b) w w'/\BldAt w' g (l++bts s) X:=by
 refine co (g:=kf [] [] []) Tryz.func31 ?_;refine (zqA h).mono ?_;rintro _ w1 ⟨g9,_,v,hB,hr,hx⟩;have gb:=hB.lt;refine NIL.mk rfl<|zaa (off:=1) kK ?_;have g0:∀ j,w1.cell? ⟨g,j,none⟩=[Value.pointer (some ⟨g,0,none⟩),v].toArray[j]?:=λj=>Lib.cell_of_heap hB j
 have gc:v.oneCell'=true:=by
   rcases hr.2 with ⟨rfl,_⟩ | ⟨_,_,_,rfl,_⟩<;>rfl
 refine zdH zE0 (zmm (g0 1))<|znF hr hs oo λv' w2 g1 hg gd=>?_;have gf:Blk g 75 w2 [.pointer (some ⟨g,0,none⟩),v]:=hB.keep (hg.block g gb λe=>ztH hr e.symm)
 have g2:v'.oneCell'=true:=by
   rcases g1.2 with ⟨rfl,_⟩ | ⟨_,_,_,rfl,_⟩<;>rfl
 refine NIL.mk rfl<|zaa (off:=1) kK ?_;have C:=gf;unfold Blk at C;refine zs3 zE0 ⟨_,_,C⟩ (zmm (Lib.cell_of_heap C 1)) gc g2 λ_ D gg=>zb8 kK ?_;obtain ⟨c',g3,g4⟩:=D.cell _ _ C;have h0:c'[0]?=some (.pointer (some ⟨g,0,none⟩)):=g4 0 (.inl oo);have h2:c'[2]?=none:=g4 2 (.inr oo)
 have h1:c'[1]?=some v':=by
   have:=gg 0 v' rfl;rw [Lib.cell_of_heap g3] at this;exact this
 have gh:c'=#[.pointer (some ⟨g,0,none⟩),v']:=by
   have gi:c'.size=2:=by
     have a1:=(Array.getElem?_eq_some_iff.1 h1).1;have a2:=Array.getElem?_eq_none_iff.1 h2;omega
   apply Array.ext (by simpa using gi);intro i g5 _;have hi:i=0\/i=1:=oo;rcases hi with rfl | rfl
   . rw [Array.getElem?_eq_getElem g5] at h0;simpa using h0
   rw [Array.getElem?_eq_getElem g5] at h1;simpa using h1
 subst gh;have gj:∀ k,v.ownBlock=some k->X k:=hx;refine ⟨zyB (zyB (zFa g9 ss) ⟨hg.os,hg.tape,hg.output,hg.size,λb hb hn=>hg.block b hb λe=>hn (.inr (gj b e.symm))⟩) (zFa D.chg ss),_,v',g3,.inr rfl,?_,?_⟩
 . rw [zmk,qab,zaB];exact g1.kept (row:=some g) ⟨D.chg.os,D.chg.tape,D.chg.output,D.chg.size,λk hk hn=>D.chg.block k hk (by simpa using λe=>hn (by rw [e]))⟩ (.inr (ztH g1))
 intro k hk;rcases gd k hk with h | h
 . exact hx k h
 exact hX k oo
def zpb (h:BldAt w g l X):CALL tp 33 [.pointer (some ⟨g,0,none⟩)] w λr w'=>Ext w w'/\r=.int .i64 (l.length:Int):=by
 obtain ⟨_,_,_,h2,_,_,hB⟩:=zml h;refine ⟨(Any.Builder_Len Tryz.laysN170 g g _ w (h2.elim (λe=>.inl (e▸hB)) (λe=>.inr (e▸hB)))).mono ?_⟩;rintro e w' ⟨he,rfl⟩;exact ⟨_,he,xrf _,by simp [Lib.byteCells]⟩
def zkA {w0:wD} (h:BldAt w g l X) (h0:Ext w0 w) (hg:w0.heap.size<=g):CALL tp 34 [.pointer (some ⟨g,0,none⟩)] w λr w'=>Ext w0 w'/\r=.string ⟨l.toArray⟩:=by
 obtain ⟨_,_,_,h2,_,_,hB⟩:=zml h;refine ⟨(Any.Builder_String_any Tryz.laysN169 zEU g g l w (h2.elim (λe=>.inl (e▸hB)) (λe=>.inr (e▸hB))) (Nat.le_of_lt h.lt)).mono ?_⟩;rintro e w' ⟨he,hb⟩;exact ⟨_,he,⟨hb.os.trans h0.os,hb.tape.trans h0.tape,hb.output.trans h0.output,qal h0.size hb.size,λi hi=>(hb.block i oo).trans (h0.block i hi)⟩,rfl⟩
end
def zqB (h:zaz s=true):s.size<=12:=by
 rcases qaw 12 s.size with h' | h'
 . simp [zaz,zln h'] at h
 exact h'
def NamesR.lock_size (h:NamesR c) {i:Nat} (hi:i<c.locks.length):c.locks[i].size<=12:=by
 have h1:=h.2.1;simp only [qap,qaH] at h1;exact zqB (h1.2 _ (qac hi))
def NamesR.global_size (h:NamesR c) {i:Nat} (hi:i<c.globals.length):c.globals[i].size<=12:=by
 have h1:=h.1;simp only [qap,qaH] at h1;exact zqB (h1.2 _ (qac hi))
def zfO {α:Type} {l:List α} {d:α} (h:i<l.length):l.getD i d=l[i]:=by rw [List.getD_eq_getElem?_getD,List.getElem?_eq_getElem h];rfl
def zEe:ByteArray:=ByteArray.mk #[114,111,117,110,100]
def blankS:ByteArray:=ByteArray.mk #[32]
def lineS:ByteArray:=ByteArray.mk #[10]
def zfm (c:DCode) (part:List Int):Nat->ByteArray
 | 0=>zEe
 | k+1=>zfm c part k++(blankS++c.locks.getD (part.getD k 0).toNat ByteArray.empty)
def zix (c:DCode) (part:List Int):Prop:=CodeR c/\part≠[]/\part.length<=6/\∀ i∈part,0<=i/\i<c.locks.length
instance (c:DCode) (part:List Int):Decidable (zix c part):=by unfold zix;infer_instance
def za5 (c:DCode) (part:List Int):ByteArray:=if zix c part then zfm c part part.length++lineS else ByteArray.mk #[]
def zhS:(ByteArray.mk #[32]).size=1:=rfl
def zqC:(ByteArray.mk #[10]).size=1:=rfl
def zkB {C:(List Int)}  (h0:Is W0 v0 c) (e0:Ext W0 w) (h1:Is W1 v1 C) (e1:Ext W1 w)  :
   CALL tp 17 [v0,v1] w λr w'=>Ext w w'/\(r=.string (za5 c C)):=by
 refine co (g:=kf [] [(5,35184363700400,[5,23])] []) Tryz.func17 ?_;refine za2 zbO rfl h0 e0 λgg y1 g3 gh=>?_;have gi:=zan h1;refine zae u31 h1<|zag<|br (λc1=>?_) (λc1=>?_)
 . refine ⟨y1,?_⟩;have:¬zix c C:=λh=>h.2.1 (qaj oo);rw [za5,qad this]
 have g4:=zan h1;refine zae u31 h1<|zbZ<|br (λc2=>?_) (λc2=>?_)
 . refine ⟨y1,?_⟩;have:¬zix c C:=λh=>by have:=h.2.2.1;omega
   rw [za5,qad this]
 refine zcC gh (xrf gg) ?_;refine (ziY h0 (e0.t y1)).mono ?_;rintro _ g5 ⟨y2,rfl⟩;refine za0<|br (λc3=>?_) (λc3=>?_)
 . refine ⟨(y1.t y2),?_⟩;have:¬zix c C:=λh=>c3 h.1;rw [za5,qad this]
 have g9:=zan h1;refine zae u31 h1<|zar (C.length) (λk us w'=>us=[.string (zfm c C k),.int .i64 (k:Int)]/\Ext g5 w'/\((zfm c C k).size<=5+13*k/\∀ i∈C.take k,0<=i/\i<c.locks.length)) (0) oo ⟨rfl,xrf g5,by rw [zfm];decide,ss⟩ ?_;rintro k m5 _ _ _ ⟨hu,y3,_,g0⟩;obtain ⟨gb,gc⟩:=zcv hu;try rw [gb]
 try rw [gc]
 try clear gb gc
 refine zah<|br (λc4=>?_) (λc4=>?_)
 . refine zac u31 ty3 h1 oo λ_ _ gj=>?_;refine zad ty3 gj (e1.trans (y1.t (y2.t y3))) λg2=>?_;have g1:C[k]'(by omega)=C.getD k 0:=by rw [List.getD_eq_getElem?_getD,List.getElem?_eq_getElem oo];rfl
   rw [g1] at g2 ⊢;refine zah<|br (λc5=>?_) (λc5=>?_)
   . refine ⟨(y1.t (y2.t y3)),?_⟩;have:¬zix c C:=λh=>by have:=h.2.2.2 _ (qac (n:=k) oo);rw [g1] at this;omega
     rw [za5,qad this]
   refine zaa zdM<|zab zb9 (zbq g3) (y2.t y3) λ_ gd=>?_;have gf:=zan gd;refine zae u26 gd<|zcH<|br (λc6=>?_) (λc6=>?_)
   . refine ⟨(y1.t (y2.t y3)),?_⟩;have:¬zix c C:=λh=>by have:=h.2.2.2 _ (qac (n:=k) oo);rw [g1] at this;omega
     rw [za5,qad this]
   refine zaa zdM<|zab zb9 (zbq g3) (y2.t y3) λ_ gl=>zdo u26 ty9 gl oo oo λ_ _ gn=>zaq ty9 gn (y2.t y3) λ_=>?_;have gp:=(qaf.1 c3).1.lock_size (i:=(C.getD k 0).toNat) oo;have gq:c.locks[(C.getD k 0).toNat]'(by omega)=c.locks.getD (C.getD k 0).toNat ByteArray.empty:=(zfO oo).symm;rw [gq] at gp ⊢;refine zbt (by rw [zhS];omega)<|zbt (by rw [qar,zhS];omega)<|zaw<|⟨m5-1,oo,k+1,oo,by rw [zfm];rfl,y3,?_⟩;refine ⟨by rw [zfm,qar,qar];have:blankS.size=1:=rfl;omega,?_⟩;exact ztq oo g0 (by rw [g1];omega)
 refine zbt (by rw [zqC];omega)<|⟨(y1.t (y2.t y3)),?_⟩;have:zix c C:=⟨qaf.1 c3,λe=>c1 (by rw [e];rfl),oo,zxb oo g0⟩;rw [za5,qah this,show k=C.length by omega];rfl
def zkC {C:(List Int)}  (h0:Is W0 v0 c) (e0:Ext W0 w) (h1:Is W1 v1 C) (e1:Ext W1 w)  :
   CALL tp 43 [v0,v1] w λr w'=>Ext w w'/\(r=.string (za5 c C)):=by
 refine co (g:=kf [] [(5,140737487306864,[5,6])] [(7,[0,1,2,3,4,5,6,7,8,9],0),(9,[0,1,2,3,4,5,6,7,8,9,10,11],0)]) Tryz.func43 ?_;have g5:=zan h1;refine za2 zbO rfl h0 e0 λgj y1 g9 gl=>zcC gl (xrf gj) ?_;refine (zgG h0 (e0.t y1)).mono ?_;rintro _ gb ⟨y2,rfl⟩;refine za0<|br (λc1=>?_) (λc1=>?_)
 . refine ⟨(y1.t y2),?_⟩;have:¬zix c C:=λh=>c1 h.1;rw [za5,qad this]
 have gc:=zan h1;refine zae u31 h1<|zag<|br (λc2=>?_) (λc2=>?_)
 . refine ⟨(y1.t y2),?_⟩;have:¬zix c C:=λh=>h.2.1 (qaj oo);rw [za5,qad this]
 have gd:=zan h1;refine zae u31 h1<|zbZ<|br (λc3=>?_) (λc3=>?_)
 . refine ⟨(y1.t y2),?_⟩;have:¬zix c C:=λh=>by have:=h.2.2.1;omega
   rw [za5,qad this]
 refine zar (C.length) (λk us w'=>us=[.string (zfm c C k),.int .i64 (k:Int)]/\Ext gb w'/\((zfm c C k).size<=5+13*k/\∀ i∈C.take k,0<=i/\i<c.locks.length)) (0) oo ⟨rfl,xrf gb,by rw [zfm];decide,ss⟩ ?_;rintro k m5 _ gn _ ⟨hu,y3,_,g0⟩;obtain ⟨gf,gg⟩:=zcv hu;try rw [gf]
 try rw [gg]
 try clear gf gg
 have gh:=zan h1;refine zae u31 h1<|zah<|br (λc4=>?_) (λc4=>?_)
 . have y4:=zai gn;refine zac u31 ty3 h1 oo λ_ _ gp=>zad ty3 gp (e1.trans (y1.t (y2.t (y3.t y4)))) λg2=>?_;have g1:C[k]'(by omega)=C.getD k 0:=(zfO oo).symm;rw [g1] at g2 ⊢;refine zaa zdM<|zab zb9 (zbq g9) (y2.t (y3.t y4)) λ_ g3=>?_;have gi:=zan g3;refine zae u26 g3<|zbp (by unfold I64;have:=zan g3;omega) ?_;refine (l01In_ok ).mono ?_;rintro _ gq ⟨y5,rfl⟩;refine za0<|br (λc5=>?_) (λc5=>?_)
   . refine ⟨(y1.t (y2.t (y3.t (y4.t y5)))),?_⟩;have:¬zix c C:=λh=>by have:=h.2.2.2 _ (qac (n:=k) oo);rw [g1] at this;omega
     rw [za5,qad this]
   have y6:=zai gq;refine zbt (by rw [zhS];omega)<|zaa zdM<|zab zb9 (zbq g9) (y2.t (y3.t (y4.t (y5.t y6)))) λ_ gr=>zac u31 ty3 h1 oo λ_ _ gs=>zad ty3 gs (e1.trans (y1.t (y2.t (y3.t (y4.t (y5.t y6)))))) λg4=>?_;rw [g1] at g4 ⊢;refine zdo u26 ty9 gr oo oo λ_ _ gt=>zaq ty9 gt (y2.t (y3.t (y4.t (y5.t y6)))) λ_=>?_;have gx:=(qaf.1 c1).1.lock_size (i:=(C.getD k 0).toNat) oo;have gy:c.locks[(C.getD k 0).toNat]'(by omega)=c.locks.getD (C.getD k 0).toNat ByteArray.empty:=(zfO oo).symm;rw [gy] at gx ⊢;refine zbt (by rw [qar,zhS];omega)<|zaw<|⟨m5-1,oo,k+1,oo,by rw [zfm,<-ByteArray.append_assoc];rfl,(y3.t (y4.t (y5.t y6))),?_⟩;refine ⟨by rw [zfm,qar,qar];have:blankS.size=1:=rfl;omega,?_⟩;exact ztq oo g0 (by rw [g1];omega)
 refine zbt (by rw [zqC];omega)<|⟨(y1.t (y2.t y3)),?_⟩;have:zix c C:=⟨qaf.1 c1,λe=>c2 (by rw [e];rfl),oo,zxb oo g0⟩;rw [za5,qah this,show k=C.length by omega];rfl
def raceS:ByteArray:=ByteArray.mk #[114,97,99,101,32]
def zxN (c:DCode) (x:DRace):Prop:=CodeR c/\0<=x.g/\x.g<c.globals.length
instance (c:DCode) (x:DRace):Decidable (zxN c x):=by unfold zxN;infer_instance
def zgp (c:DCode) (x:DRace):ByteArray:=raceS++c.globals.getD x.g.toNat ByteArray.empty++blankS++znl x.a++blankS++znl x.b++lineS
def zhT (c:DCode) (x:DRace):ByteArray:=if zxN c x then zgp c x else ByteArray.empty
def zmn (h0:Is W0 v0 c) (e0:Ext W0 w) (h1:Is W1 v1 x) (e1:Ext W1 w) :
   CALL tp 42 [v0,v1] w λr w'=>Ext w w'/\r=.string (zhT c x):=by
 refine co (g:=kf [] [] [(3,[0,1,2,3,4,5,6,7,8,9,13,14,10,11,12,15,16,17,18],33792)]) Tryz.func42 ?_;refine zbk h0 e0 λ_ g3 hA=>zbk h1 (e1.trans g3) λwb g4 hB=>?_;have g0:=hA.ext g4;have g5:=g3.t g4;have g9:¬zxN c x->∀ w9,Ext wb w9->Ext w w9/\Value.string (ByteArray.mk #[])=.string (zhT c x):=λh w9 gi=>⟨g5.t gi,by unfold zhT;rw [qad h];rfl⟩;refine zab zbO g0 (xrf _) λ_ h5=>?_;refine (zgG h5 (xrf _)).mono ?_;rintro _ _ ⟨D,rfl⟩;refine za0<|br (λhn=>g9 (λh=>hn h.1) _ D) (λhy=>?_);have hc:=qaf.1 hy;refine zaa ziK<|zad ty3 (zeg hB) D λ_=>zaa zez<|zab zb9 (zbH g0) D λ_ gb=>zae u26 gb ?_;have:=zan gb;refine zbp io<|l01In_ok.mono ?_;rintro _ w3 ⟨gc,rfl⟩;refine za0<|br (λhn=>g9 (λh=>hn ⟨h.2.1,by have:=h.2.2;omega⟩) _ (D.t gc)) (λgj=>?_);have hr:=qaf.1 gj;have gl:zxN c x:=⟨hc,hr.1,oo⟩;have gn:=zai w3;generalize World.drew1 w3=w4 at *;have C:=(D.t gc).trans gn;obtain ⟨i,hi⟩:∃ i:Nat,x.g=(i:Int):=⟨x.g.toNat,oo⟩;have g1:i<c.globals.length:=oo;refine zaa zez<|zab zb9 (zbH g0) C λ_ gp=>zaa ziK<|zad ty3 (zeg hB) C λ_=>?_;rw [hi];refine zac u26 ty9 gp g1 λ_ _ gq=>zaq ty9 gq C λ_=>?_;have:=hc.1.global_size g1;have h5:(ByteArray.mk #[114,97,99,101,32]).size=5:=rfl;have:(ByteArray.mk #[32]).size=1:=rfl;have:(ByteArray.mk #[10]).size=1:=rfl;refine zbt oo<|zbt (by simp only [qar];omega)<|zaa zkf<|zad ty3 (ze4 hB) C λgd=>zaa znb<|zad ty3 (zhB hB) C λgf=>?_;have:=zer x.a gd;have:=zer x.b gf;have g2:=g5.t C;refine (zc7 gd).mono ?_;rintro _ _ ⟨gg,rfl⟩;refine ⟨gg,?_⟩;refine zbt (by simp only [qar];omega)<|zbt (by simp only [qar];omega) ?_;refine (zc7 gf).mono ?_;rintro _ _ ⟨gh,rfl⟩;refine ⟨gh,?_⟩;refine zbt (by simp only [qar];omega)<|zbt (by simp only [qar];omega)<|⟨(g2.t gg).trans gh,?_⟩;unfold zhT zgp;rw [qah gl,hi,qaF,zfO g1];rfl
def zCy {K:VW} (h:v.cells=#[v]) (k:∀ w',Ext w w'->Blk w.heap.size t w' [v]->K (.pointer (some ⟨w.heap.size,0,none⟩)) w'):OP P (Instr.box t v) w K:=
 ⟨_,w.alloc (.cells #[v] t),by simp [Instr.box,newVar,newRow,h],k _ (zaU w _) (by unfold Blk;rw [heap_alloc_new w _])⟩
def AddR (c:DCode) (out:List Nat) (ag:Bool) (i m:Nat) (out':List Nat) (ag':Bool):Prop:=
 (MetP c i/\¬zhR m (zax out i)/\out'=out.set i (zax out i ||| m)/\ag'=true)\/((MetP c i->zhR m (zax out i))/\out'=out/\ag'=ag)
def AddR.hp {out0 out g0:List Nat} {ag g2:Bool} (h:AddR c out ag i m g0 g2) (hP:HP c out0 ag out k) (hi:i<c.ins.length) (hm:m<64) (g1:∀ l,l<6->m.testBit l=true->MayP c i l):HP c out0 g2 g0 k:=by
 rcases h with ⟨h1,h2,rfl,rfl⟩ | ⟨_,rfl,rfl⟩
 . exact hP.add hi hm h1 g1 h2
 exact hP
def AddR.sub {out g0:List Nat} {ag g1:Bool} (h:AddR c out ag i m g0 g1) (hi:i<out.length) (hm:MetP c i):zhR m (zax g0 i):=by
 rcases h with ⟨_,_,rfl,rfl⟩ | ⟨h,rfl,rfl⟩
 . rw [zb6 hi,qah rfl];exact zBi
 exact h hm
def AddR.mono {out g0:List Nat} {ag g1:Bool} {i m x j:Nat} (h:AddR c out ag i m g0 g1) (hi:i<out.length) (hx:zhR x (zax out j)):zhR x (zax g0 j):=by
 rcases h with ⟨_,_,rfl,rfl⟩ | ⟨_,rfl,rfl⟩
 . rw [zb6 hi];split
   . rename_i e;subst e;exact zmf hx
   exact hx
 exact hx
def AddR.ag {out g0:List Nat} {ag g1:Bool} (h:AddR c out ag i m g0 g1) (e:g1=false):ag=false:=by
 rcases h with ⟨_,_,_,rfl⟩ | ⟨_,_,rfl⟩
 . cases e
 exact e
structure HW (w1 w:wD) (gm go g ga n:Nat) (vm:vL) (out:List Nat) (ag:Bool):Prop where
 ext:Ext w1 w
 met:Blk gm 125 w [vm]
 var:Blk go 31 w [.slice (some ⟨g,0,none⟩) n n]
 mine:Mine [g] w (.slice (some ⟨g,0,none⟩) n n) (zaK out)
 agn:Blk ga 4 w [.bool ag]
 n0:gm≠g
 n01:gm≠ga
 n1:go≠g
 n2:go≠ga
 n3:g≠ga
 g0:w1.heap.size<=g
 g1:w1.heap.size<=go
 g2:w1.heap.size<=ga
section
variable {w1 w w':wD} {gm go g ga n:Nat} {vm:vL} {out:List Nat} {ag:Bool}
def HW.step (h:HW w1 w gm go g ga n vm out ag) (hx:Ext w w'):HW w1 w' gm go g ga n vm out ag:=⟨h.ext.trans hx,h.met.ext hx,h.var.ext hx,h.mine.ext hx,h.agn.ext hx,h.n0,h.n01,h.n1,h.n2,h.n3,h.g0,h.g1,h.g2⟩
def HW.set {i v:Nat} (h:HW w1 w gm go g ga n vm out ag) (hc:Chg [g] w w') (hm:Mine [g] w' (.slice (some ⟨g,0,none⟩) n n) ((zaK out).set i (v:Int))):HW w1 w' gm go g ga n vm (out.set i v) ag:=
 ⟨h.ext.chgF hc (by simp [h.g0]),h.met.chgF hc (by simp [h.n0]),h.var.chgF hc (by simp [h.n1]),by rw [zgO];exact hm,h.agn.chgF hc (by simp [Ne.symm h.n3]),h.n0,h.n01,h.n1,h.n2,h.n3,h.g0,h.g1,h.g2⟩
def HW.agains {ag':Bool} (h:HW w1 w gm go g ga n vm out ag) (hc:Chg [ga] w w') (hB:Blk ga 4 w' [.bool ag']):HW w1 w' gm go g ga n vm out ag':=
 ⟨h.ext.chgF hc (by simp [h.g2]),h.met.chgF hc (by simp [h.n01]),h.var.chgF hc (by simp [h.n2]),h.mine.keep λb hb=>by
   simp only [qaa,qag,qaz] at hb;subst hb;exact hc.block b (h.mine.lt b ss) (by simp [h.n3]),hB,h.n0,h.n01,h.n1,h.n2,h.n3,h.g0,h.g1,h.g2⟩
def HW.cell {ga':Nat} {ag':Bool} (h:HW w1 w gm go g ga n vm out ag) (hx:Ext w w') (hB:Blk ga' 4 w' [.bool ag']) (hg:w.heap.size<=ga'):HW w1 w' gm go g ga' n vm out ag':=
 ⟨h.ext.trans hx,h.met.ext hx,h.var.ext hx,h.mine.ext hx,hB,h.n0,by have:=h.met.lt;omega,h.n1,by have:=h.var.lt;omega,by have:=h.mine.lt g ss;omega,h.g0,h.g1,by have:=h.ext.size;omega⟩
def zxO {W1:wD} {c:DCode} {i m:Nat} (h:HW w1 w gm go g ga n vm out ag) (hv:Is W1 vm (zg9 c)) (e1:Ext W1 w) (hn:c.ins.length=n) (hi:i<n) (hl:out.length=n) (gf:∀ x∈out,x<64) (hm:m<64) :
   CALL tp 217 [.int .i64 (i:Int),.int .i64 (m:Int),.pointer (some ⟨gm,0,none⟩),.pointer (some ⟨go,0,none⟩),.pointer (some ⟨ga,0,none⟩)] w λr w'=>r=.tuple #[]/\∃ out' ag',HW w1 w' gm go g ga n vm out' ag'/\Chg [g,ga] w w'/\AddR c out ag i m out' ag':=by
 refine co (g:=kf [] [] []) Tryz.func217 ?_;have g2:(zg9 c).length=n:=by unfold zg9;rw [zam,hn]
 refine zaj zcR h.met rfl<|zac zdj ty4 hv (by rw [g2];exact hi) λ_ _ gb=>zaC ty4 gb e1 ?_;have gc:=zaZ (ms:=zg9 c) (i:=i) (by rw [g2];exact hi);have gd:=zaM (n:=c.ins.length) (p:=MetP c) (i:=i)
 have g0:(zg9 c)[i]=true↔MetP c i:=by
   rw [<-gc];unfold zg9;rw [gd];exact ⟨λh=>h.2,λh=>⟨oo,h⟩⟩
 have C:=zdI gf i;refine zaN (λhf=>?_) (λhf=>?_)
 . have g1:=g0.1 hf;refine zaj zcn h.var rfl<|zac u31 ty3 (i:=i) h.mine.is (by rw [zaf,hl];exact hi) λ_ _ g3=>?_;rw [zaS] at g3;refine zad ty3 g3 (xrf _) λ_=>zho (m:=m) (n:=zax out i) oo oo<|zaJ<|br (λgg=>?_) (λgh=>?_)
   . have gi:¬zhR m (zax out i):=λhs=>gg (by rw [(zqu hm C).2 hs];rfl);refine zaj zcn h.var rfl<|zac u31 ty3 (i:=i) h.mine.is (by rw [zaf,hl];exact hi) λ_ _ g4=>?_;rw [zaS] at g4;refine zad ty3 g4 (xrf _) λ_=>zhb (m:=zax out i) (n:=m) oo oo ?_;have:=zo4 hm C;refine zb5 (α:=Int) rfl u31 ty3 hi<|zbm (α:=Int) rfl ty3 h.mine (by rw [zaf,hl]) hi (zbS (v:=zax out i ||| m) oo) λ_ g5 gj=>?_;have h2:=h.set (v:=zax out i ||| m) g5 gj;refine zaW (α:=Raw) (lo:=0) (hi:=0) ty4 rfl rfl h2.agn ss (zcY rfl) λ_ g9 gl=>⟨rfl,_,true,h2.agains g9.one gl,(g5.mono ss).trans (g9.one.mono ss),.inl ⟨g1,gi,rfl,rfl⟩⟩
   have hs:zhR m (zax out i):=(zqu hm C).1 (qa7.1 (qaf.1 gh));exact ⟨rfl,out,ag,h,Chg.refl _ _,.inr ⟨λ_=>hs,rfl,rfl⟩⟩
 exact ⟨rfl,out,ag,h,Chg.refl _ _,.inr ⟨λhm=>(by rw [g0.2 hm] at hf;cases hf),rfl,rfl⟩⟩
end
def CR (c:DCode) (out0:List Nat) (k h0 m:Nat) (ag:Bool):Prop:=ag=false->h0=zax out0 k/\((zap c k).op=4->m=zax out0 (zN c (agN c k)))/\(¬(zap c k).op=4->m=aft c [] k (zax out0 k))
def HP.close {out0 out:List Nat} {ag:Bool} (hP:HP c out0 ag out k) (hC:CR c out0 k h0 m ag) (h1:(zap c k).op=4->zhR h0 (zax out (eN c (agN c k)))) (h2:∀ j∈zaE c k,MetP c j->zhR m (zax out j)):HP c out0 ag out (k+1):=
 hP.next λe hk=>by
   obtain ⟨c1,c2,c3⟩:=hC e;have ho:=(hP.no e).1;rw [<-ho] at c1 c2 c3;refine ⟨λh4=>⟨c1▸h1 h4,λhz j hj=>?_⟩,λh4 j hj=>?_⟩
   . rw [<-c2 h4];exact h2 j hj (.back hk h4 hz hj)
   rw [<-c3 h4];exact h2 j hj (.next hk h4 hj)
def zEf (hW:WAt W0 b c) (e0:Ext W0 w) (hv:Is W1 v1 (zg9 c)) (e1:Ext W1 w) (hc:CodeR c) :
   CALL tp 160 [.pointer (some ⟨b,0,none⟩),v1] w λr w'=>Ext w w'/\Own w.heap.size w' r (zaK (zqr c)):=by
 refine co (g:=kf [(19,38685626227663735544087552,[10])] [(3,1267650600228229401496702162880,[6]),(7,633825300114114700748083173120,[28]),(20,316293680037414660236726243328,[89])] [(17,[0,1,2,3,4,5,6,7,8,9,10,11],0),(18,[0,1,2,3,4,5,6,7,8,9,10,11],128)]) Tryz.func160 ?_;have h8:=hc.1.procs8;have hZ:=hc.f.ins;have D:=hW.wl.code
 have gl:v1.cells=#[v1]:=by
   obtain ⟨_,_,_,_,hh,_⟩:=zdU hv;rw [hh];rfl
 refine zCy gl λwm gM hF=>?_;have hsm:=gM.size;have j0:=e0.t gM;refine NIL.mk rfl<|zaa zbc<|zaa zaH<|zab zcQ (zao D) j0 λ_ j1=>zae u32 j1 ?_;have hz0:=(zeT hc h8.2).2.2;have hG:=HP.start (c:=c);have hn:c.ins.length=c.ins.length:=rfl;generalize hnn:c.ins.length=n at hn;rw [hnn] at hZ hG;refine zd3 oo oo λw1 gN hH=>?_;have hs1:=gN.size;have hg1:=hH.lt _ (qay.2 rfl);have hmg:w.heap.size<wm.heap.size:=hF.lt;generalize hgm:w.heap.size=gm at *;generalize hg:wm.heap.size=g at *;refine zgS zFs zcn rfl λw2 gG hI=>?_;have hs2:=gG.size;have j2:=hH.ext gG;have gO:=hF.ext (gN.t gG);generalize gH:w1.heap.size=go at *;have j3:=hI.lt;refine zgS zCZ ty4 rfl λw5 gI j4=>?_;have j5:HW w w5 gm go g w2.heap.size n v1 (List.replicate n 0) true:=⟨gM.t (gN.t (gG.t gI)),gO.ext gI,hI.ext gI,j2.ext gI,j4,oo,oo,oo,oo,oo,oo,oo,oo⟩;generalize w2.heap.size=ga at *;generalize List.replicate n 0=out at *;refine LOOPI.mk (λm us w'=>∃ (ga:Nat) (out:List Nat) (ag:Bool),us=[.pointer (some ⟨ga,0,none⟩)]/\m=(n*63-out.sum)+(if ag then 1 else 0)/\HW w w' gm go g ga n v1 out ag/\HP c out false out 0/\(ag=false->out=zqr c)) (n*63-out.sum+1) ⟨ga,out,true,rfl,rfl,j5,hG,λe=>by cases e⟩ ?_;rintro m u _ ⟨ga,out,ag,hu,hm,gj,hJ,gP⟩;try replace hu:=zbv hu
 rw [hu];have j6:=hJ.sum_le;rw [hnn] at j6;refine zaj ty4 gj.agn rfl<|zaN (λgQ=>?_) (λgQ=>?_)
 case refine_2=>refine zaj zcn gj.var rfl ?_;rw [<-gP gQ];exact ⟨gj.ext,[g],gj.mine,λb hb=>by simp only [qaa,qag,qaz] at hb;omega⟩
 rw [gQ,qah rfl] at hm;refine zaW (α:=Raw) (lo:=0) (hi:=0) ty4 rfl rfl gj.agn ss (zcY rfl) λ_ j7 j8=>?_;have hK:=gj.agains j7.one j8;refine za9 (v:=.func (.func 217) #[] #[.pointer (some ⟨gm,0,none⟩),.pointer (some ⟨go,0,none⟩),.pointer (some ⟨ga,0,none⟩)]) (λw' _=>by simp [Instr.makeFunc])<|NIL.mk rfl<|zaa zbc<|zaa zaH<|zab zcQ (zao D) (e0.t hK.ext) λ_ hL=>zae u32 hL ?_;rw [hnn];refine zar n (λk us w'=>∃ (out':List Nat) (ag':Bool),us=[.int .i64 (k:Int)]/\k<=n/\HW w w' gm go g ga n v1 out' ag'/\HP c out ag' out' k) 0 (z0 _) ⟨out,false,rfl,z0 _,hK,hJ⟩ ?_;rintro k mk u w8 _ ⟨C,gb,hu,_,gc,M⟩;try replace hu:=zbv hu
 rw [hu];refine zah<|br (λj9=>?_) (λja=>?_)
 case refine_2=>
   have jb:k=n:=oo;rw [jb] at M;refine zaj ty4 gc.agn rfl<|zgS zCZ ty4 rfl λw9 gR jc=>?_;have gS:=M.sum_le;rw [hnn] at gS;refine ⟨(n*63-C.sum)+(if gb then 1 else 0),?_,_,C,gb,rfl,rfl,gc.cell gR jc (lr _),M.again,λe=>?_⟩
   . cases gb with
     | true=>have:=M.yes rfl;simp;omega
     | false=>rw [(M.no rfl).1];simp;omega
   rw [e,<-hnn] at M;exact M.fin hc
 have hk:k<n:=oo;have gd:k<c.ins.length:=oo;have gT:C.length=n:=by rw [M.len,hnn]
 refine zac u32 zdw hL gd λ_ _ hM=>?_;rw [zaR] at hM;refine zab zdw hM (e0.t gc.ext) λ_ hN=>zbN zsM rfl zdw rfl hN (e0.t gc.ext) λw9 gR gJ hO=>?_;have g3:=gc.step gR;have gU:=zcV hN hO rfl;have hQ:(zg9 c).length=n:=by unfold zg9;rw [zam,hnn]
 have jd:=zaM (n:=c.ins.length) (p:=MetP c) (i:=k);have je:=zaZ (ms:=zg9 c) (i:=k) (by rw [hQ];exact hk)
 have gn:(zg9 c)[k]=true↔MetP c k:=by
   rw [<-je];unfold zg9;rw [jd];exact ⟨λh=>h.2,λh=>⟨oo,h⟩⟩
 refine zaj zcR g3.met rfl<|zac zdj ty4 (i:=k) hv (by rw [hQ];exact hk) λ_ _ jf=>zaC ty4 jf (e1.trans g3.ext)<|zau<|zaN (λhf=>?_) (λhf=>?_)
 . have jg:¬MetP c k:=λh=>by rw [gn.2 h] at hf;cases hf
   refine zaw<|⟨mk-1,oo,k+1,oo,C,gb,rfl,oo,g3,M.next λ_ h=>absurd h jg⟩
 have gK:MetP c k:=gn.1 (by simpa using hf);have O:=M.lt0 k;refine zaj zcn g3.var rfl<|zac u31 ty3 (i:=k) g3.mine.is (by rw [zaf,gT];exact hk) λb5 o5 gp=>?_;rw [zaS] at gp;refine zad ty3 gp (xrf _) λ_=>?_;have gV:gb=false->zax C k=zax out k:=λe=>by rw [(M.no e).1]
 have gq:∀ l,l<6->(zax C k).testBit l=true->MayP c k l:=λl hl hb=>(M.snd k l gd hb).1;generalize hh0:zax C k=h0 at *;refine JOIN.mk (λus w'=>∃ (m:Nat) (out':List Nat) (ag':Bool),us=[.int .i64 (m:Int)]/\HW w w' gm go g ga n v1 out' ag'/\HP c out ag' out' k/\m<64/\CR c out k h0 m ag'/\((zap c k).op=4->zhR h0 (zax out' (eN c (agN c k))))/\∀ l,l<6->m.testBit l=true->∀ j∈zaE c k,MayP c j l) ?_ ?_
 . have U:aft c [] k h0=if (zap c k).op=6 then h0 ||| 2^agN c k else if (zap c k).op=7 then zkQ h0 (2^agN c k) else if (zap c k).op=4 then (h0 &&& (tbl [] (agN c k)).1) ||| (tbl [] (agN c k)).2 else h0:=rfl
   have gH:¬(zap c k).op=4->∀ w',HW w w' gm go g ga n v1 C gb->aft c [] k h0<64->∃ (m:Nat) (out':List Nat) (ag':Bool),[Value.int .i64 (aft c [] k h0:Nat)]=[.int .i64 (m:Int)]/\HW w w' gm go g ga n v1 out' ag'/\HP c out ag' out' k/\m<64/\CR c out k h0 m ag'/\((zap c k).op=4->zhR h0 (zax out' (eN c (agN c k))))/\∀ l,l<6->m.testBit l=true->∀ j∈zaE c k,MayP c j l:=λh4 w' jh gW=>
     ⟨_,C,gb,rfl,jh,M,gW,λe=>⟨gV e,λh=>absurd h h4,λ_=>by rw [gV e]⟩,λh=>absurd h h4,λl hl hb j hj=>zxA h4 gK hj (gq l hl) hb⟩
   refine zaa zbE<|zad ty3 (zaD gJ) (xrf _) λ_=>zag<|br (λc6=>?_) (λc6=>?_)
   . obtain ⟨ha,_,hq⟩:=zdA hc gd (.inl c6);have hp:=zfW hq;rw [qah c6] at U;refine zaa zbG<|zad ty3 (zaF gJ) (xrf _) λ_=>?_;rw [ha];refine zcc kK zlh oo<|zeH oo<|zhb (m:=h0) (n:=2^agN c k) oo oo ?_;have:=gH oo w9 g3 (by rw [U];exact zxh O hq);rw [U] at this;exact this
   rw [qad c6] at U;refine zag<|br (λc7=>?_) (λc7=>?_)
   . obtain ⟨ha,_,hq⟩:=zdA hc gd (.inr c7);have hp:=zfW hq;rw [qah c7] at U;refine zaa zbG<|zad ty3 (zaF gJ) (xrf _) λ_=>?_;rw [ha];refine zcc kK zlh oo<|zeH oo<|zho (m:=h0) (n:=2^agN c k) oo oo ?_;have:=gH oo w9 g3 (by rw [U];exact qaN (ziu _ _) O);rw [U] at this;exact this
   rw [qad c7] at U;refine zag<|br (λc4=>?_) (λc4=>?_)
   . obtain ⟨hR,hS⟩:=zcl hc gd (.inl c4);have gX:agN c k<c.entry.length:=by rw [hc.2.1.1];exact hS
     obtain ⟨ji,jj,_⟩:=zgP hc gX;obtain ⟨jk,_,_⟩:=zeT hc hS;have gL:=zai w9;have g4:=g3.step gL;generalize World.drew1 w9=w10 at *;refine NIL.mk rfl<|zaa zbc<|zaa zbj<|zab zcn (zav D) (e0.t g4.ext) λ_ jl=>zaa zbG<|zad ty3 (zaF gJ) gL λ_=>?_;rw [hR];refine zac u31 ty3 jl gX λb5 o5 gp=>?_;rw [zbK gX,ji] at gp;refine zad ty3 gp (e0.t g4.ext) λ_=>zmg (args:=[_,_]) (caps:=[_,_,_]) zBk ((zxO (i:=eN c (agN c k)) (m:=h0) g4 hv (e1.trans g4.ext) hnn oo gT M.lt O).mono ?_);rintro _ hT ⟨rfl,V,gY,gZ,h5,gf⟩;have jm:MetP c (eN c (agN c k)):=.call gK c4;have Z:=gf.hp M jj O λl hl hb=>.call gK c4 (gq l hl hb);have jn:=gf.sub (by rw [gT];omega) jm;have gr:=zai hT;have g0:=gZ.step gr;have jo:w8.heap.size<w10.heap.size:=by have:=hO.lt;have:=gL.size;omega
     have jp:w8.heap.size∉[g,ga]:=by have h1:=gc.mine.lt g ss;have h2:=gc.agn.lt;simp;omega
     have gs:=(gU.ext gL).keep (h5.block _ jo jp);have gt:=(gs.ext gr).at (e0.t g0.ext);generalize World.drew1 hT=w12 at *;refine zaj zcn g0.var rfl<|NIL.mk rfl<|zaa zbc<|zab zbO D (e0.t g0.ext) λ_ jq=>zaa zbG<|zad ty3 (zaF gt) (xrf _) λ_=>?_;rw [hR];refine (zdO jq (e0.t g0.ext) oo).mono ?_;rintro _ _ ⟨gx,rfl⟩;refine ⟨gx,?_⟩;have gy:=g0.step gx;rw [jk];refine zbp io ?_;rw [show ((zN c (agN c k)+1:Nat):Int)-1=(zN c (agN c k):Int) by omega];have h6:V.length=n:=by rw [Z.len,hnn]
     refine zac u31 ty3 (i:=zN c (agN c k)) gy.mine.is (by rw [zaf,h6];omega) λ_ _ hU=>?_;rw [zaS] at hU;refine zad ty3 hU (xrf _) λ_=>⟨zax V (zN c (agN c k)),V,gY,rfl,gy,Z,Z.lt0 _,λe=>⟨gV (gf.ag e),λ_=>by rw [(Z.no e).1],λh=>absurd c4 h⟩,λ_=>jn,λl hl hb j hj=>?_⟩;have:=Z.snd _ l oo hb;exact .back gK c4 this.2 this.1 hj
   rw [qad c4] at U;have:=gH c4 w9 g3 (by rw [U];exact O);rw [U] at this;exact this
 rintro us jr ⟨m,gz,h9,hd,g5,he,gA,hr,hs,ht⟩;try replace hd:=zbv hd
 rw [hd];refine (zi9 D (e0.t g5.ext) hc gd).mono ?_;rintro js jt ⟨hw,gB⟩;have hx:=g5.step hw;have hl2:=zfk c k;have ju:=λ{j:Nat} (hj:j∈zaE c k)=>(zdg hc gd hj).1;have gg:=λ{out:List Nat} {o:List Nat} {ag:Bool} (hP:HP c out ag o k)=>HP.close (h0:=h0) (m:=m) hP;generalize hNx:zaE c k=N at *;refine zae u31 gB.is ?_;rw [zaf];refine zar N.length (λq us w'=>∃ (out':List Nat) (ag':Bool),us=[.int .i64 (q:Int)]/\q<=N.length/\HW w w' gm go g ga n v1 out' ag'/\HP c out ag' out' k/\CR c out k h0 m ag'/\((zap c k).op=4->zhR h0 (zax out' (eN c (agN c k))))/\(∀ j∈N.take q,MetP c j->zhR m (zax out' j))/\OwnI jr.heap.size jt.heap.size w' js (zaK N)) 0 (z0 _) ⟨gz,h9,rfl,z0 _,hx,he,hr,hs,ss,gB.toI⟩ ?_;rintro q mq u _ _ ⟨g1,hy,hu,_,gh,g9,gC,gD,gi,gE⟩;try replace hu:=zbv hu
 rw [hu];refine zah<|br (λj9=>?_) (λja=>?_)
 case refine_2=>refine zaw ?_;rw [qai oo] at gi;exact ⟨mk-1,oo,k+1,oo,g1,hy,rfl,oo,gh,gg g9 gC gD (hNx▸gi)⟩
 have hq:q<N.length:=oo;refine zac u31 ty3 (i:=q) gE.is (by rw [zaf];exact hq) λ_ _ hV=>?_;rw [zaY] at hV;refine zad ty3 hV (xrf _) λ_=>?_;have jv:=λx=>zbC hq (x:=x);have hj:=qac hq;have jw:=ju hj;have jx:=λl hl hb=>ht l hl hb _ hj;generalize N[q]=j at *;have hz:g1.length=n:=by rw [g9.len,hnn]
 refine zmg (args:=[_,_]) (caps:=[_,_,_]) zBk ((zxO (i:=j) (m:=m) gh hv (e1.trans gh.ext) hnn oo hz g9.lt gA).mono ?_);rintro _ _ ⟨rfl,gF,hA,hB,hC,g2⟩;refine zaw ?_;have jy:=g5.mine.lt g ss;have hX:=g5.agn.lt;have hD:j<g1.length:=oo;refine ⟨mq-1,oo,q+1,oo,gF,hA,rfl,oo,hB,g2.hp g9 jw gA jx,λe=>gC (g2.ag e),λh4=>g2.mono hD (gD h4),λi hi hY=>?_,gE.chgF hC so⟩;rcases (jv i).1 hi with h | h
 . exact g2.mono hD (gi i h hY)
 subst h;exact g2.sub hD hY
end Go.Proofs.YtkgiigmcbgifdaaGreatDoor
namespace Go.Sh
open Rep (rep)
def zgq {α:Type} [Rep α] {w:wD} {g e o:Nat} {cs:List vL} {v:vL} {l:List α} (hB:Blk g e w cs) (ho:cs[o]?=some v) (h:Is w v l):At w g o l:=by
 obtain ⟨F,_,hr,rfl⟩:=h;have g0:=hr;obtain ⟨_,_,_,_,rfl,h⟩:=hr;refine ⟨F,_,g0,λi _ hi=>?_⟩
 have:i=0:=by
   cases i with
   | zero=>rfl
   | succ i=>simp at hi
 subst this;simp only [List.getElem?_cons_zero,qaq] at hi;subst hi;have:=hB.range o _ ho;rw [qba] at this;exact this
end Go.Sh
namespace Go.Proofs.YtkgiigmcbgifdaaGreatDoor
open Go Go.Sh Go.Proofs
open Rep (rep)
variable {W0 w:wD} {c:DCode} {h0 i k m:Nat} {nw:Bool} {out:List Nat} {v v0:vL}
def znG (h:Is w v c):∃ a0 a1 a2 a3 a4 n0 n1 n2 n3 n4 k0 k1 k2 k3 k4,v=.agg #[.slice a0 n0 k0,.slice a1 n1 k1,.slice a2 n2 k2,.slice a3 n3 k3,.slice a4 n4 k4]:=by
 obtain ⟨_,_,hr,rfl⟩:=h;obtain ⟨_,_,_,_,_,_,_,_,_,_,rfl,rfl,⟨_,_,_,_,rfl,_⟩,⟨_,_,_,_,rfl,_⟩,⟨_,_,_,_,rfl,_⟩,⟨_,_,_,_,rfl,_⟩,⟨_,_,_,_,rfl,_⟩⟩:=zpM hr;exact ⟨_,_,_,_,_,_,_,_,_,_,_,_,_,_,_,rfl⟩
structure LP (c:DCode) (ms0:List Bool) (out0:List Nat) (nw:Bool) (ms:List Bool) (out:List Nat) (k:Nat):Prop where
 len:ms.length=c.ins.length
 leno:out.length=c.ins.length
 lt:∀ x∈out,x<64
 snd:∀ i,mkd ms i->MetP c i
 sndm:∀ i l,i<c.ins.length->(zax out i).testBit l=true->MayP c i l
 root:∀ p,RootP c p->mkd ms (eN c p)
 yes:nw=true->zkO ms0+out0.sum<zkO ms+out.sum
 no:nw=false->ms=ms0/\out=out0/\∀ i,i<k->mkd ms0 i->MC c ms0 i/\((zap c i).op=4->zhR (zax out0 i) (zax out0 (eN c (agN c i)))/\(mkd ms0 (zN c (agN c i))->∀ j∈zaE c i,zhR (zax out0 (zN c (agN c i))) (zax out0 j)))/\(¬(zap c i).op=4->∀ j∈zaE c i,zhR (aft c [] i (zax out0 i)) (zax out0 j))
def LP.lt0 {ms0 ms:List Bool} {out0 out:List Nat} (h:LP c ms0 out0 nw ms out k) (i:Nat):zax out i<64:=zdI h.lt i
def zyC (ms:List Bool) (out:List Nat) (nw:Bool) (i m:Nat):Bool:=nw || !(ms.getD i false&&decide (zax out i ||| m=zax out i))
def ztI {ms:List Bool} (h:mkd ms i) (h2:zax out i ||| m=zax out i):zyC ms out nw i m=nw:=by
 unfold mkd at h;unfold zyC;rw [h,decide_eq_true h2];simp
def zpc {ms:List Bool} (h:¬(mkd ms i/\zax out i ||| m=zax out i)):zyC ms out nw i m=true:=by
 unfold mkd at h;unfold zyC;cases e:ms.getD i false
 . simp
 have:¬(zax out i ||| m=zax out i):=λh2=>h ⟨e,h2⟩;rw [decide_eq_false this];simp
def zpd (h:i<out.length):out.set i (zax out i)=out:=by rw [<-zbh h];exact qc6 h
def zxP {ms:List Bool}:zkO ms<=zkO (ms.set i true):=by
 by_cases h:i<ms.length
 . by_cases hk:mkd ms i
   . rw [zme hk];exact qaE _
   rw [zi8 h hk];omega
 rw [qcU oo];exact qaE _
theorem LP.put {g2 ms:List Bool} {out0 out:List Nat} (h:LP c g2 out0 nw ms out k) (hi:i<c.ins.length) (hm:m<64) (g0:MetP c i) (g1:∀ l,l<6->m.testBit l=true->MayP c i l) :
   LP c g2 out0 (zyC ms out nw i m) (ms.set i true) (out.set i (zax out i ||| m)) k:=by
 by_cases hk:mkd ms i/\zax out i ||| m=zax out i
 . rw [ztI hk.1 hk.2,zme hk.1,hk.2,zpd (by rw [h.leno];exact hi)];exact h
 rw [zpc hk];have g3:=h.lt0 i;have:=zjW (l:=out) (i:=i) (v:=zax out i ||| m) (by rw [h.leno];exact hi);have:zax out i<=zax out i ||| m:=Nat.left_le_or;have:=zxP (ms:=ms) (i:=i);refine ⟨by simp [h.len],by simp [h.leno],λx hx=>?_,λj hj=>?_,λj l hj hb=>?_,λp hp=>zfN (h.root p hp),λ_=>?_,λe=>by cases e⟩
 . rcases zit hx with rfl | hx
   . exact zo4 hm g3
   exact h.lt x hx
 . rcases (zdc (by rw [h.len];exact hi)).1 hj with h4 | h4
   . exact h.snd j h4
   rw [h4];exact g0
 . rw [zb6 (by rw [h.leno];exact hi)] at hb;split at hb
   . rename_i e;subst e;rw [qaX,qaQ] at hb;rcases hb with hb | hb
     . exact h.sndm i l hj hb
     exact g1 l (zgN hm hb) hb
   exact h.sndm j l hj hb
 have g4:zkO ms+out.sum<zkO (ms.set i true)+(out.set i (zax out i ||| m)).sum:=by
   by_cases hk1:mkd ms i
   . have:=zzt λe=>hk ⟨hk1,e⟩;omega
   have:=zi8 (by rw [h.len];exact hi) hk1;omega
 cases nw with
 | true=>have:=h.yes rfl;omega
 | false=>rw [<-(h.no rfl).1,<-(h.no rfl).2.1];exact g4
def zxQ {ms:List Bool} (e:zyC ms out nw i m=false):nw=false:=by
 unfold zyC at e;cases nw<;>simp_all
def zxR {i j m x:Nat} (hi:i<out.length) (hx:zhR x (zax out j)):zhR x (zax (out.set i (zax out i ||| m)) j):=by
 rw [zb6 hi];split
 . rename_i e;subst e;exact zmf hx
 exact hx
def zkt (hi:i<out.length):zhR m (zax (out.set i (zax out i ||| m)) i):=by
 rw [zb6 hi,qah rfl];exact zBi
def LP.fin (hc:CodeR c) {g2 ms:List Bool} {out0 out:List Nat} (h:LP c g2 out0 false ms out c.ins.length):ms=zg9 c/\out=zqr c:=by
 obtain ⟨h1,h2,h3⟩:=h.no rfl;rw [<-h1,<-h2] at h3;have hT:TP c ms false ms c.ins.length:=⟨h.len,h.snd,h.root,λe=>(by cases e),λ_=>⟨rfl,λi hi hm=>(h3 i hi hm).1⟩⟩;have g0:=hT.fin hc;have g1:∀ i,MetP c i->mkd ms i:=λi hi=>by rw [g0];exact zaM.2 ⟨hi.lt hc,hi⟩
 exact ⟨g0,zxB hc h.leno h.lt h.sndm λi hm=>by
   have:=(h3 i (hm.lt hc) (g1 i hm)).2;exact ⟨λh4=>⟨(this.1 h4).1,λhz=>(this.1 h4).2 (g1 _ hz)⟩,this.2⟩⟩
def LP.again {ms0 ms:List Bool} {out0 out:List Nat} (h:LP c ms0 out0 nw ms out k):LP c ms out false ms out 0:=
 ⟨h.len,h.leno,h.lt,h.snd,h.sndm,h.root,λe=>(by cases e),λ_=>⟨rfl,rfl,λi hi=>oo⟩⟩
def LP.skip {ms0 ms:List Bool} {out0 out:List Nat} (h:LP c ms0 out0 nw ms out k) (hk:¬mkd ms k):LP c ms0 out0 nw ms out (k+1):=
 ⟨h.len,h.leno,h.lt,h.snd,h.sndm,h.root,h.yes,λe=>⟨(h.no e).1,(h.no e).2.1,λi hi hm=>by
   by_cases e2:i=k
   . subst e2;rw [(h.no e).1] at hk;exact absurd hm hk
   exact (h.no e).2.2 i oo hm⟩⟩
def LP.close {ms0 ms:List Bool} {out0 out:List Nat} (h:LP c ms0 out0 nw ms out k) (hC:CR c out0 k h0 m nw) (h1:(zap c k).op=4->mkd ms (eN c (agN c k))/\zhR h0 (zax out (eN c (agN c k))))
   (h2:((zap c k).op=4->mkd ms (zN c (agN c k)))->∀ j∈zaE c k,mkd ms j/\zhR m (zax out j)):LP c ms0 out0 nw ms out (k+1):=
 ⟨h.len,h.leno,h.lt,h.snd,h.sndm,h.root,h.yes,λe=>by
   obtain ⟨o1,o2,o3⟩:=h.no e;refine ⟨o1,o2,λi hi hm=>?_⟩;by_cases e2:i=k
   . subst e2;obtain ⟨c1,c2,c3⟩:=hC e;rw [o1,o2] at h1;rw [o1,o2] at h2;refine ⟨⟨λh4=>⟨(h1 h4).1,λhz j hj=>(h2 (λ_=>hz) j hj).1⟩,λh4 j hj=>(h2 (λh=>absurd h h4) j hj).1⟩,λh4=>⟨c1▸(h1 h4).2,λhz j hj=>c2 h4▸(h2 (λ_=>hz) j hj).2⟩,λh4 j hj=>c3 h4▸(h2 (λh=>absurd h h4) j hj).2⟩
   exact o3 i oo hm⟩
structure LW (w1 w:wD) (gw g h n:Nat) (kc:List vL) (ms:List Bool) (out:List Nat) (nw:Bool):Prop where
 ext:Ext w1 w
 blk:Blk gw 215 w (kc++[.slice (some ⟨g,0,none⟩) n n,.slice (some ⟨h,0,none⟩) n n,.bool nw])
 mks:Mine [g] w (.slice (some ⟨g,0,none⟩) n n) ms
 mine:Mine [h] w (.slice (some ⟨h,0,none⟩) n n) (zaK out)
 k5:kc.length=5
 n1:gw≠g
 n2:gw≠h
 n3:g≠h
 g0:w1.heap.size<=gw
 g1:w1.heap.size<=g
 g2:w1.heap.size<=h
section
variable {w1 w w':wD} {gw g h n:Nat} {kc:List vL} {ms:List Bool} {out:List Nat} {nw:Bool}
def LW.step (H:LW w1 w gw g h n kc ms out nw) (hx:Ext w w'):LW w1 w' gw g h n kc ms out nw:=⟨H.ext.trans hx,H.blk.ext hx,H.mks.ext hx,H.mine.ext hx,H.k5,H.n1,H.n2,H.n3,H.g0,H.g1,H.g2⟩
def LW.c5 (H:LW w1 w gw g h n kc ms out nw):(kc++[Value.slice (some ⟨g,0,none⟩) n n,.slice (some ⟨h,0,none⟩) n n,.bool nw])[5]?=some (.slice (some ⟨g,0,none⟩) n n):=by rw [List.getElem?_append_right (by rw [H.k5];omega),H.k5];rfl
def LW.c6 (H:LW w1 w gw g h n kc ms out nw):(kc++[Value.slice (some ⟨g,0,none⟩) n n,.slice (some ⟨h,0,none⟩) n n,.bool nw])[6]?=some (.slice (some ⟨h,0,none⟩) n n):=by rw [List.getElem?_append_right (by rw [H.k5];omega),H.k5];rfl
def LW.c7 (H:LW w1 w gw g h n kc ms out nw):(kc++[Value.slice (some ⟨g,0,none⟩) n n,.slice (some ⟨h,0,none⟩) n n,.bool nw])[7]?=some (.bool nw):=by rw [List.getElem?_append_right (by rw [H.k5];omega),H.k5];rfl
def LW.mark {ms':List Bool} (H:LW w1 w gw g h n kc ms out nw) (hc:Chg [g] w w') (hm:Mine [g] w' (.slice (some ⟨g,0,none⟩) n n) ms'):LW w1 w' gw g h n kc ms' out nw:=
 ⟨H.ext.chgF hc (by simp [H.g1]),H.blk.chgF hc (by simp [H.n1]),hm,H.mine.keep λb hb=>by
   simp only [qaa,qag,qaz] at hb;subst hb;exact hc.block b (H.mine.lt b ss) (by simp [Ne.symm H.n3]),H.k5,H.n1,H.n2,H.n3,H.g0,H.g1,H.g2⟩
def LW.set {i v:Nat} (H:LW w1 w gw g h n kc ms out nw) (hc:Chg [h] w w') (hm:Mine [h] w' (.slice (some ⟨h,0,none⟩) n n) ((zaK out).set i (v:Int))):LW w1 w' gw g h n kc ms (out.set i v) nw:=
 ⟨H.ext.chgF hc (by simp [H.g2]),H.blk.chgF hc (by simp [H.n2]),H.mks.keep λb hb=>by
   simp only [qaa,qag,qaz] at hb;subst hb;exact hc.block b (H.mks.lt b ss) (by simp [H.n3]),by rw [zgO];exact hm,H.k5,H.n1,H.n2,H.n3,H.g0,H.g1,H.g2⟩
def LW.news {g3:Bool} (H:LW w1 w gw g h n kc ms out nw) (hc:Chg [gw] w w') (hB:Blk gw 215 w' ((kc++[Value.slice (some ⟨g,0,none⟩) n n,.slice (some ⟨h,0,none⟩) n n,.bool nw]).set 7 (.bool g3))):LW w1 w' gw g h n kc ms out g3:=by
 have e:(kc++[Value.slice (some ⟨g,0,none⟩) n n,.slice (some ⟨h,0,none⟩) n n,.bool nw]).set 7 (.bool g3)=kc++[Value.slice (some ⟨g,0,none⟩) n n,.slice (some ⟨h,0,none⟩) n n,.bool g3]:=by
   rw [qbz _ _ (by rw [H.k5];omega),H.k5];rfl
 rw [e] at hB
 exact ⟨H.ext.chgF hc (by simp [H.g0]),hB,H.mks.keep λb hb=>by
   simp only [qaa,qag,qaz] at hb;subst hb;exact hc.block b (H.mks.lt b ss) (by simp [Ne.symm H.n1]),H.mine.keep λb hb=>by
   simp only [qaa,qag,qaz] at hb;subst hb;exact hc.block b (H.mine.lt b ss) (by simp [Ne.symm H.n2]),H.k5,H.n1,H.n2,H.n3,H.g0,H.g1,H.g2⟩
def LW.l8 (H:LW w1 w gw g h n kc ms out nw):7<(kc++[Value.slice (some ⟨g,0,none⟩) n n,.slice (some ⟨h,0,none⟩) n n,.bool nw]).length:=by simp [H.k5]
def zmo {i m:Nat} (H:LW w1 w gw g h n kc ms out nw) (hi:i<n) (hl:ms.length=n) (O:out.length=n) (gg:∀ x∈out,x<64) (hm:m<64) :
   CALL tp 237 [.pointer (some ⟨gw,0,none⟩),.int .i64 (i:Int),.int .i64 (m:Int)] w λr w'=>r=.tuple #[]/\LW w1 w' gw g h n kc (ms.set i true) (out.set i (zax out i ||| m)) (zyC ms out nw i m)/\Chg [gw,g,h] w w':=by
 refine co (g:=kf [] [] [(0,[0,1,2,3,4,5,6,7,8,9,10,11,12,13,14,15,16,17,18,19,20,21,22,23,24,25,26],0),(2,[0,1,2,3,4,5,6,7,8,9,10,11,12,13,14,15],0)]) Tryz.func237 ?_;have g2:=zdI gg i;have:=zo4 hm g2;have M:=zai w;have H1:=H.step M;have g3:Chg [gw,g,h] w (World.drew1 w):=⟨M.os,M.tape,M.output,M.size,λb hb _=>M.block b hb⟩;generalize World.drew1 w=wd at *;have gc:=zaZ (ms:=ms) (i:=i) (by rw [hl];exact hi);refine NIL.mk rfl<|zaa zif<|zaj zcR H1.blk H1.c5<|zac zdj ty4 H1.mks.is (by rw [hl];exact hi) λb1 o1 g1=>zaC ty4 g1 (xrf _)<|zau ?_
 have gd:∀ {w':wD} {K:vL->Prop} (H:LW w1 w' gw g h n kc ms out nw) (k:K (.int .i64 (zax out i:Int))),RD tp (Instr.indexAt 31 (.slice (some ⟨h,0,none⟩) n n) (.int .i64 (i:Int))) w' λgh=>RD tp (Instr.loadAt 3 gh) w' K:=λH k=>by
   refine zac u31 ty3 (i:=i) H.mine.is (by rw [zaf,O];exact hi) λb1 o1 g1=>?_;rw [zaS] at g1;exact zad ty3 g1 (xrf _) λ_=>k
 refine zaN (λhf=>?_) (λhf=>?_)
 . have D:¬(mkd ms i/\zax out i ||| m=zax out i):=λhh=>by rw [gc.1 hh.1] at hf;cases hf
   rw [zpc D];refine NIL.mk rfl<|zaa zif<|zaj zcR H1.blk H1.c5<|zb5 (α:=Bool) rfl zdj ty4 hi<|zbm (α:=Bool) rfl ty4 H1.mks hl hi zbM λw2 U g4=>?_;have H2:=H1.mark U g4;have C:=zai w2;have H3:=H2.step C;have g5:Chg [gw,g,h] w2 (World.drew1 w2):=⟨C.os,C.tape,C.output,C.size,λb hb _=>C.block b hb⟩;generalize World.drew1 w2=w3 at *;refine NIL.mk rfl<|zaa zgB<|zaj zcn H3.blk H3.c6<|NIL.mk rfl<|zaa zgB<|zaj zcn H3.blk H3.c6<|zac u31 ty3 (i:=i) H3.mine.is (by rw [zaf,O];exact hi) λb4 o4 V=>?_;rw [zaS] at V;refine zad ty3 V (xrf _) λ_=>zhb (m:=zax out i) (n:=m) oo oo<|zb5 (α:=Int) rfl u31 ty3 hi<|zbm (α:=Int) rfl ty3 H3.mine (by rw [zaf,O]) hi (zbS (v:=zax out i ||| m) oo) λw4 Z g9=>?_;have H4:=H3.set (v:=zax out i ||| m) Z g9;refine NIL.mk rfl<|zaa zoj<|zaW (α:=Raw) (lo:=0) (hi:=0) ty4 rfl rfl H4.blk H4.l8 (zcY rfl) λw5 g0 gb=>⟨rfl,H4.news g0.one gb,(((g3.trans (U.mono ss)).trans g5).trans (Z.mono ss)).trans (g0.one.mono ss)⟩
 have gf:mkd ms i:=by rw [gc];simpa using hf
 refine NIL.mk rfl<|zaa zgB<|zaj zcn H1.blk H1.c6<|gd H1<|zhb (m:=zax out i) (n:=m) oo oo<|NIL.mk rfl<|zaa zgB<|zaj zcn H1.blk H1.c6<|gd H1<|zaJ<|br (λgi=>?_) (λgj=>?_)
 . have D:¬(mkd ms i/\zax out i ||| m=zax out i):=λhh=>gi (by rw [hh.2]);rw [zpc D];refine NIL.mk rfl<|zaa zif<|zaj zcR H1.blk H1.c5<|zb5 (α:=Bool) rfl zdj ty4 hi<|zbm (α:=Bool) rfl ty4 H1.mks hl hi zbM λw2 U g4=>?_;have H2:=H1.mark U g4;have C:=zai w2;have H3:=H2.step C;have g5:Chg [gw,g,h] w2 (World.drew1 w2):=⟨C.os,C.tape,C.output,C.size,λb hb _=>C.block b hb⟩;generalize World.drew1 w2=w3 at *;refine NIL.mk rfl<|zaa zgB<|zaj zcn H3.blk H3.c6<|NIL.mk rfl<|zaa zgB<|zaj zcn H3.blk H3.c6<|zac u31 ty3 (i:=i) H3.mine.is (by rw [zaf,O];exact hi) λb4 o4 V=>?_;rw [zaS] at V;refine zad ty3 V (xrf _) λ_=>zhb (m:=zax out i) (n:=m) oo oo<|zb5 (α:=Int) rfl u31 ty3 hi<|zbm (α:=Int) rfl ty3 H3.mine (by rw [zaf,O]) hi (zbS (v:=zax out i ||| m) oo) λw4 Z g9=>?_;have H4:=H3.set (v:=zax out i ||| m) Z g9;refine NIL.mk rfl<|zaa zoj<|zaW (α:=Raw) (lo:=0) (hi:=0) ty4 rfl rfl H4.blk H4.l8 (zcY rfl) λw5 g0 gb=>⟨rfl,H4.news g0.one gb,(((g3.trans (U.mono ss)).trans g5).trans (Z.mono ss)).trans (g0.one.mono ss)⟩
 have he:zax out i ||| m=zax out i:=qa7.1 (qaf.1 gj);rw [ztI gf he,zme gf,he,zpd (by rw [O];exact hi)];exact ⟨rfl,H1,g3⟩
end
def lkQ (c:DCode) (g1 n:Nat) (w0:wD):ParQ:=λi u T w=>match i with
 | 0=>Is w0 (u 12) c
 | 1=>u 13=.pointer (some ⟨g1,0+4,none⟩)
 | 2=>Is w0 (u 14) c.ins
 | 3=>u 15=.int .i64 (n:Int)
 | 4=>∃ g,u 16=.slice (some ⟨g,0,none⟩) n n/\(T 4).1<=g/\g<(T 4).2/\Mine [g] w (.slice (some ⟨g,0,none⟩) n n) (List.replicate n false)
 | 5=>u 17=.pointer (some ⟨g1,0+4,none⟩)
 | 6=>Is w0 (u 18) c.ins
 | 7=>u 19=.int .i64 (n:Int)
 | 8=>∃ g,u 20=.slice (some ⟨g,0,none⟩) n n/\(T 8).1<=g/\g<(T 8).2/\Mine [g] w (.slice (some ⟨g,0,none⟩) n n) (zaK (List.replicate n 0))
 | _=>True
def zqD (h0:Is W0 v0 c) (e0:Ext W0 w) (hc:CodeR c) :
   CALL tp 174 [v0] w λr w'=>Ext w w'/\∃ gw,r=.pointer (some ⟨gw,0,none⟩)/\At w' gw (0+5) (zg9 c)/\At w' gw (0+6) (zaK (zqr c)):=by
 refine co (g:=⟨extL,[(25,5316911983139587933751502326797959936,[8])],[(4,4397979402272,[5]),(7,348449143727040986586495598005732602023872,[]),(10,348449143727040986586495597447180695113664,[6]),(27,348406608431175869278562676184201677506560,[11])],[(6,[0,1,2,3,4,5,6,7,8,9],0)],[(1,8384520,9)],[],[]⟩) Tryz.func174 ?_;have h8:=hc.1.procs8;have je:=hc.f.ins;have hz0:=(zeT hc h8.2).2.2;have gr:=HP.start (c:=c);refine zbk h0 e0 λw1 hO hA=>?_;have hs1:=hO.size;have hn:c.ins.length=c.ins.length:=rfl;generalize hnn:c.ins.length=n at hn;rw [hnn] at je gr;have V:=zai w1;refine PAR.mk (lkQ c w.heap.size n (World.drew1 w1)) ?_ ?_ ?_
 . intro i u u' T _ _ _ _ hQ hd hq
   match i,hd,hq with
   | 0,hd,hq=>have:=(hd (0,12) dD).1;show Is _ (u' 12) _;simp only [this];exact hq
   | 1,hd,hq=>exact (hd (1,13) dD).1.trans hq
   | 2,hd,hq=>have:=(hd (2,14) dD).1;show Is _ (u' 14) _;simp only [this];exact hq
   | 3,hd,hq=>exact (hd (3,15) dD).1.trans hq
   | 4,hd,⟨g,q1,q2,q3,q4⟩=>
     obtain ⟨e1,e2⟩:=hd (4,16) dD;simp only at e1 e2;exact ⟨g,e1.trans q1,by rw [e2];exact q2,by rw [e2];exact q3,q4.ext hQ⟩
   | 5,hd,hq=>exact (hd (5,17) dD).1.trans hq
   | 6,hd,hq=>have:=(hd (6,18) dD).1;show Is _ (u' 18) _;simp only [this];exact hq
   | 7,hd,hq=>exact (hd (7,19) dD).1.trans hq
   | 8,hd,⟨g,q1,q2,q3,q4⟩=>
     obtain ⟨e1,e2⟩:=hd (8,20) dD;simp only at e1 e2;exact ⟨g,e1.trans q1,by rw [e2];exact q2,by rw [e2];exact q3,q4.ext hQ⟩
   | n+9,_,_=>trivial
 . refine ⟨λu T w' hx _ _=>?_,λu T w' hx _ _=>?_,λu T w' hx _ hp=>?_,λu T w' hx _ hp=>?_,λu T w' hx _ hp=>?_,λu T w' hx _ _=>?_,λu T w' hx _ hp=>?_,λu T w' hx _ hp=>?_,λu T w' hx _ hp=>?_,trivial⟩
   . exact zab zbO hA (V.t hx) λv6 h6=>⟨xrf _,h6.ext V⟩
   . exact zaa zaH ⟨xrf _,rfl⟩
   . have q0:u 13=_:=hp.1;rw [q0];exact zab zcQ (zao hA) (V.t hx) λv6 h6=>⟨xrf _,h6.ext V⟩
   . have q1:Is _ (u 14) c.ins:=hp.1;exact zae u32 q1 (by rw [hnn];exact ⟨xrf _,rfl⟩)
   . have q2:u 15=_:=hp.1;rw [q2];exact zeZ oo oo λw4 gs r=>⟨gs,_,rfl,lr _,r.lt _ (qay.2 rfl),r⟩
   . exact zaa zaH ⟨xrf _,rfl⟩
   . have q0:u 17=_:=hp.1;rw [q0];exact zab zcQ (zao hA) (V.t hx) λv6 h6=>⟨xrf _,h6.ext V⟩
   . have q1:Is _ (u 18) c.ins:=hp.1;exact zae u32 q1 (by rw [hnn];exact ⟨xrf _,rfl⟩)
   have q2:u 19=_:=hp.1;rw [q2];exact zd3 oo oo λw4 gs r=>⟨gs,_,rfl,lr _,r.lt _ (qay.2 rfl),r⟩
 rintro u T w2 jf gU ⟨gV,-,-,-,⟨g,jg,_,_,jh⟩,-,-,-,⟨h,ji,_,_,jj⟩,-⟩;have gV:Is (World.drew1 w1) (u 12) c:=gV;have t4:=gU.1 4 dD;have t8:=gU.1 8 dD;have d48:=gU.2 4 dD 8 dD dD;have gt:=V.t jf;have hsd:(World.drew1 w1).heap.size=w1.heap.size:=rfl;rw [jg,ji];obtain ⟨a0,a1,a2,a3,a4,n0,n1,n2,n3,n4,k0,k1,k2,k3,k4,jk⟩:=znG gV;rw [jk];refine zas (cells:=#[.slice a0 n0 k0,.slice a1 n1 k1,.slice a2 n2 k2,.slice a3 n3 k3,.slice a4 n4 k4,.slice (some ⟨g,0,none⟩) n n,.slice (some ⟨h,0,none⟩) n n,.bool true]) kK<|zrz λw3 gW jl=>?_;have H3:LW w1 w3 w2.heap.size g h n [.slice a0 n0 k0,.slice a1 n1 k1,.slice a2 n2 k2,.slice a3 n3 k3,.slice a4 n4 k4] (List.replicate n false) (List.replicate n 0) true:=⟨gt.t gW,jl,jh.ext gW,jj.ext gW,rfl,oo,oo,oo,gt.size,oo,oo⟩;generalize [Value.slice a0 n0 k0,.slice a1 n1 k1,.slice a2 n2 k2,.slice a3 n3 k3,.slice a4 n4 k4]=kc at *;generalize w2.heap.size=gw at *;refine zab zbO hA H3.ext λ_ jm=>?_;refine (zgR jm H3.ext hc).mono ?_;rintro _ w4 ⟨gs,jn⟩;refine (zfK jn.is (xrf _) (by rw [zam];omega)).mono ?_;rintro jo w5 ⟨jp,hR⟩;rw [zam,zhn] at hR;have H4:=H3.step gs;have H5:=H4.step jp;have hL:∀ p,p∈zbb c.procs.length (RootP c)↔RootP c p:=λp=>by rw [zaO];exact ⟨λh=>h.2,λh=>⟨h.lt hc,h⟩⟩
 have hLl:(zbb c.procs.length (RootP c)).length<=8:=qal zbe h8.1;generalize zbb c.procs.length (RootP c)=L at *;have jq:=H4.blk.lt;have hg4:=H4.mks.lt g ss;have hh4:=H4.mine.lt h ss;have gX:(List.replicate n 0).length=n:=by simp
 have gx:∀ x∈List.replicate n 0,x<64:=λx hx=>by rw [(qcI.1 hx).2];omega
 have g9:∀ i,i<n->(List.replicate n 0).set i (zax (List.replicate n 0) i ||| 0)=List.replicate n 0:=λi hi=>by rw [Nat.or_zero,zpd (by rw [gX];exact hi)]
 have jr:∀ i l,i<c.ins.length->(zax (List.replicate n 0) i).testBit l=true->MayP c i l:=λi l hi hb=>(gr.snd i l hi hb).1;generalize List.replicate n 0=out at *;refine zar L.length (λk us w'=>∃ ms,us=[.int .i64 (k:Int)]/\k<=L.length/\LW w1 w' gw g h n kc ms out true/\OwnI w4.heap.size w5.heap.size w' jo (zaK L)/\ms.length=n/\(∀ i,mkd ms i->MetP c i)/\∀ p∈L.take k,mkd ms (eN c p)) 0 (z0 _) ⟨_,rfl,z0 _,H5,hR.toI,ss,λi h=>absurd h zbR,ss⟩ ?_;rintro k mk _ w6 hS ⟨ms,hu,js,H6,gY,gy,gz,gA⟩;try replace hu:=zbv hu
 rw [hu];refine zae u31 gY.is ?_;rw [zaf];refine zah<|br (λhU=>?_) (λhV=>?_)
 . have hk:k<L.length:=oo;have hW:=zai w6;have H7:=H6.step hW;have hX:=gY.ext hW;generalize World.drew1 w6=w7 at *;refine zaa zbj<|zab zcn (zav hA) H7.ext λ_ jt=>zac u31 ty3 (i:=k) hX.is (by rw [zaf];exact hk) λ_ _ hY=>?_;rw [zaY] at hY;refine zad ty3 hY (xrf _) λ_=>?_;have ju:=λx=>zbC hk (x:=x);have hZ:=(hL L[k]).1 (qac hk);generalize L[k]=p at *;have gf:p<c.entry.length:=by rw [hc.2.1.1];exact hZ.lt hc
   obtain ⟨gZ,j0,_⟩:=zgP hc gf;refine zac u31 ty3 jt gf λb5 o5 gb=>?_;rw [zbK gf,gZ] at gb;refine zad ty3 gb H7.ext λ_=>?_;refine (zmo (i:=eN c p) (m:=0) H7 oo gy gX gx oo).mono ?_;rintro _ _ ⟨rfl,H8,jv⟩;rw [g9 _ oo] at H8;refine zaw<|⟨mk-1,oo,k+1,oo,_,rfl,oo,H8,hX.chgF jv so,by simp [gy],λi hi=>?_,λq hq=>?_⟩
   . rcases (zdc (by rw [gy];omega)).1 hi with h | h
     . exact gz i h
     rw [h];exact .root hZ
   rcases (ju q).1 hq with h | h
   . exact zfN (gA q h)
   rw [h];exact (zdc (by rw [gy];omega)).2 (.inr rfl)
 have jw:∀ p,RootP c p->mkd ms (eN c p):=λp hp=>gA p (by rw [qai oo];exact (hL p).2 hp);have hT:LP c ms out false ms out 0:=⟨by rw [gy,hnn],by rw [gX,hnn],gx,gz,jr,jw,λe=>(by cases e),λ_=>⟨rfl,rfl,λi hi=>oo⟩⟩;clear hu hS gY g9;refine LOOPI.mk (λm us w'=>∃ (ms:List Bool) (out:List Nat) (nw:Bool),us=[]/\m=(n*64-(zkO ms+out.sum))+(if nw then 1 else 0)/\LW w1 w' gw g h n kc ms out nw/\LP c ms out false ms out 0/\(nw=false->ms=zg9 c/\out=zqr c)) (n*64-(zkO ms+out.sum)+1) ⟨ms,out,true,rfl,rfl,H6,hT,λe=>by cases e⟩ ?_;rintro m _ _ ⟨ms,out,nw,hu,hm,H9,j1,h5⟩
 have gB:∀ {j2 ms:List Bool} {out0 out:List Nat} {nw:Bool} {k:Nat},LP c j2 out0 nw ms out k->zkO ms+out.sum<=n*64:=λ{j2 ms out0 out nw k} hP=>by
   have h1:=zhm ms;rw [hP.len,hnn] at h1;have h2:=sum_le (l:=out) (b:=63) λx hx=>by have:=hP.lt x hx;omega
   rw [hP.leno,hnn] at h2;omega
 refine NIL.mk rfl<|zaa zoj<|zaj ty4 H9.blk H9.c7<|zaN (λh9=>?_) (λh9=>?_)
 case refine_2=>
   obtain ⟨jx,jy⟩:=h5 h9;refine ⟨hO.t H9.ext,gw,rfl,zgq H9.blk H9.c5 ?_,zgq H9.blk H9.c6 ?_⟩
   . rw [<-jx];exact H9.mks.is
   rw [<-jy];exact H9.mine.is
 rw [h9,qah rfl] at hm;have hb9:=gB j1;refine NIL.mk rfl<|zaa zoj<|zaW (α:=Raw) (lo:=0) (hi:=0) ty4 rfl rfl H9.blk H9.l8 (zcY rfl) λ_ he hg=>?_;have jz:=H9.news he.one hg;refine zar n (λk us w'=>∃ (ms':List Bool) (out':List Nat) (nw':Bool),us=[.int .i64 (k:Int)]/\k<=n/\LW w1 w' gw g h n kc ms' out' nw'/\LP c ms out nw' ms' out' k) 0 (z0 _) ⟨ms,out,false,rfl,z0 _,jz,j1⟩ ?_;rintro k mk _ j3 hS ⟨M,C,O,hu,js,H11,D⟩;try replace hu:=zbv hu
 rw [hu];refine zaa zaH<|zab zcQ (zao hA) H11.ext λ_ jA=>zae u32 jA ?_;rw [hnn];refine zah<|br (λhU=>?_) (λhV=>?_)
 case refine_2=>
   have jB:k=n:=oo;rw [jB] at D;have jC:=gB D;refine ⟨(n*64-(zkO M+C.sum))+(if O then 1 else 0),?_,M,C,O,rfl,rfl,H11,D.again,λe=>?_⟩
   . cases O with
     | true=>have:=D.yes rfl;simp;omega
     | false=>rw [(D.no rfl).1,(D.no rfl).2.1];simp;omega
   rw [e,<-hnn] at D;exact D.fin hc
 have hk:k<n:=oo;have gg:k<c.ins.length:=oo;have g4:M.length=n:=by rw [D.len,hnn]
 have g0:C.length=n:=by rw [D.leno,hnn]
 refine NIL.mk rfl<|zaa zif<|zaj zcR H11.blk H11.c5<|zac zdj ty4 (i:=k) H11.mks.is (by rw [g4];exact hk) λ_ _ jD=>zaC ty4 jD (xrf _)<|zau ?_;have gc:=zaZ (ms:=M) (i:=k) (by rw [g4];exact hk);refine zaN (λhf=>?_) (λhf=>?_)
 . have hh:¬mkd M k:=by rw [gc];simpa using hf
   refine zaw<|⟨mk-1,oo,k+1,oo,M,C,O,rfl,oo,H11,D.skip hh⟩
 have jE:mkd M k:=by rw [gc];simpa using hf
 have gq:=D.snd k jE;refine zaa zaH<|zab zcQ (zao hA) H11.ext λ_ jF=>zac u32 zdw jF gg λ_ _ j4=>?_;rw [zaR] at j4;refine zab zdw j4 H11.ext λ_ j5=>zbN zsM rfl zdw rfl j5 H11.ext λj6 gC gR gD=>?_;have H12:=H11.step gC;have gE:=zcV j5 gD rfl;refine NIL.mk rfl<|zaa zgB<|zaj zcn H12.blk H12.c6<|zac u31 ty3 (i:=k) H12.mine.is (by rw [zaf,g0];exact hk) λb5 o5 gb=>?_;rw [zaS] at gb;refine zad ty3 gb (xrf _) λ_=>?_;have Z:=D.lt0 k;have gS:O=false->zax C k=zax out k:=λe=>by rw [(D.no e).2.1]
 have gF:∀ l,l<6->(zax C k).testBit l=true->MayP c k l:=λl hl hb=>D.sndm k l gg hb;generalize hh0:zax C k=h0 at *;refine JOIN.mk (λus w'=>∃ (m:Nat) (ms':List Bool) (out':List Nat) (nw':Bool),us=[.int .i64 (m:Int)]/\LW w1 w' gw g h n kc ms' out' nw'/\LP c ms out nw' ms' out' k/\m<64/\CR c out k h0 m nw'/\((zap c k).op=4->mkd ms' (eN c (agN c k))/\zhR h0 (zax out' (eN c (agN c k))))/\(∀ l,l<6->m.testBit l=true->∀ j∈zaE c k,MayP c j l)/\∀ j∈zaE c k,MetP c j) ?_ ?_
 . have g1:aft c [] k h0=if (zap c k).op=6 then h0 ||| 2^agN c k else if (zap c k).op=7 then zkQ h0 (2^agN c k) else if (zap c k).op=4 then (h0 &&& (tbl [] (agN c k)).1) ||| (tbl [] (agN c k)).2 else h0:=rfl
   have hr:¬(zap c k).op=4->∀ w',LW w1 w' gw g h n kc M C O->aft c [] k h0<64->∃ (m:Nat) (ms':List Bool) (out':List Nat) (nw':Bool),[Value.int .i64 (aft c [] k h0:Nat)]=[.int .i64 (m:Int)]/\LW w1 w' gw g h n kc ms' out' nw'/\LP c ms out nw' ms' out' k/\m<64/\CR c out k h0 m nw'/\((zap c k).op=4->mkd ms' (eN c (agN c k))/\zhR h0 (zax out' (eN c (agN c k))))/\(∀ l,l<6->m.testBit l=true->∀ j∈zaE c k,MayP c j l)/\∀ j∈zaE c k,MetP c j:=λh4 w' jG hs=>
     ⟨_,M,C,O,rfl,jG,D,hs,λe=>⟨gS e,λh=>absurd h h4,λ_=>by rw [gS e]⟩,λh=>absurd h h4,λl hl hb j hj=>zxA h4 gq hj (gF l hl) hb,λj hj=>.next gq h4 hj⟩
   refine zaa zbE<|zad ty3 (zaD gR) (xrf _) λ_=>zag<|br (λc6=>?_) (λc6=>?_)
   . obtain ⟨ha,_,hq⟩:=zdA hc gg (.inl c6);have hp:=zfW hq;rw [qah c6] at g1;refine zaa zbG<|zad ty3 (zaF gR) (xrf _) λ_=>?_;rw [ha];refine (zgk oo).mono ?_;rintro _ ht ⟨gh,rfl⟩;refine zhb (m:=h0) (n:=2^agN c k) oo oo ?_;have:=hr oo ht (H12.step gh) (by rw [g1];exact zxh Z hq);rw [g1] at this;exact this
   rw [qad c6] at g1;refine zag<|br (λc7=>?_) (λc7=>?_)
   . obtain ⟨ha,_,hq⟩:=zdA hc gg (.inr c7);have hp:=zfW hq;rw [qah c7] at g1;refine zaa zbG<|zad ty3 (zaF gR) (xrf _) λ_=>?_;rw [ha];refine (zgk oo).mono ?_;rintro _ ht ⟨gh,rfl⟩;refine (zjZ Z hp).mono ?_;rintro _ gT ⟨gi,rfl⟩;rw [ziv Z hp];have:=hr oo gT ((H12.step gh).step gi) (by rw [g1];exact qaN (ziu _ _) Z);rw [g1] at this;exact this
   rw [qad c7] at g1;refine zag<|br (λc4=>?_) (λc4=>?_)
   . obtain ⟨j7,j8⟩:=zcl hc gg (.inl c4);have gf:agN c k<c.entry.length:=by rw [hc.2.1.1];exact j8
     obtain ⟨gZ,j0,_⟩:=zgP hc gf;obtain ⟨_,jH,_⟩:=zeT hc j8;refine zaa zbj<|zab zcn (zav hA) H12.ext λ_ jI=>zaa zbG<|zad ty3 (zaF gR) (xrf _) λ_=>?_;rw [j7];refine zac u31 ty3 jI gf λb5 o5 gb=>?_;rw [zbK gf,gZ] at gb;refine zad ty3 gb H12.ext λ_=>?_;refine (zmo (i:=eN c (agN c k)) (m:=h0) H12 oo g4 g0 D.lt Z).mono ?_;rintro _ ht ⟨rfl,H13,hv⟩;have jJ:MetP c (eN c (agN c k)):=.call gq c4;have U:=D.put j0 Z jJ λl hl hb=>.call gq c4 (gF l hl hb);have j9:=zkt (out:=C) (m:=h0) (i:=eN c (agN c k)) (by rw [g0];omega);have ja:mkd (M.set (eN c (agN c k)) true) (eN c (agN c k)):=(zdc (by rw [g4];omega)).2 (.inr rfl);have gG:zyC M C O (eN c (agN c k)) h0=false->O=false:=zxQ;generalize zyC M C O (eN c (agN c k)) h0=nw13 at *;generalize C.set (eN c (agN c k)) (zax C (eN c (agN c k)) ||| h0)=out13 at *;generalize M.set (eN c (agN c k)) true=ms13 at *;have jK:j3.heap.size<j6.heap.size:=gD.lt;have jL:j3.heap.size∉[gw,g,h]:=by have h1:=H11.mks.lt g ss;have h2:=H11.mine.lt h ss;have h3:=H11.blk.lt;simp;omega
     have gH:=(gE.keep (hv.block _ jK jL)).at H13.ext;refine zab zbO hA H13.ext λ_ jM=>zaa zbG<|zad ty3 (zaF gH) (xrf _) λ_=>?_;rw [j7];refine (zff jM H13.ext (p:=(agN c k:Int)) oo oo hc.2.1.nonneg).mono ?_;rintro _ gT ⟨gi,rfl⟩;have H14:=H13.step gi;rw [jH];have gI:ms13.length=n:=by rw [U.len,hnn]
     have gJ:out13.length=n:=by rw [U.leno,hnn]
     refine NIL.mk rfl<|zaa zif<|zaj zcR H14.blk H14.c5<|zac zdj ty4 (i:=zN c (agN c k)) H14.mks.is (by rw [gI];omega) λ_ _ jN=>zaC ty4 jN (xrf _)<|zau ?_;have gd:=zaZ (ms:=ms13) (i:=zN c (agN c k)) (by rw [gI];omega);refine zaN (λgj=>?_) (λgj=>?_)
     . have hh:¬mkd ms13 (zN c (agN c k)):=by rw [gd];simpa using gj
       refine zaw<|⟨mk-1,oo,k+1,oo,ms13,out13,nw13,rfl,oo,H14,LP.close (h0:=h0) (m:=zax out (zN c (agN c k))) U (λe=>⟨gS (gG e),λ_=>rfl,λh=>absurd c4 h⟩) (λ_=>⟨ja,j9⟩) λh=>absurd (h c4) hh⟩
     have jO:mkd ms13 (zN c (agN c k)):=by rw [gd];simpa using gj
     have jb:=U.snd _ jO;refine NIL.mk rfl<|zaa zgB<|zaj zcn H14.blk H14.c6<|zac u31 ty3 (i:=zN c (agN c k)) H14.mine.is (by rw [zaf,gJ];omega) λb7 o7 gK=>?_;rw [zaS] at gK;refine zad ty3 gK (xrf _) λ_=>⟨zax out13 (zN c (agN c k)),ms13,out13,nw13,rfl,H14,U,U.lt0 _,λe=>⟨gS (gG e),λ_=>by rw [(U.no e).2.1],λh=>absurd c4 h⟩,λ_=>⟨ja,j9⟩,λl hl hb j hj=>.back gq c4 jb (U.sndm _ l oo hb) hj,λj hj=>.back gq c4 jb hj⟩
   rw [qad c4] at g1;have:=hr c4 j6 H12 (by rw [g1];exact Z);rw [g1] at this;exact this
 rintro us gT ⟨m,hw,gL,hy,hz,H14,hB,gM,hC,hD,hF,jP⟩;try replace hz:=zbv hz
 rw [hz];refine zab zbO hA H14.ext λ_ hG=>?_;refine (zjV hG H14.ext hc gg).mono ?_;rintro jQ jR ⟨hH,hI⟩;have jS:=H14.step hH;have hl2:=zfk c k;have jT:=λ{j:Nat} (hj:j∈zaE c k)=>(zdg hc gg hj).1;have gl:=λ{ms o:List Bool} {out0 out1:List Nat} {ag:Bool} (hP:LP c ms out0 ag o out1 k)=>LP.close (h0:=h0) (m:=m) hP;generalize hNx:zaE c k=N at *;refine zar N.length (λq us w'=>∃ (ms':List Bool) (out':List Nat) (nw':Bool),us=[.int .i64 (q:Int)]/\q<=N.length/\LW w1 w' gw g h n kc ms' out' nw'/\LP c ms out nw' ms' out' k/\CR c out k h0 m nw'/\((zap c k).op=4->mkd ms' (eN c (agN c k))/\zhR h0 (zax out' (eN c (agN c k))))/\(∀ j∈N.take q,mkd ms' j/\zhR m (zax out' j))/\OwnI gT.heap.size jR.heap.size w' jQ (zaK N)) 0 (z0 _) ⟨hw,gL,hy,rfl,z0 _,jS,hB,hC,hD,ss,hI.toI⟩ ?_;rintro q mq u _ _ ⟨gN,g2,hJ,hu,_,jc,g3,gO,gn,g5,gp⟩;try replace hu:=zbv hu
 rw [hu];refine zae u31 gp.is ?_;rw [zaf];refine zah<|br (λhU=>?_) (λhV=>?_)
 case refine_2=>refine zaw ?_;rw [qai oo] at g5;exact ⟨mk-1,oo,k+1,oo,gN,g2,hJ,rfl,oo,jc,gl g3 gO gn λ_=>hNx▸g5⟩
 have hq:q<N.length:=oo;refine zac u31 ty3 (i:=q) gp.is (by rw [zaf];exact hq) λb7 o7 gK=>?_;rw [zaY] at gK;refine zad ty3 gK (xrf _) λ_=>?_;have jU:=λx=>zbC hq (x:=x);have hj:=qac hq;have jV:=jT hj;have jW:=λl hl hb=>hF l hl hb _ hj;have hK:=jP _ hj;generalize N[q]=j at *;have gP:gN.length=n:=by rw [g3.len,hnn]
 have gQ:g2.length=n:=by rw [g3.leno,hnn]
 refine (zmo (i:=j) (m:=m) jc oo gP gQ g3.lt gM).mono ?_;rintro _ _ ⟨rfl,jX,hM⟩;refine zaw ?_;have jY:=H14.mks.lt g ss;have jZ:=H14.mine.lt h ss;have jd:=H14.blk.lt;have hN:j<g2.length:=oo;refine ⟨mq-1,oo,q+1,oo,_,_,_,rfl,oo,jX,g3.put jV gM hK jW,λe=>gO (zxQ e),λh4=>⟨zfN (gn h4).1,zxR hN (gn h4).2⟩,λi hi=>?_,gp.chgF hM so⟩;rcases (jU i).1 hi with h | h
 . exact ⟨zfN (g5 i h).1,zxR hN (g5 i h).2⟩
 subst h;exact ⟨(zdc (by rw [gP];omega)).2 (.inr rfl),zkt hN⟩
end Go.Proofs.YtkgiigmcbgifdaaGreatDoor
