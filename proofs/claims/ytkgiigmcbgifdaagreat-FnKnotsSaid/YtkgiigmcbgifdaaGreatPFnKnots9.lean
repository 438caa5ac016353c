/-
  Parts of the proof, put together by program.
-/
import Derived.Test.YtkgiigmcbgifdaaGreatPFnKnots8
set_option maxRecDepth 20000
set_option linter.defProp false
set_option linter.unusedVariables false
set_option linter.unusedSimpArgs false
set_option linter.unusedSectionVars false
open Go renaming Value→vL,World→wD,Program→pG
namespace Go.Sh
open Rep (rep)
instance:Rep Nat where
 size:=1
 agg:=false
 rep F _ cs x:=F=[]/\cs=[.int .u64 (x:Int)]/\x<18446744073709551616
 pos:=by decide
 sz _:=rfl
 len:=by rintro _ _ _ _ ⟨_,rfl,_⟩;rfl
 one:=by rintro _ _ _ _ ⟨_,rfl,_⟩ v hv;simp at hv;subst hv;rfl
 keep:=by rintro _ _ _ _ _ h _;exact h
 lt:=by rintro _ _ _ _ ⟨rfl,_⟩ b hb;cases hb
instance:Flat Nat:=⟨λh=>h.1⟩
instance:RepZ Nat:=⟨0,[.int .u64 0],λ_=>⟨rfl,rfl,by decide⟩⟩
section
variable {P:pG} {w w0:wD} {K:vL->Prop} {t:TypeId} {x y:Operand}
def zB4 {x:Nat} (h:x<18446744073709551616):Mine [] w (.int .u64 (x:Int)) x:=⟨⟨_,⟨rfl,rfl,h⟩,rfl⟩,qav,Wr.nil w⟩
def zvB {t by_ b o:Nat} {x:Nat} (ht:tyI P t=some (1,by_,false)) (h:At w0 b o x) (hx:Ext w0 w) (k:K (.int .u64 (x:Int))):RD P (Instr.loadAt t (.pointer (some ⟨b,o,none⟩))) w K:=
 zab (α:=Nat) ht h hx λv hv=>by
   obtain ⟨F,cs,⟨_,rfl,_⟩,rfl⟩:=hv;exact k
def zB5 {n:Nat} (h:n<18446744073709551616):IntKind.u64.wrap (n:Int)=(n:Int):=by simp [IntKind.wrap,IntKind.signed,IntKind.bits];omega
def zvC {m n:Nat} (hm:m<4611686018427387904) (hn:n<4611686018427387904) (k:K (.int .u64 ((m ||| n:Nat):Int))):RD P (bin .or t x y (.int .u64 (m:Int)) (.int .u64 (n:Int))) w K:=by
 have:m ||| n<2^62:=qa2 hm hn;refine zba (λw' _=>?_) k
 have e2:((BitVec.ofInt 64 (m:Int)) ||| (BitVec.ofInt 64 (n:Int))).toNat=m ||| n:=by
   simp only [BitVec.toNat_or,BitVec.ofInt_natCast,BitVec.toNat_ofNat];rw [qbA oo,qbA oo]
 show (do eqGuard .or t x y (.int .u64 (m:Int)) (.int .u64 (n:Int));binOp .or t (.int .u64 (m:Int)) (.int .u64 (n:Int)):Sem vL).run P w'=_;simp only [eqGuard,binOp,Op.intBits];show Result.ok (Value.int .u64 (IntKind.u64.wrap (((BitVec.ofInt 64 (m:Int)) ||| (BitVec.ofInt 64 (n:Int))).toNat:Nat))) w'=_;rw [e2,zB5 oo]
def zkU {m n:Nat} (hm:m<4611686018427387904) (hn:n<4611686018427387904) (k:K (.int .u64 ((m &&& n:Nat):Int))):RD P (bin .and t x y (.int .u64 (m:Int)) (.int .u64 (n:Int))) w K:=by
 have:m &&& n<=m:=qbm;refine zba (λw' _=>?_) k
 have e2:((BitVec.ofInt 64 (m:Int)) &&& (BitVec.ofInt 64 (n:Int))).toNat=m &&& n:=by
   simp only [BitVec.toNat_and,BitVec.ofInt_natCast,BitVec.toNat_ofNat];rw [qbA oo,qbA oo]
 show (do eqGuard .and t x y (.int .u64 (m:Int)) (.int .u64 (n:Int));binOp .and t (.int .u64 (m:Int)) (.int .u64 (n:Int)):Sem vL).run P w'=_;simp only [eqGuard,binOp,Op.intBits];show Result.ok (Value.int .u64 (IntKind.u64.wrap (((BitVec.ofInt 64 (m:Int)) &&& (BitVec.ofInt 64 (n:Int))).toNat:Nat))) w'=_;rw [e2,zB5 oo]
def zoR {m n:Nat} (hm:m<4611686018427387904) (hn:n<4611686018427387904) (k:K (.int .u64 ((zmM m n:Nat):Int))):RD P (bin .andNot t x y (.int .u64 (m:Int)) (.int .u64 (n:Int))) w K:=by
 have hlt:zmM m n<=m:=ziZ m n;refine zba (λw' _=>?_) k
 have e2:((BitVec.ofInt 64 (m:Int)) &&& ~~~(BitVec.ofInt 64 (n:Int))).toNat=zmM m n:=by
   apply qbi;intro i;have g0:m<2^64:=oo;have g1:n<2^64:=oo;simp only [BitVec.testBit_toNat,BitVec.getLsbD_and,BitVec.getLsbD_not,BitVec.ofInt_natCast,BitVec.getLsbD_ofNat,zdo];by_cases hi:i<64
   . simp [hi]
   have:m.testBit i=false:=qbs (qap g0 (qaE oo oo));simp [hi,this]
 show (do eqGuard .andNot t x y (.int .u64 (m:Int)) (.int .u64 (n:Int));binOp .andNot t (.int .u64 (m:Int)) (.int .u64 (n:Int)):Sem vL).run P w'=_;simp only [eqGuard,binOp,Op.intBits];show Result.ok (Value.int .u64 (IntKind.u64.wrap (((BitVec.ofInt 64 (m:Int)) &&& ~~~(BitVec.ofInt 64 (n:Int))).toNat:Nat))) w'=_;rw [e2,zB5 oo]
def zkV {m n:Nat} {ku:IntKind} (hm:m<4611686018427387904) (k:K (.int .u64 ((m >>> n:Nat):Int))):RD P (bin .shr t x y (.int .u64 (m:Int)) (.int ku (n:Int))) w K:=by
 refine zba (λw' _=>?_) k;have e0:¬((n:Int)<0):=oo
 have e1:(m:Int).fdiv (2^(min n 64))=((m >>> n:Nat):Int):=by
   rw [qby];have h2:((2:Int)^(min n 64))=((2^(min n 64):Nat):Int):=by simp
   rw [h2,qcK _ (Int.natCast_nonneg _),<-Int.natCast_ediv];by_cases h:n<=64
   . rw [qbv h]
   rw [Nat.min_eq_right oo,qck oo,qck (qap (by omega:m<2^64) (qaE oo oo))]
 show (do eqGuard .shr t x y (.int .u64 (m:Int)) (.int ku (n:Int));binOp .shr t (.int .u64 (m:Int)) (.int ku (n:Int)):Sem vL).run P w'=_;simp only [eqGuard,binOp,Op.shift,e0,if_false,qal];show Result.ok (Value.int .u64 ((m:Int).fdiv (2^(min n 64)))) w'=_;rw [e1]
def ztR {n:Nat} {ku:IntKind} (hn:n<62) (k:K (.int .u64 ((2^n:Nat):Int))):RD P (bin .shl t x y (.int .u64 1) (.int ku (n:Int))) w K:=by
 refine zba (λw' _=>?_) k;have:(2^n:Nat)<4611686018427387904:=qaT oo hn;have e1:IntKind.u64.wrap ((2^n:Nat):Int)=((2^n:Nat):Int):=zB5 oo;have e0:¬((n:Int)<0):=oo;have e2:min n 64=n:=oo;show (do eqGuard .shl t x y (.int .u64 1) (.int ku (n:Int));binOp .shl t (.int .u64 1) (.int ku (n:Int)):Sem vL).run P w'=_;simp only [eqGuard,binOp,Op.shift,e0,if_false,qal];show Result.ok (Value.int .u64 (IntKind.u64.wrap ((1:Int)*2^(min n 64)))) w'=_;rw [e2,<-e1];simp
end
end Go.Sh
namespace Go.Proofs.YtkgiigmcbgifdaaGreat
open Go Go.Sh Go.Proofs
open Rep (rep)
variable {F L U:List Nat} {W0 W1 W2 w w0 w1 w4 wT:wD} {a d x:Int} {b hi i j k l lo m n p q r r' t:Nat} {c:DCode} {s:DState} {v v0 v1 v2:vL} {y:DRace}
section
variable {nx:Nat->List Nat} {n m i j k t:Nat} {A:List DArc} {p q:Nat->Prop}
def zFo:FWy nx (m+1) m j↔FWy nx m m j:=⟨FWy.old',.inl⟩
def zqo:zc0 p n ||| zc0 q n=zc0 (λi=>p i\/q i) n:=zeP λi=>by
 rw [qaV,qaR,za6,za6];exact ⟨λh=>h.elim (λh=>⟨h.1,.inl h.2⟩) λh=>⟨h.1,.inr h.2⟩,λ⟨h,h'⟩=>h'.elim (λh'=>.inl ⟨h,h'⟩) λh'=>.inr ⟨h,h'⟩⟩
def zqp (hi:i<n):2^i=zc0 (λj=>j=i) n:=zeP λj=>by
 rw [qaN,qau];exact ⟨λh=>⟨h▸hi,h.symm⟩,λh=>h.2.symm⟩
def zAj:0=zc0 (λ_=>False) n:=zeP λj=>by simp
def zfh (hn:n<=60):zc0 p n<4611686018427387904:=qap zkv (qat (qaE (n:=2) oo hn) qd)
def zFp (hn:n<=60):zc0 p n<18446744073709551616:=Nat.lt_trans (zfh hn) qd
noncomputable def zev (nx:Nat->List Nat) (n m k:Nat):List Nat:=(List.range n).map λi=>zc0 (FWy nx (if i<k then m+1 else m) i) n
def zdA:(zev nx n m k).length=n:=by simp [zev]
def zes (h:i<(zev nx n m k).length):(zev nx n m k)[i]=zc0 (FWy nx (if i<k then m+1 else m) i) n:=by simp [zev]
def zwR (h:m<(zev nx n m k).length):(zev nx n m k)[m]=zc0 (FWy nx m m) n:=by
 rw [zes];refine zbE λ_ _=>?_;split
 . exact zFo
 exact .rfl
def zwS:zev nx n m n=zev nx n (m+1) 0:=qa5 λi hi=>by
 rw [qah (qaG.1 hi),qab oo]
def zwT (x:Nat) (hx:x=zc0 (FWy nx (m+1) k) n) (hk:k<n):(zev nx n m k).set k x=zev nx n m (k+1):=by
 subst hx;refine qaU (by simp [zev]) λi _ _=>?_;rw [qcl,zes,zes];by_cases h:k=i
 . subst h;rw [qah rfl,qah oo]
 rw [qab h];by_cases h3:i<k
 . rw [qah h3,qah oo]
 rw [qab h3,qab oo]
def zwU (h:¬FWy nx m k m):zev nx n m k=zev nx n m (k+1):=qa5 λi _=>by
 by_cases h3:i<k
 . rw [qah h3,qah oo]
 rw [qab h3];by_cases h4:i<k+1
 . have:i=k:=oo;subst this;rw [qah h4];exact zbE λ_ _=>⟨.inl,λh'=>h'.elim id λh'=>absurd h'.1 h⟩
 rw [qab h4]
def zHE (h:FWy nx m k m):zc0 (FWy nx m k) n ||| zc0 (FWy nx m m) n=zc0 (FWy nx (m+1) k) n:=by
 rw [zqo];exact zbE λ_ _=>⟨λh'=>h'.elim .inl λh'=>.inr ⟨h,h'⟩,λh'=>h'.elim .inl λh'=>.inr h'.2⟩
noncomputable def znq (nx:Nat->List Nat) (n:Nat):List Nat:=(List.range n).map λi=>zc0 (RP nx i) n
def zsm:(znq nx n).length=n:=by simp [znq]
def zsn (h:i<(znq nx n).length):(znq nx n)[i]=zc0 (RP nx i) n:=by simp [znq]
def zAk (hn:∀ i j,j∈nx i->i<n/\j<n):zev nx n n 0=znq nx n:=qa5 λi hi=>by
 rw [qab oo];exact zbE λj _=>FWy.iff hn
def zFq:nxA n []=λ_=>[]:=by
 funext i;unfold nxA zbK;rw [qc6];intro _ _ h;simp at h
def zvD {a:DArc} (hf:a.fr=(i:Int)) (ht:a.to=(k:Int)) (hi:i<n) (hk:k<n) {x y:Nat}:y∈nxA n (A++[a]) x↔y∈nxA n A x\/(x=i/\y=k):=by
 unfold nxA;simp only [zaI,qae,qaK,DArc.ext_iff,hf,ht];constructor
 . rintro ⟨h1,h2,h3 | ⟨h3,h4⟩⟩
   . exact .inl ⟨h1,h2,h3⟩
   exact .inr ⟨qbo.1 h3,qbo.1 h4⟩
 rintro (⟨h1,h2,h3⟩ | ⟨rfl,rfl⟩)
 . exact ⟨h1,h2,.inl h3⟩
 exact ⟨hk,hi,.inr ⟨rfl,rfl⟩⟩
def zAl:List.replicate n 0=zev (nxA n []) n 0 0:=by
 refine qaU (by simp [zev]) λ_ _ _=>?_;rw [zes,qb6];refine zeP λ_=>?_;rw [qab oo,zFq];simp [FWy]
def zwV {a:DArc} (hf:a.fr=(i:Int)) (ht:a.to=(k:Int)) (hi:i<n) (hk:k<n) (h:i<(zev (nxA n A) n 0 0).length) :
   (zev (nxA n A) n 0 0).set i ((zev (nxA n A) n 0 0)[i] ||| 2^k)=zev (nxA n (A++[a])) n 0 0:=by
 refine qaU (by simp [zev]) λx _ _=>?_;rw [qcl];simp only [zes,zqp hk,zqo];by_cases hx:i=x
 . subst hx;rw [qah rfl,qab oo];refine zbE λj _=>?_;show _↔j∈nxA n (A++[a]) i;rw [zvD hf ht hi hk];exact ⟨λh=>h.elim .inl λh=>.inr ⟨rfl,h⟩,λh=>h.elim .inl λh=>.inr h.2⟩
 rw [qab hx,qab oo];refine zbE λj _=>?_;show j∈nxA n A x↔j∈nxA n (A++[a]) x;rw [zvD hf ht hi hk];exact ⟨.inl,λh=>h.elim id λh=>absurd h.1.symm hx⟩
end
section
variable {n i j f:Nat} {way:Nat->Nat->Prop} {told:Nat->Prop}
def znO (way:Nat->Nat->Prop) (i j x:Nat):Prop:=x=i\/(x<j/\way i x/\way x i)
def zwW (hi:i<n):2^i=zc0 (znO way i 0) n:=by
 rw [zqp hi];exact zbE λ_ _=>⟨.inl,λh=>h.elim id λh=>oo⟩
def zAm (hj:j<n) (h1:way i j) (h2:way j i):zc0 (znO way i j) n ||| 2^j=zc0 (znO way i (j+1)) n:=by
 rw [zqp hj,zqo];refine zbE λ_ _=>?_;unfold znO;constructor
 . rintro ((h | h) | rfl)
   . exact .inl h
   . exact .inr ⟨oo,h.2⟩
   exact .inr ⟨oo,h1,h2⟩
 rintro (h | ⟨h3,h4⟩)
 . exact .inl (.inl h)
 rcases qa9 (qbw.1 h3) with h5 | h5
 . exact .inl (.inr ⟨h5,h4⟩)
 exact .inr h5
def zvE (h:¬(way i j/\way j i)):zc0 (znO way i j) n=zc0 (znO way i (j+1)) n:=by
 refine zbE λ_ _=>?_;unfold znO;constructor
 . rintro (h1 | h1)
   . exact .inl h1
   exact .inr ⟨oo,h1.2⟩
 rintro (h1 | ⟨h3,h4⟩)
 . exact .inl h1
 rcases qa9 (qbw.1 h3) with h5 | h5
 . exact .inr ⟨h5,h4⟩
 subst h5;exact absurd h4 h
def zAn:zc0 (znO way i n) n=zc0 (zcC way i) n:=zbE λx hx=>
 ⟨λh=>h.elim .inl λh=>.inr h.2,λh=>h.elim .inl λh=>.inr ⟨hx,h⟩⟩
def zB6 (hi:i<n) (ht:¬told i):zmM (zmM (zc0 (way i) n) (zc0 (zcC way i) n)) (zc0 told n)=0↔OkC n way told i:=by
 constructor
 . intro h;refine ⟨hi,ht,λj hj hw=>?_⟩;have h1:(zmM (zmM (zc0 (way i) n) (zc0 (zcC way i) n)) (zc0 told n)).testBit j=false:=by rw [h];simp
   rw [zdo,zdo] at h1;have h2:(zc0 (way i) n).testBit j=true:=za6.2 ⟨hj,hw⟩;rw [h2] at h1;by_cases h3:(zc0 told n).testBit j=true
   . exact .inr (za6.1 h3).2
   have h4:(zc0 (zcC way i) n).testBit j=true:=by
     cases e:(zc0 (zcC way i) n).testBit j
     . simp [e,h3] at h1
     rfl
   rcases (za6.1 h4).2 with rfl | h5
   . exact .inl hw
   exact .inl h5.2
 rintro ⟨_,_,h⟩;refine qbi λj=>?_;rw [zdo,zdo,qcj];cases e:(zc0 (way i) n).testBit j
 . simp
 obtain ⟨hj,hw⟩:=za6.1 e;rcases h j hj hw with h1 | h1
 . have:(zc0 (zcC way i) n).testBit j=true:=za6.2 ⟨hj,.inr ⟨hw,h1⟩⟩;simp [this]
 have:(zc0 told n).testBit j=true:=za6.2 ⟨hj,h1⟩;simp [this]
def zFr (h:i<n):zc0 told n ||| zc0 (zcC way i) n=zc0 (ziR way told i) n:=zqo
end
def zIh:zcu tp 178=some [.int .u64 0]:=by kernel_rfl
structure RU (w0 w:wD) (v:vL) (l:List Nat):Prop where
 ext:Ext w0 w
 own:Own w0.heap.size w v l
section
variable {w0 w w':wD} {v:vL} {l:List Nat} {i m n:Nat}
def RU.step (h:RU w0 w v l) (hx:Ext w w'):RU w0 w' v l:=⟨h.ext.trans hx,h.own.ext hx⟩
def RU.get {K:vL->Prop} (h:RU w0 w v l) (hi:i<l.length) (k:K (.int .u64 (l[i]:Int))) :
   RD tp (Instr.indexAt 176 v (.int .i64 (i:Int))) w λa=>RD tp (Instr.loadAt 178 a) w K:=
 zad zFH zs8 h.own.is hi λb o hA=>zvB zs8 hA (xrf _) k
def zqq {w1:wD} {K:vL->Prop} (h:Is w1 v l) (hx:Ext w1 w) (hi:i<l.length) (k:K (.int .u64 (l[i]:Int))) :
   RD tp (Instr.indexAt 176 v (.int .i64 (i:Int))) w λa=>RD tp (Instr.loadAt 178 a) w K:=
 zad zFH zs8 h hi λb o hA=>zvB zs8 hA hx k
def RU.set {K:wD->Prop} (h:RU w0 w v l) (hi:i<l.length) (hm:m<18446744073709551616) (k:∀ w',RU w0 w' v (l.set i m)->K w') :
   RD tp (Instr.indexAt 176 v (.int .i64 (i:Int))) w λa=>OPU tp (Instr.storeAt 178 a (.int .u64 (m:Int))) w K:=by
 obtain ⟨_,hM,hF⟩:=h.own;refine zfY zFH zs8 hM hi λb _ _ hL=>ze7 (upd:=λy=>l.set i y) (y':=m) zs8 hL (zB4 hm) λw2 F2 g0 g1 g2=>k w2 ⟨h.ext.chg_trans g0 hF,F2,g1,λb hb=>hF b (g2 b hb)⟩
def zB7 {K:VW} (hn:n<=60) (k:∀ v w',RU w w' v (List.replicate n 0)->K v w'):OP tp (Instr.makeSlice 176 (.int .i64 (n:Int)) (.int .i64 (n:Int))) w K:=
 zeY (α:=Nat) zFH zs8 rfl rfl zIh oo oo λw2 hx2 hr2=>k _ w2 ⟨hx2,hr2.own.own⟩
end
def zxu:(((m >>> i &&& 1:Nat):Int)=1)↔m.testBit i=true:=by
 have:=zzm m i;constructor
 . intro h;rw [<-this,qau];exact h
 intro h;rw [<-this,qau] at h;exact h
def zoS {A:List DArc} (h1:Is W1 v1 A) (e1:Ext W1 w) (hn:n<=60) (hA:∀ a∈A,(0<=a.fr/\a.fr<n)/\0<=a.to/\a.to<n) (hl:A.length<=2000) :
   CALL tp 136 [.int .i64 (n:Int),v1] w λr w'=>Ext w w'/\Own w.heap.size w' r (znq (nxA n A) n):=by
 refine co (g:=kf [] [(3,1073725568,[14]),(8,2305843004918727424,[32]),(11,1152921367167894016,[37])] [(5,[0,1,2,3,4,5,6,7,8,9,10,11],0),(14,[0,1,2,3,4,5,6,7,8,9,10],0)]) Tryz.func136 ?_;refine zB7 hn λvr _ gc=>zae zoa h1<|zap A.length (λk us w'=>us=[.int .i64 (k:Int)]/\k<=A.length/\RU w w' vr (zev (nxA n (A.take k)) n 0 0)) 0 (z0 _) ⟨rfl,z0 _,by rw [qb1,<-zAl];exact gc⟩ ?_;rintro k mk _ _ _ ⟨hu,_,D⟩;try replace hu:=zbv hu
 rw [hu];refine zaf<|br (λ_=>?_) (λ_=>?_)
 . have hk:k<A.length:=oo;refine zad zoa zfc h1 hk λ_ _ gd=>zab zfc gd (e1.trans D.ext) λ_ gf=>zcP zBd rfl zfc rfl gf (e1.trans D.ext) λw3 gg g0 _=>?_;have O:=zag w3;generalize World.drew1 w3=w4 at *;have C:=(D.step gg).step O;obtain ⟨⟨_,_⟩,_,_⟩:=hA _ (qac hk);obtain ⟨i,hi⟩:∃ i:Nat,A[k].fr=(i:Int):=⟨A[k].fr.toNat,oo⟩;obtain ⟨j,hj⟩:∃ j:Nat,A[k].to=(j:Int):=⟨A[k].to.toNat,oo⟩;refine zaa zl2<|zac ty3 (zhv g0) O λ_=>?_;rw [hi];refine C.get (by rw [zdA];omega)<|zaa zl3<|zac ty3 (zhw g0) O λ_=>?_;rw [hj];refine zcq kK u94 oo<|ztR oo ?_;have g1:2^j<4611686018427387904:=qaL (qaE (n:=2) oo (show j<=60 by omega)) qd;refine zvC (by rw [zes];exact zfh hn) g1 ?_;have hb:(zev (nxA n (A.take k)) n 0 0)[i]'(by rw [zdA];omega) ||| 2^j<2^62:=qa2 (by rw [zes];exact zfh hn) g1;refine C.set (by rw [zdA];omega) oo λw5 I=>?_;rw [zwV hi hj oo oo] at I;refine zau<|⟨mk-1,oo,k+1,oo,rfl,oo,?_⟩;rw [tk hk];exact I
 have gh:k=A.length:=oo;rw [gh,qaB] at D;refine zae zFH D.own.is ?_;rw [zdA];refine zap n (λm us w'=>us=[.int .i64 (m:Int)]/\m<=n/\RU w w' vr (zev (nxA n A) n m 0)) 0 (z0 _) ⟨rfl,z0 _,D⟩ ?_;rintro m mm _ w3 _ ⟨g2,_,U⟩;try replace g2:=zbv g2
 rw [g2];refine zaf<|br (λ_=>?_) (λ_=>?_)
 case refine_2=>
   have gi:m=n:=oo;rw [gi,zAk zDu] at U;exact ⟨U.ext,U.own⟩
 have hm:m<n:=oo;refine zae zFH U.own.is ?_;rw [zdA];refine zap n (λk us w'=>us=[.int .i64 (k:Int)]/\k<=n/\RU w w' vr (zev (nxA n A) n m k)) 0 (z0 _) ⟨rfl,z0 _,U⟩ ?_;rintro i mi _ w4 _ ⟨g3,_,C⟩;try replace g3:=zbv g3
 rw [g3];refine zaf<|br (λ_=>?_) (λ_=>?_)
 case refine_2=>
   have gj:i=n:=oo;rw [gj,zwS] at C;refine zau<|⟨mm-1,oo,m+1,oo,rfl,oo,C⟩
 have hi:i<n:=oo;refine C.get (by rw [zdA];omega)<|zcq kK u94 oo<|zkV (by rw [zes];exact zfh hn) ?_;have g5:zc0 (FWy (nxA n A) m i) n<4611686018427387904:=zfh hn;have V:(zev (nxA n A) n m i)[i]'(by rw [zdA];omega)=zc0 (FWy (nxA n A) m i) n:=by rw [zes,qab oo]
 have g9:(zev (nxA n A) n m i)[m]'(by rw [zdA];omega)=zc0 (FWy (nxA n A) m m) n:=zwR _;refine zkU (n:=1) (qaL (by rw [qby];exact Nat.div_le_self _ _) (show _<_ by rw [V];exact g5)) oo<|zai<|br (λhb=>?_) (λhb=>?_)
 . have g4:FWy (nxA n A) m i m:=by
     rw [zxu,V,za6] at hb;exact hb.2
   have O:=zag w4;generalize World.drew1 w4=w5 at *;have I:=C.step O;refine I.get (by rw [zdA];omega)<|I.get (by rw [zdA];omega)<|zvC (by rw [V];exact g5) (by rw [g9];exact zfh hn) ?_;rw [V,g9,zHE g4];refine I.set (by rw [zdA];omega) (zFp hn) λ_ gb=>?_;rw [zwT _ rfl hi] at gb;refine zau<|⟨mi-1,oo,i+1,oo,rfl,oo,gb⟩
 have g4:¬FWy (nxA n A) m i m:=λh=>hb (by rw [zxu,V,za6];exact ⟨hm,h⟩);rw [zwU g4] at C;refine zau<|⟨mi-1,oo,i+1,oo,rfl,oo,C⟩
def zso (m i:Nat):m >>> i<=m:=by rw [qby];exact Nat.div_le_self _ _
def ztS {A:List DArc} (h1:Is W1 v1 A) (e1:Ext W1 w) (hn:n<=60) (hA:∀ a∈A,(0<=a.fr/\a.fr<n)/\0<=a.to/\a.to<n) (hl:A.length<=2000) :
   CALL tp 75 [.int .i64 (n:Int),v1] w λr w'=>Ext w w'/\Own w.heap.size w' r ((zrm n (RP (nxA n A))).map za5):=by
 refine co (g:=kf [(19,37778931862957161582336,[8,9])] [(4,1267650600228229401496703090640,[6,7]),(7,37778931862957161582336,[8,9,10]),(12,36893488078699629056,[9,36]),(23,9902915851373234884605652992,[12,79])] []) Tryz.func75 ?_;refine (zoS h1 e1 hn hA hl).mono ?_;rintro _ w1 ⟨gD,gI⟩;have g0:=gI.is;have hWl:(znq (nxA n A) n).length=n:=zsm;have gj:∀ i (h:i<(znq (nxA n A) n).length),(znq (nxA n A) n)[i]=zc0 (RP (nxA n A) i) n:=λi h=>zsn h;generalize znq (nxA n A) n=ws at *;generalize RP (nxA n A)=way at *;have hs1:=gD.size;refine zap n (λk us w'=>∃ out f told L,us=[out,.int .u64 ((zc0 told n:Nat):Int)]/\f+k=n/\zeu n told<=f/\zrm n way=L++zey n way f told/\L.length=k/\Ext w1 w'/\∃ lo hi,w1.heap.size<=lo/\lo<=w'.heap.size/\hi<=w'.heap.size/\RowI lo hi 25 w' out (L.map za5)) 0 (z0 _) ⟨_,n,λ_=>False,[],by rw [<-zAj];rfl,rfl,zlx,rfl,rfl,xrf _,w1.heap.size,w1.heap.size,lr _,qaz _,lr _,zb7 _ _ _ _⟩ ?_;rintro k mk _ w2 _ ⟨out,f,told,L,hu,_,gJ,gl,gK,g2,lo,hi,gE,_,gM,gF⟩;obtain ⟨gN,gO⟩:=zcZ hu;rw [gN,gO];have U:zc0 told n<4611686018427387904:=zfh hn;refine JOIN.mk (λus w'=>w'=w2/\((zgW n way told=none/\∃ p,us=[.int .i64 (-1),.int .u64 p])\/∃ i:Nat,zgW n way told=some i/\us=[.int .i64 (i:Int),.int .u64 ((zc0 (zcC way i) n:Nat):Int)])) ?_ ?_
 . refine zap n (λi us w'=>w'=w2/\i<=n/\∃ fd p,us=[.int .i64 fd,.int .u64 p,.int .i64 (i:Int)]/\((fd=-1/\∀ j,j<i->¬OkC n way told j)\/∃ i0:Nat,fd=(i0:Int)/\OkC n way told i0/\(∀ j,j<i0->¬OkC n way told j)/\p=((zc0 (zcC way i0) n:Nat):Int))) 0 (z0 _) ⟨rfl,z0 _,-1,0,rfl,.inl ⟨rfl,λj hj=>oo⟩⟩ ?_;rintro i mi _ w3 _ ⟨rfl,_,fd,p,gP,D⟩;obtain ⟨gp,gq,gr⟩:=zFG gP;rw [gp,gq,gr];refine zaf<|br (λgQ=>?_) (λgR=>?_)
   case refine_2=>
     have hie:i=n:=oo;refine ⟨rfl,?_⟩;rcases D with ⟨rfl,Y⟩ | ⟨i0,rfl,V,g1,rfl⟩
     . exact .inl ⟨zh2.2 λj hj=>Y j (by have:=hj.1;omega) hj,_,rfl⟩
     exact .inr ⟨i0,zkw V g1,rfl⟩
   have hi':i<n:=oo;refine zaf<|br (λgG=>?_) (λgG=>?_)
   case refine_2=>
     refine ⟨rfl,?_⟩;rcases D with ⟨rfl,Y⟩ | ⟨i0,rfl,V,g1,rfl⟩
     . exact absurd qd gG
     exact .inr ⟨i0,zkw V g1,rfl⟩
   have Y:fd=-1/\∀ j,j<i->¬OkC n way told j:=by
     rcases D with h | ⟨i0,rfl,_⟩
     . exact h
     omega
   obtain ⟨rfl,Y⟩:=Y;refine zcq kK u94 oo<|zkV U<|zkU (n:=1) (qaL (zso _ _) U) oo<|zai<|br (λhb=>?_) (λhb=>?_)
   . rw [zxu,za6] at hb;refine zau<|⟨mi-1,oo,i+1,oo,rfl,oo,-1,p,rfl,.inl ⟨rfl,λj hj=>?_⟩⟩;rcases qa9 (qbw.1 hj) with h | rfl
     . exact Y j h
     exact λh=>h.2.1 hb.2
   have gS:¬told i:=λh=>hb (by rw [zxu,za6];exact ⟨hi',h⟩);refine zcq kK u94 oo<|ztR oo ?_;rw [zwW (way:=way) hi'];refine zap n (λj us w'=>w'=w3/\j<=n/\us=[.int .u64 ((zc0 (znO way i j) n:Nat):Int),.int .i64 (j:Int)]) 0 (z0 _) ⟨rfl,z0 _,rfl⟩ ?_;rintro j mj _ w4 gU ⟨rfl,gV,gs⟩;obtain ⟨g3,g4⟩:=zcZ gs;rw [g3,g4];have I:∀ j,zc0 (znO way i j) n<4611686018427387904:=λj=>zfh hn;have C:∀ j,zc0 (way j) n<4611686018427387904:=λj=>zfh hn;refine zaf<|br (λ_=>?_) (λ_=>?_)
   . have hj:j<n:=oo;refine zqq (i:=i) g0 g2 oo ?_;rw [gj];refine zcq kK u94 oo<|zkV (C _)<|zkU (n:=1) (qaL (zso _ _) (C _)) oo<|zai<|br (λgd=>?_) (λgd=>?_)
     . rw [zxu,za6] at gd;refine zqq (i:=j) g0 g2 oo ?_;rw [gj];refine zcq kK u94 oo<|zkV (C _)<|zkU (n:=1) (qaL (zso _ _) (C _)) oo<|zai<|br (λgf=>?_) (λgf=>?_)
       . rw [zxu,za6] at gf;refine zcq kK u94 oo<|ztR oo<|zvC (I _) (qaL (qaE (n:=2) oo (show j<=60 by omega)) qd) ?_;rw [zAm hj gd.2 gf.2];refine zau<|⟨mj-1,oo,j+1,oo,rfl,oo,rfl⟩
       rw [zvE (n:=n) (j:=j) λh=>gf (by rw [zxu,za6];exact ⟨hi',h.2⟩)];refine zau<|⟨mj-1,oo,j+1,oo,rfl,oo,rfl⟩
     rw [zvE (n:=n) (j:=j) λh=>gd (by rw [zxu,za6];exact ⟨hj,h.1⟩)];refine zau<|⟨mj-1,oo,j+1,oo,rfl,oo,rfl⟩
   have gt:j=n:=oo;rw [gt,zAn];refine zqq (i:=i) g0 g2 oo ?_;rw [gj];refine zoR (C _) (zfh hn)<|zoR (qaL (ziZ _ _) (C _)) U<|zai ?_;have g5:=zB6 (way:=way) hi' gS;refine br (λhb=>?_) (λhb=>?_)
   . have V:OkC n way told i:=g5.1 oo;refine zau<|⟨mi-1,oo,i+1,oo,rfl,oo,_,_,rfl,.inr ⟨i,rfl,V,Y,rfl⟩⟩
   have V:¬OkC n way told i:=λh=>hb (by rw [g5.2 h];rfl);refine zau<|⟨mi-1,oo,i+1,oo,rfl,oo,-1,_,rfl,.inl ⟨rfl,λj hj=>?_⟩⟩;rcases qa9 (qbw.1 hj) with h | rfl
   . exact Y j h
   exact V
 rintro _ w3 ⟨rfl,hJ⟩;rcases hJ with ⟨gg,p,X⟩ | ⟨i,gg,X⟩
 . obtain ⟨O,Z⟩:=zcZ X;clear X;rw [O];refine zaf<|br (λ_=>?_) (λh=>absurd qd h);rw [ziS gg,qaF] at gl;rw [gl];exact ⟨gD.t g2,gF.own.own.mono oo⟩
 obtain ⟨O,Z⟩:=zcZ X;rw [O,Z];refine zaf<|br (λh=>oo) (λ_=>?_);have V:=zh3 gg;obtain ⟨f',gW,gx,_⟩:=ziT gJ gg;refine zap n (λj us w'=>∃ lv,us=[lv,.int .i64 (j:Int)]/\j<=n/\Ext w3 w'/\RowI w3.heap.size w'.heap.size 3 w' lv (za5 (zbK j (zcC way i)))) 0 (z0 _) ⟨_,rfl,z0 _,xrf _,zb7 _ _ _ _⟩ ?_;rintro j mj _ w4 gU ⟨lv,gy,gV,g9,gh⟩;obtain ⟨gb,gc⟩:=zcZ gy;rw [gb,gc];have gH:=g9.size;have I:zc0 (zcC way i) n<4611686018427387904:=zfh hn;have hsl:(zbK j (zcC way i)).length<=j:=zbz;refine zaf<|br (λgQ=>?_) (λgR=>?_)
 . have hj:j<n:=oo;refine zcq kK u94 oo<|zkV I<|zkU (n:=1) (qaL (zso _ _) I) oo<|zai<|br (λhb=>?_) (λhb=>?_)
   . rw [zxu,za6] at hb;refine zbM (lo2:=w4.heap.size) (hi2:=w4.heap.size) (x:=(j:Int)) u25 ty3 z3 zc3 qd gh gH (zbI io) (lr _) gH (by rw [zaj,zah];omega) (by rw [zah];omega) λgz w9 gi gC=>zau<|⟨mj-1,oo,j+1,oo,gz,rfl,oo,g9.chgI gi (lr _),?_⟩;rw [zel hb.2,zc4];exact gC
   refine zau<|⟨mj-1,oo,j+1,oo,lv,rfl,oo,g9,?_⟩;rw [zeO λh=>hb (by rw [zxu,za6];exact ⟨hj,h⟩)];exact gh
 have gt:j=n:=oo;rw [gt] at gh;refine zbM (lo2:=w3.heap.size) (hi2:=w4.heap.size) (x:=za5 (zbK n (zcC way i))) u31 zaS z25 zyq qd (gF.ext g9) oo gh.own gM oo (by rw [zaj,qaD];omega) (by rw [qaD];omega) λgz w9 gi gC=>zvC U I ?_;rw [zFr (n:=n) V.1];have hs9:=gi.size;refine ⟨mk-1,oo,k+1,oo,gz,f',ziR way told i,L++[zbK n (zcC way i)],rfl,oo,gx,by rw [gl,gW,qaw];rfl,by simp [gK],(g2.t g9).chgI gi gE,lo,w9.heap.size,gE,oo,lr _,?_⟩;rw [qbx];exact gC
section
variable {nx:Nat->List Nat} {n m i j k t:Nat} {A:List DArc} {p q:Nat->Prop}
noncomputable def zcV (nx:Nat->List Nat) (n m k j:Nat):List (List Bool):=(List.range n).map λi=>zdQ n λx=>FWy nx (if i<k\/(i=k/\x<j) then m+1 else m) i x
def zsp:(zcV nx n m k j).length=n:=by simp [zcV]
def zcW (h:i<(zcV nx n m k j).length):(zcV nx n m k j)[i]=zdQ n λx=>FWy nx (if i<k\/(i=k/\x<j) then m+1 else m) i x:=by simp [zcV]
def zvF (h:i<(zcV nx n m k j).length) {x:Nat} (hx:x<((zcV nx n m k j)[i]).length):((zcV nx n m k j)[i])[x]=true↔FWy nx (if i<k\/(i=k/\x<j) then m+1 else m) i x:=by
 rw [<-zce hx,zcW,zcs];rw [zcW,zaM] at hx;exact ⟨λh=>h.2,λh=>⟨hx,h⟩⟩
def zqr:FWy nx 0 i j↔j∈nx i:=.rfl
def zB8:FWy nx (m+1) k m↔FWy nx m k m:=⟨FWy.old,.inl⟩
def zB9:FWy nx (m+1) m j↔FWy nx m m j:=⟨FWy.old',.inl⟩
def zAo:zcV nx n m k n=zcV nx n m (k+1) 0:=qa5 λi _=>zbW λx _=>by
 have:(i<k\/(i=k/\x<n))↔(i<k+1\/(i=k+1/\x<0)):=oo;simp only [this]
def zwX:zcV nx n m n 0=zcV nx n (m+1) 0 0:=qa5 λi hi=>zbW λx hx=>by
 have hi:=qaG.1 hi;rw [qah (.inl hi),qab oo]
def zwY (h:¬FWy nx m k m):zcV nx n m k 0=zcV nx n m (k+1) 0:=qa5 λi hi=>zbW λx hx=>by
 by_cases h3:i<k
 . rw [qah (.inl h3),qah oo]
 rw [qab oo];by_cases h4:i=k
 . subst h4;rw [qah oo];exact ⟨.inl,λh'=>h'.elim id λh'=>absurd h'.1 h⟩
 rw [qab oo]
def zCa (h:¬FWy nx m m j):zcV nx n m k j=zcV nx n m k (j+1):=qa5 λi hi=>zbW λx hx=>by
 by_cases h1:i<k\/(i=k/\x<j)
 . rw [qah h1,qah oo]
 rw [qab h1];by_cases h2:i=k/\x=j
 . obtain ⟨rfl,rfl⟩:=h2;rw [qah oo];exact ⟨.inl,λh'=>h'.elim id λh'=>absurd h'.2 h⟩
 rw [qab oo]
def zqs {p:Nat->Prop} (hj:j<n):(zdQ n p).set j true=zdQ n λx=>p x\/x=j:=by
 refine zcT (by rw [qaW,zaM]) λ_ hi=>?_;rw [zdj (by rw [zaM];exact hj),zcs];exact ⟨λh=>h.elim (λh=>.inl h.2) .inr,λh=>h.elim (λh=>.inl ⟨hi,h⟩) .inr⟩
def zAp (hk:k<n) (hj:j<n) (h1:FWy nx m k m) (h2:FWy nx m m j) (h:k<(zcV nx n m k j).length) :
   (zcV nx n m k j).set k ((zcV nx n m k j)[k].set j true)=zcV nx n m k (j+1):=by
 refine qaU (by simp [zcV]) λi _ _=>?_;rw [qcl];by_cases hi:k=i
 . subst hi;rw [qah rfl,zcW,zcW,zqs hj];refine zbW λx hx=>?_;by_cases hxj:x=j
   . subst hxj;have e1:(if k<k\/(k=k/\x<x+1) then m+1 else m)=m+1:=qah (.inr ⟨rfl,oo⟩);rw [e1];exact ⟨λ_=>.inr ⟨h1,h2⟩,λ_=>.inr rfl⟩
   by_cases hl:x<j
   . rw [qah (.inr ⟨rfl,hl⟩),qah (.inr ⟨rfl,oo⟩)];exact ⟨λh=>h.elim id λh=>absurd h hxj,.inl⟩
   rw [qab oo,qab oo];exact ⟨λh=>h.elim id λh=>absurd h hxj,.inl⟩
 rw [qab hi,zcW,zcW];refine zbW λx hx=>?_;by_cases h5:i<k\/(i=k/\x<j)
 . rw [qah h5,qah oo]
 rw [qab h5,qab oo]
noncomputable def zg9 (nx:Nat->List Nat) (n:Nat):List (List Bool):=(List.range n).map λi=>zdQ n (RP nx i)
def zsq:(zg9 nx n).length=n:=by simp [zg9]
def zj7 (h:i<(zg9 nx n).length):(zg9 nx n)[i]=zdQ n (RP nx i):=by simp [zg9]
def zvG (h:i<(zg9 nx n).length) {x:Nat} (hx:x<((zg9 nx n)[i]).length):((zg9 nx n)[i])[x]=true↔RP nx i x:=by
 rw [<-zce hx,zj7,zcs];rw [zj7,zaM] at hx;exact ⟨λh=>h.2,λh=>⟨hx,h⟩⟩
def zAq (hn:∀ i j,j∈nx i->i<n/\j<n):zcV nx n n 0 0=zg9 nx n:=qa5 λi hi=>zbW λx hx=>by
 rw [qab oo];exact FWy.iff hn
def zCb:nxA n []=λ_=>[]:=by
 funext i;unfold nxA zbK;rw [qc6];intro _ _ h;simp at h
def zsr {a:DArc} (hf:a.fr=(i:Int)) (ht:a.to=(k:Int)) (hi:i<n) (hk:k<n) {x y:Nat}:y∈nxA n (A++[a]) x↔y∈nxA n A x\/(x=i/\y=k):=by
 unfold nxA;simp only [zaI,qae,qaK,DArc.ext_iff,hf,ht];constructor
 . rintro ⟨h1,h2,h3 | ⟨h3,h4⟩⟩
   . exact .inl ⟨h1,h2,h3⟩
   exact .inr ⟨qbo.1 h3,qbo.1 h4⟩
 rintro (⟨h1,h2,h3⟩ | ⟨rfl,rfl⟩)
 . exact ⟨h1,h2,.inl h3⟩
 exact ⟨hk,hi,.inr ⟨rfl,rfl⟩⟩
def zwZ:List.replicate n (List.replicate n false)=zcV (nxA n []) n 0 0 0:=by
 refine qaU (by simp [zcV]) λ_ _ _=>?_;rw [zcW,qb6];refine zcT sS λ_ _=>?_;rw [qab oo,zCb];simp [FWy,zb8]
def ztT {a:DArc} (hf:a.fr=(i:Int)) (ht:a.to=(k:Int)) (hi:i<n) (hk:k<n) (h:i<(zcV (nxA n A) n 0 0 0).length) :
   (zcV (nxA n A) n 0 0 0).set i ((zcV (nxA n A) n 0 0 0)[i].set k true)=zcV (nxA n (A++[a])) n 0 0 0:=by
 refine qaU (by simp [zcV]) λx _ _=>?_;rw [qcl];by_cases hx:i=x
 . subst hx;rw [qah rfl,zcW,zcW,zqs hk];refine zbW λj _=>?_;rw [qab oo];rw [zqr,zqr,zsr hf ht hi hk];exact ⟨λh=>h.elim .inl λh=>.inr ⟨rfl,h⟩,λh=>h.elim .inl λh=>.inr h.2⟩
 rw [qab hx,zcW,zcW];refine zbW λj _=>?_;rw [qab oo];rw [zqr,zqr,zsr hf ht hi hk];exact ⟨.inl,λh=>h.elim id λh=>absurd h.1.symm hx⟩
end
section
variable {n i j f:Nat} {way:Nat->Nat->Prop} {told:Nat->Prop}
def OkK (way:Nat->Nat->Prop) (told:Nat->Prop) (i j:Nat):Prop:=¬told i/\∀ x,x<j->way i x->way x i\/told x
def zAr (hi:i<n):OkK way told i n↔OkC n way told i:=⟨λh=>⟨hi,h⟩,λh=>h.2⟩
def zCc:OkK way told i (j+1)↔OkK way told i j/\(way i j->way j i\/told j):=by
 constructor
 . rintro ⟨h1,h2⟩;exact ⟨⟨h1,λx hx=>h2 x oo⟩,h2 j oo⟩
 rintro ⟨⟨h1,h2⟩,h3⟩;refine ⟨h1,λx hx=>?_⟩;rcases qa9 (qbw.1 hx) with h | rfl
 . exact h2 x h
 exact h3
def znr (way:Nat->Nat->Prop) (told:Nat->Prop) (i j x:Nat):Prop:=told x\/(x<j/\zcC way i x)
def zw0:zdQ n told=zdQ n (znr way told i 0):=zbW λx _=>⟨.inl,λh=>h.elim id λh=>oo⟩
def zAs:zdQ n (znr way told i n)=zdQ n (ziR way told i):=zbW λx hx=>⟨λh=>h.elim .inl λh=>.inr h.2,λh=>h.elim .inl λh=>.inr ⟨hx,h⟩⟩
def zss (hj:j<n) (h:zcC way i j):(zdQ n (znr way told i j)).set j true=zdQ n (znr way told i (j+1)):=by
 rw [zqs hj];refine zbW λ_ _=>?_;unfold znr;constructor
 . rintro ((h1 | h1) | rfl)
   . exact .inl h1
   . exact .inr ⟨oo,h1.2⟩
   exact .inr ⟨oo,h⟩
 rintro (h1 | ⟨h1,h2⟩)
 . exact .inl (.inl h1)
 rcases qa9 (qbw.1 h1) with h3 | h3
 . exact .inl (.inr ⟨h3,h2⟩)
 exact .inr h3
def zCd (h:¬zcC way i j):zdQ n (znr way told i j)=zdQ n (znr way told i (j+1)):=by
 refine zbW λ_ _=>?_;unfold znr;constructor
 . rintro (h1 | h1)
   . exact .inl h1
   exact .inr ⟨oo,h1.2⟩
 rintro (h1 | ⟨h1,h2⟩)
 . exact .inl h1
 rcases qa9 (qbw.1 h1) with h3 | h3
 . exact .inr ⟨h3,h2⟩
 subst h3;exact absurd h2 h
end
def zHU:zcu tp 4=some [.bool false]:=by kernel_rfl
structure RB (w0 w:wD) (v:vL) (l:List (List Bool)):Prop where
 ext:Ext w0 w
 own:Own w0.heap.size w v l
section
variable {w0 w w' w1:wD} {v:vL} {l:List (List Bool)} {i j m n:Nat}
def RB.step (h:RB w0 w v l) (hx:Ext w w'):RB w0 w' v l:=⟨h.ext.trans hx,h.own.ext hx⟩
def zkW {K:vL->Prop} (h:Is w1 v l) (hx:Ext w1 w) (hi:i<l.length) (hj:j<l[i].length) (k:K (.bool l[i][j])) :
   RD tp (Instr.indexAt 188 v (.int .i64 (i:Int))) w λa=>RD tp (Instr.loadAt 105 a) w λb=>RD tp (Instr.indexAt 105 b (.int .i64 (j:Int))) w λc=>RD tp (Instr.loadAt 4 c) w K:=
 zad zFI zef h hi λb o hA=>zab zef hA hx λv2 h2=>zad zfU ty4 h2 hj λb2 o2 hA2=>zbi ty4 hA2 hx k
def RB.set {K:wD->Prop} (h:RB w0 w v l) (hi:i<l.length) (hj:j<l[i].length) (k:∀ w',RB w0 w' v (l.set i (l[i].set j true))->K w') :
   RD tp (Instr.indexAt 188 v (.int .i64 (i:Int))) w λa=>RD tp (Instr.loadAt 105 a) w λb=>RD tp (Instr.indexAt 105 b (.int .i64 (j:Int))) w λc=>OPU tp (Instr.storeAt 4 c (.bool true)) w K:=by
 obtain ⟨_,hM,hF⟩:=h.own;refine zfY zFI zef hM hi λb _ _ hL=>zmm zef hL λ_ g3 g0 g4=>zfY zfU ty4 g3 hj λ_ _ _ g5=>ze7 (upd:=λy=>l[i].set j y) (y':=true) ty4 g5 zhr λw2 F2 g1 g9 g2=>?_;obtain ⟨F5,gb,gc⟩:=g4 w2 F2 _ g1 g9 λc hc=>.inl (g2 c hc);refine k w2 ⟨h.ext.chg_trans (g1.mono g0) hF,F5,gb,λc hc=>?_⟩;rcases gc c hc with h6 | h6
 . exact hF c h6
 exact hF c (g0 c (g2 c h6))
end
def zns {A:List DArc} (h1:Is W1 v1 A) (e1:Ext W1 w) (hn:n<=60) (hA:∀ a∈A,(0<=a.fr/\a.fr<n)/\0<=a.to/\a.to<n) (hl:A.length<=2000) :
   CALL tp 152 [.int .i64 (n:Int),v1] w λr w'=>Ext w w'/\Own w.heap.size w' r (zg9 (nxA n A) n):=by
 refine co (g:=kf [] [(3,4190304,[5,6]),(7,4398042316928,[7]),(11,604462909802916540843776,[8]),(14,604462909666577098999296,[9]),(17,604462905303714959983616,[10])] [(9,[0,1,2,3,4,5,6,7,8,9,10,11,12,13,14],0)]) Tryz.func152 ?_;refine zaD (α:=List Bool) zFI zef λ_ _ gs _=>zap n (λk us w'=>∃ out,us=[out,.int .i64 (k:Int)]/\k<=n/\Ext w w'/\RowI w.heap.size w'.heap.size 105 w' out (List.replicate k (List.replicate n false))) 0 (z0 _) ⟨_,rfl,z0 _,gs,zcd _ _ _ _ _⟩ ?_;rintro k mk q w2 gt ⟨out,hq,gx,g2,g0⟩;obtain ⟨gy,gz⟩:=zcZ hq;clear hq;rw [gy,gz];have hs2:=g2.size;refine zaf<|br (λgC=>?_) (λgD=>?_)
 . refine zeY (α:=Bool) zfU ty4 rfl rfl zHU oo oo λw3 g3 gE=>?_;have hs3:=g3.size;refine zbM (x:=List.replicate n false) zFI zef zH9 zHd qd (g0.ext g3) oo gE.own (lr _) oo (by rw [zaj,qbl];omega) (by rw [qbl];omega) λgF _ gG gH=>zau<|⟨mk-1,oo,k+1,oo,gF,rfl,oo,(g2.t g3).chgI gG (lr _),?_⟩;rw [qcg];exact gH
 have g4:k=n:=oo;rw [g4,zwZ] at g0;have gI:RB w w2 out (zcV (nxA n []) n 0 0 0):=⟨g2,g0.own.own⟩;clear g0;refine zap A.length (λk us w'=>us=[.int .i64 (k:Int)]/\k<=A.length/\RB w w' out (zcV (nxA n (A.take k)) n 0 0 0)) 0 (z0 _) ⟨rfl,z0 _,by rw [qb1];exact gI⟩ ?_;rintro k mk q w3 gt ⟨hq,gx,g5⟩;try replace hq:=zbv hq
 rw [hq];refine zae zoa h1<|zaf<|br (λgC=>?_) (λgD=>?_)
 . have hk:k<A.length:=oo;have gJ:=zag w3;generalize World.drew1 w3=w4 at *;have D:=g5.step gJ;obtain ⟨⟨_,_⟩,_,_⟩:=hA _ (qac hk);obtain ⟨i,hi⟩:∃ i:Nat,A[k].fr=(i:Int):=⟨A[k].fr.toNat,oo⟩;obtain ⟨j,hj⟩:∃ j:Nat,A[k].to=(j:Int):=⟨A[k].to.toNat,oo⟩;refine zad zoa zfc h1 hk λ_ _ gK=>zaa zl2<|zac ty3 (zhv gK) (e1.trans D.ext) λ_=>?_;rw [hi];obtain ⟨_,hM,hF⟩:=D.own;have gi:i<(zcV (nxA n (A.take k)) n 0 0 0).length:=by rw [zsp];omega
   refine zfY zFI zef hM gi λ_ _ _ hL=>zmm zef hL λ_ gM gj gN=>zad zoa zfc h1 hk λ_ _ gO=>zaa zl3<|zac ty3 (zhw gO) (e1.trans D.ext) λ_=>?_;rw [hj];refine zfY zfU ty4 gM (k:=j) (by rw [zcW,zaM];omega) λ_ _ _ gP=>ze7 (upd:=λy=>(zcV (nxA n (A.take k)) n 0 0 0)[i].set j y) (y':=true) ty4 gP zhr λw5 F5 gl gQ gp=>?_;obtain ⟨F6,gR,gS⟩:=gN w5 F5 _ gl gQ λc hc=>.inl (gp c hc)
   have C:RB w w5 out ((zcV (nxA n (A.take k)) n 0 0 0).set i ((zcV (nxA n (A.take k)) n 0 0 0)[i].set j true)):=⟨D.ext.chg_trans (gl.mono gj) hF,F6,gR,λc hc=>by
     rcases gS c hc with h6 | h6
     . exact hF c h6
     exact hF c (gj c (gp c h6))⟩
   rw [ztT hi hj oo oo] at C;refine zau<|⟨mk-1,oo,k+1,oo,rfl,oo,?_⟩;rw [tk hk];exact C
 have g4:k=A.length:=oo;rw [g4,qaB] at g5;refine zap n (λm us w'=>us=[.int .i64 (m:Int)]/\m<=n/\RB w w' out (zcV (nxA n A) n m 0 0)) 0 (z0 _) ⟨rfl,z0 _,g5⟩ ?_;rintro m mm _ w4 _ ⟨g9,_,D⟩;try replace g9:=zbv g9
 rw [g9];refine zaf<|br (λ_=>?_) (λ_=>?_)
 case refine_2=>
   have gU:m=n:=oo;rw [gU,zAq zDu] at D;exact ⟨D.ext,D.own⟩
 have hm:m<n:=oo;refine zap n (λk us w'=>us=[.int .i64 (k:Int)]/\k<=n/\RB w w' out (zcV (nxA n A) n m k 0)) 0 (z0 _) ⟨rfl,z0 _,D⟩ ?_;rintro i mi _ w5 _ ⟨gb,gi,gc⟩;try replace gb:=zbv gb
 rw [gb];refine zaf<|br (λ_=>?_) (λ_=>?_)
 case refine_2=>
   have gV:i=n:=oo;rw [gV,zwX] at gc;refine zau<|⟨mm-1,oo,m+1,oo,rfl,oo,gc⟩
 have hi:i<n:=oo;refine zap n (λj us w'=>us=[.int .i64 (j:Int)]/\j<=n/\(0<j->FWy (nxA n A) m i m)/\RB w w' out (zcV (nxA n A) n m i j)) 0 (z0 _) ⟨rfl,z0 _,λh=>absurd h oo,gc⟩ ?_;rintro j mj _ _ _ ⟨gd,_,gf,C⟩;try replace gd:=zbv gd
 rw [gd];refine zaf<|br (λ_=>?_) (λ_=>?_)
 case refine_2=>
   have gW:j=n:=oo;rw [gW,zAo] at C;refine zau<|⟨mi-1,oo,i+1,oo,rfl,oo,C⟩
 have hj:j<n:=oo;have hL6:(zcV (nxA n A) n m i j).length=n:=zsp;have U:∀ x (hx:x<(zcV (nxA n A) n m i j).length),((zcV (nxA n A) n m i j)[x]).length=n:=λx hx=>by rw [zcW,zaM]
 refine zkW (i:=i) (j:=m) C.own.is (xrf _) oo (by rw [U];omega) ?_;have gg:=zvF (nx:=nxA n A) (n:=n) (m:=m) (k:=i) (j:=j) (i:=i) oo (x:=m) (by rw [U];omega)
 have gX:FWy (nxA n A) (if i<i\/(i=i/\m<j) then m+1 else m) i m↔FWy (nxA n A) m i m:=by
   split
   . exact zB8
   exact .rfl
 rw [gX] at gg;refine zbX (λhb=>?_) (λhb=>?_)
 case refine_2=>
   have gq:¬FWy (nxA n A) m i m:=λh=>by rw [gg.2 h] at hb;cases hb
   have gY:j=0:=by
     rcases qbG j with h | h
     . exact h
     exact absurd (gf h) gq
   subst gY;rw [zwY gq] at C;refine zau<|⟨mi-1,oo,i+1,oo,rfl,oo,C⟩
 have I:=gg.1 hb;refine zkW (i:=m) (j:=j) C.own.is (xrf _) oo (by rw [U];omega) ?_;have O:=zvF (nx:=nxA n A) (n:=n) (m:=m) (k:=i) (j:=j) (i:=m) oo (x:=j) (by rw [U];omega)
 have gh:FWy (nxA n A) (if m<i\/(m=i/\j<j) then m+1 else m) m j↔FWy (nxA n A) m m j:=by
   split
   . exact zB9
   exact .rfl
 rw [gh] at O;refine zbX (λg1=>?_) (λg1=>?_)
 . have gZ:=O.1 g1;refine C.set (i:=i) (j:=j) oo (by rw [U];omega) λ_ gr=>?_;rw [zAp hi hj I gZ] at gr;refine zau<|⟨mj-1,oo,j+1,oo,rfl,oo,λ_=>I,gr⟩
 have h2:¬FWy (nxA n A) m m j:=λh=>by rw [O.2 h] at g1;cases g1
 rw [zCa h2] at C;refine zau<|⟨mj-1,oo,j+1,oo,rfl,oo,λ_=>I,C⟩
def zoT {x:DArc}:Is w v x↔v=.agg #[.int .i64 x.fr,.int .i64 x.to]/\I64 x.fr/\I64 x.to:=by
 constructor
 . rintro ⟨_,_,⟨_,_,_,_,rfl,rfl,⟨rfl,rfl,h1⟩,⟨rfl,rfl,h2⟩⟩,rfl⟩;exact ⟨rfl,h1,h2⟩
 rintro ⟨rfl,h1,h2⟩;exact ⟨[],_,⟨[],[],[.int .i64 x.fr],[.int .i64 x.to],rfl,rfl,⟨rfl,rfl,h1⟩,⟨rfl,rfl,h2⟩⟩,rfl⟩
set_option maxRecDepth 20000 in
theorem zw1 {w w0 w1:wD} {K:vL->Prop} {x y:Operand} {v1 v2:vL} {a b:DArc} (h1:Is w0 v1 a) (h2:Is w1 v2 b) (k:K (.bool (decide (a=b)))):RD tp (bin .eql 170 x y v1 v2) w K:=by
  obtain ⟨rfl,_⟩:=zoT.1 h1;obtain ⟨rfl,_⟩:=zoT.1 h2;refine zba (λw' _=>?_) k;have hg:tp.eqGuardType tp.depth 170=false:=by kernel_rfl
  have e0:∀ xs ys w,(eqGuard .eql 170 x y (.agg xs) (.agg ys)).run tp w=.ok () w:=λxs ys w=>run_eqGuard_agg (P:=tp) w .eql 170 x y xs ys hg;have e1:∀ xs ys w,(Op.equalIn 10000 170 (.agg xs) (.agg ys)).run tp w=(Op.eqFields 9999 xs ys (tp.fieldsOf 170).toList).run tp w:=λxs ys w=>run_equalIn_struct w 9999 170 xs ys kK kK;have e2:(tp.fieldsOf 170).toList.map (λf=>(f.name,f.type,f.offset))=[("From", 3,0),("To", 3,1)]:=by kernel_rfl
  have e3:∀ (c d:Int) (w:wD),(Op.equalIn 9999 3 (.int .i64 c) (.int .i64 d)).run tp w=.ok (c == d) w:=λc d w=>run_equalIn_int w 9998 3 .i64 .i64 c d u3;have hd:(a=b)↔(a.fr=b.fr/\a.to=b.to):=DArc.ext_iff;generalize hF:(tp.fieldsOf 170).toList=fs at e1 e2
  match fs,e2 with
  | [f0,f1],e2=>
    simp only [qbI,qca,qbk,qcd,and_true] at e2;obtain ⟨⟨n0,t0,o0⟩,⟨n1,t1,o1⟩⟩:=e2;have p0:∀ (a b:vL) (w:wD),(part 3 #[a,b] 0).run tp w=.ok a w:=λa b w=>by simp [part,zca ty3]
    have p1:∀ (a b:vL) (w:wD),(part 3 #[a,b] 1).run tp w=.ok b w:=λa b w=>by simp [part,zca ty3]
    simp only [bin,Sem.run_bind,e0,Result.andThen_ok,run_eql_struct,e1,Op.eqFields,n0,n1,t0,t1,o0,o1];simp only [ne_eq,String.reduceEq,not_false_eq_true,if_true,Sem.run_bind,p0,p1,Result.andThen_ok,e3,Sem.run_ite,Sem.run_pure,hd];by_cases x0:a.fr=b.fr<;>by_cases x1:a.to=b.to<;>simp [x0,x1]
set_option maxRecDepth 20000 in
theorem zw2 {w w0 w1:wD} {K:vL->Prop} {x y:Operand} {v1 v2:vL} {a b:DArc} (h1:Is w0 v1 a) (h2:Is w1 v2 b) (k:K (.bool (decide (a≠b)))):RD tp (bin .neq 170 x y v1 v2) w K:=by
  obtain ⟨rfl,_⟩:=zoT.1 h1;obtain ⟨rfl,_⟩:=zoT.1 h2;refine zba (λw' _=>?_) k;have hg:tp.eqGuardType tp.depth 170=false:=by kernel_rfl
  have e0:∀ xs ys w,(eqGuard .neq 170 x y (.agg xs) (.agg ys)).run tp w=.ok () w:=λxs ys w=>run_eqGuard_agg (P:=tp) w .neq 170 x y xs ys hg;have e1:∀ xs ys w,(Op.equalIn 10000 170 (.agg xs) (.agg ys)).run tp w=(Op.eqFields 9999 xs ys (tp.fieldsOf 170).toList).run tp w:=λxs ys w=>run_equalIn_struct w 9999 170 xs ys kK kK;have e2:(tp.fieldsOf 170).toList.map (λf=>(f.name,f.type,f.offset))=[("From", 3,0),("To", 3,1)]:=by kernel_rfl
  have e3:∀ (c d:Int) (w:wD),(Op.equalIn 9999 3 (.int .i64 c) (.int .i64 d)).run tp w=.ok (c == d) w:=λc d w=>run_equalIn_int w 9998 3 .i64 .i64 c d u3;have hd:(a=b)↔(a.fr=b.fr/\a.to=b.to):=DArc.ext_iff;generalize hF:(tp.fieldsOf 170).toList=fs at e1 e2
  match fs,e2 with
  | [f0,f1],e2=>
    simp only [qbI,qca,qbk,qcd,and_true] at e2;obtain ⟨⟨n0,t0,o0⟩,⟨n1,t1,o1⟩⟩:=e2;have p0:∀ (a b:vL) (w:wD),(part 3 #[a,b] 0).run tp w=.ok a w:=λa b w=>by simp [part,zca ty3]
    have p1:∀ (a b:vL) (w:wD),(part 3 #[a,b] 1).run tp w=.ok b w:=λa b w=>by simp [part,zca ty3]
    simp only [bin,Sem.run_bind,e0,Result.andThen_ok,run_neq_struct,e1,Op.eqFields,n0,n1,t0,t1,o0,o1];simp only [ne_eq,String.reduceEq,not_false_eq_true,if_true,Sem.run_bind,p0,p1,Result.andThen_ok,e3,Sem.run_ite,Sem.run_pure,ne_eq,hd];by_cases x0:a.fr=b.fr<;>by_cases x1:a.to=b.to<;>simp [x0,x1]
def znP {l:List DArc} {y:DArc} (hk:k<l.length) (h:y∉l.take k) (c:¬l[k]=y):y∉l.take (k+1):=by
 rw [tk hk];simp only [qae,qaa,qad,qaq,not_or];exact ⟨h,λe=>c e.symm⟩
def ztU {l:(List DArc)} {y:DArc}  (h0:Is W0 v0 l) (e0:Ext W0 w) (h1:Is W1 v1 y) (e1:Ext W1 w)  :
   CALL tp 189 [v0,v1] w λr w'=>Ext w w'/\(∃ n:Int,r=.int .i64 n/\(0<=n↔y∈l)):=by
 refine co (g:=kf [] [(2,524080,[8])] [(4,[0,1,2,3,4,5],0)]) Tryz.func189 ?_;refine zax zfc rfl h1 e1 λg0 y1 _ g1=>?_;have g2:=zak h0;refine zae zoa h0<|zap (l.length) (λk us w'=>us=[.int .i64 (k:Int)]/\Ext g0 w'/\(y∉l.take k)) (0) oo ⟨sS,xrf g0,sS⟩ ?_;rintro k m2 _ g3 _ ⟨hu,y2,C⟩;try replace hu:=zbv hu
 try rw [hu]
 try clear hu
 refine zaf<|br (λc1=>?_) (λc1=>?_)
 . have y3:=zag g3;refine zbr g1 (y2.t y3)<|zad zoa zfc h0 oo λ_ _ g4=>zab zfc g4 (e0.t (y1.t (y2.t y3))) λ_ g5=>zw1 h1 g5<|br (λc2=>?_) (λc2=>?_)
   . refine ⟨(y1.t (y2.t y3)),?_⟩;have:y∈l:=c2▸qac _;exact ⟨_,rfl,by simp [this]⟩
   refine zau<|⟨m2-1,oo,k+1,oo,sS,(y2.t y3),?_⟩;exact znP oo C (λe=>c2 e.symm)
 refine ⟨(y1.t y2),?_⟩;rw [qaf oo] at C;exact ⟨-1,rfl,by simp [C]⟩
def znQ {l:(List DArc)} {y:DArc}  (h0:Is W0 v0 l) (e0:Ext W0 w) (h1:Is W1 v1 y) (e1:Ext W1 w)  :
   CALL tp 131 [v0,v1] w λr w'=>Ext w w'/\(r=.bool (decide (y∈l))):=by
 refine co (g:=kf [] [] []) Tryz.func131 ?_;refine zax zfc rfl h1 e1 λg0 y1 _ g1=>zbr g1 (xrf g0) ?_;refine (ztU h0 (e0.t y1) h1 (e1.trans y1)).mono ?_;rintro _ _ ⟨y2,_,rfl,g2⟩;refine zb9<|⟨(y1.t y2),?_⟩;simp [g2]
def ziy {A:List DArc} (h1:Is W1 v1 A) (e1:Ext W1 w) (hn:n<=60) (hA:∀ a∈A,(0<=a.fr/\a.fr<n)/\0<=a.to/\a.to<n) (hl:A.length<=2000) :
   CALL tp 151 [.int .i64 (n:Int),v1] w λr w'=>Ext w w'/\r=.bool true:=by
 refine co (g:=kf [] [(4,1099511611440,[5])] []) Tryz.func151 ?_;refine l01In_ok.mono ?_;rintro _ _ ⟨g2,rfl⟩;refine zav<|br (λh=>absurd ⟨oo,oo⟩ h) (λ_=>?_);refine zae zoa h1<|zcO<|br (λh=>oo) (λ_=>?_);refine zap A.length (λk us w'=>us=[.int .i64 (k:Int)]/\k<=A.length/\Ext w w') 0 (z0 _) ⟨rfl,z0 _,g2⟩ ?_;rintro k mk _ _ _ ⟨hq,_,g0⟩;try replace hq:=zbv hq
 rw [hq];refine zae zoa h1<|zaf<|br (λ_=>?_) (λ_=>?_)
 case refine_2=>exact ⟨g0,rfl⟩
 have hk:k<A.length:=oo;obtain ⟨⟨_,_⟩,_,_⟩:=hA _ (qac hk);refine zad zoa zfc h1 hk λ_ _ g3=>zaa zl2<|zac ty3 (zhv g3) (e1.trans g0) λ_=>zbe io<|l01In_ok.mono ?_;rintro _ _ ⟨g1,rfl⟩;refine zav<|br (λh=>absurd ⟨oo,oo⟩ h) (λ_=>?_);refine zad zoa zfc h1 hk λ_ _ g4=>zaa zl3<|zac ty3 (zhw g4) ((e1.trans g0).trans g1) λ_=>zbe io<|l01In_ok.mono ?_;rintro _ _ ⟨g5,rfl⟩;refine zav<|br (λh=>absurd ⟨oo,oo⟩ h) (λ_=>?_);refine zau<|⟨mk-1,oo,k+1,oo,rfl,oo,(g0.t g1).trans g5⟩
structure CI (w1 wT w4 w:wD) (tv out lv:vL) (T:List Bool) (lo hi:Nat) (L:List (List Int)) (P:List Int):Prop where
 ext:Ext w1 w
 told:OwnI w1.heap.size wT.heap.size w tv T
 s1:w1.heap.size<=wT.heap.size
 s2:wT.heap.size<=lo
 s3:hi<=w4.heap.size
 s4:w4.heap.size<=w.heap.size
 s5:wT.heap.size<=w4.heap.size
 out:RowI lo hi 25 w out L
 row:RowI w4.heap.size w.heap.size 3 w lv P
def CI.push {tv out lv:vL} {T:List Bool} {L:List (List Int)} {P:List Int} {K:VW} (h:CI w1 wT w4 w tv out lv T lo hi L P) (hj:j<T.length) (gh:j<=60) (hP:P.length<=60)
   (k:∀ v' w',CI w1 wT w4 w' tv out v' (T.set j true) lo hi L (P++[(j:Int)])->K v' w') :
   OP tp (Instr.buildSlice 25 1 #[(0,.int .i64 (j:Int))]) w λs w=>OP tp (Builtin.append_ #[25,25] 25 [lv,s].toArray) w λx w=>RD tp (Instr.indexAt 105 tv (.int .i64 (j:Int))) w λa=>OPU tp (Instr.storeAt 4 a (.bool true)) w λw=>K x w:=by
 have g4:=h.s1;have g5:=h.s2;have g9:=h.s3;have g3:=h.s4;have gb:=h.s5;refine zbM (lo2:=w.heap.size) (hi2:=w.heap.size) (x:=(j:Int)) u25 ty3 z3 zc3 qd h.row g3 (zeo _ _ io) (lr _) g3 (by rw [zaj];omega) oo λv5 _ g0 gc=>?_;have:=g0.size;obtain ⟨_,hM,hF⟩:=h.told.chg g0 oo;refine zfY zfU ty4 hM hj λb _ _ hL=>ze7 (upd:=λy=>T.set j y) (y':=true) ty4 hL zhr λw6 F6 gd gf gg=>?_;have g1:=gd.toI hF;have g2:=g1.size;refine k v5 w6 ⟨(h.ext.chgI g0 oo).chgI g1 (lr _),⟨F6,gf,λb hb=>hF b (gg b hb)⟩,g4,g5,g9,oo,gb,(h.out.chg g0 oo).chg g1 oo,(gc.chg g1 oo).mono (lr _) g2⟩
def zCe {way:Nat->Nat->Prop} {told:Nat->Prop} (h:OkK way told i m) (hj:j<=m):OkK way told i j:=⟨h.1,λx hx=>h.2 x oo⟩
def zw3 {A:List DArc} (h1:Is W1 v1 A) (e1:Ext W1 w) (hn:n<=60) (hA:∀ a∈A,(0<=a.fr/\a.fr<n)/\0<=a.to/\a.to<n) (hl:A.length<=2000) :
   CALL tp 87 [.int .i64 (n:Int),v1] w λr w'=>Ext w w'/\Own w.heap.size w' r ((zrm n (RP (nxA n A))).map za5):=by
 refine co (g:=kf [(16,590295810083827747840,[10])] [(7,10384593717069655257060992591347488,[5,8]),(9,10384593717069655257060992390020896,[5,8,9]),(13,590295810083827747840,[10,11]),(19,40564819202580974365024857370624,[12,13])] []) Tryz.func87 ?_;refine zaD (α:=List Int) u31 zaS λa8 _ gg _=>?_;refine (ziy h1 (e1.trans gg) hn hA hl).mono ?_;rintro _ _ ⟨gI,rfl⟩;refine za2<|zbX (λh=>by cases h) (λ_=>?_);refine (zns h1 ((e1.trans gg).trans gI) hn hA hl).mono ?_;rintro _ w1 ⟨gW,gX⟩;have I:=gX.is;have hWl:(zg9 (nxA n A) n).length=n:=zsq;have O:∀ i (h:i<(zg9 (nxA n A) n).length),((zg9 (nxA n A) n)[i]).length=n:=λi h=>by rw [zj7,zaM]
 have gc:∀ i (h:i<(zg9 (nxA n A) n).length) x (hx:x<((zg9 (nxA n A) n)[i]).length),((zg9 (nxA n A) n)[i])[x]=true↔RP (nxA n A) i x:=λi h x hx=>zvG h hx;have gJ:∀ i j k,RP (nxA n A) i j->RP (nxA n A) j k->RP (nxA n A) i k:=λ_ _ _=>RP.trans;generalize zg9 (nxA n A) n=ws at *;generalize RP (nxA n A)=way at *;have g0:=(gg.t gI).trans gW;have gY:=g0.size;refine zeY (α:=Bool) zfU ty4 rfl rfl zHU oo oo λwT gK gZ=>?_;have h2:=gK.size;generalize htv:(Value.slice (some ⟨w1.heap.size,0,none⟩) n n)=tv at *;have gM:=gZ.own;rw [show List.replicate n (RepZ.zv:Bool)=zdQ n λ_=>False from zgg n λ_=>id] at gM
 have h4:zeu n (λ_=>False)=n:=by
   unfold zeu zbK;rw [List.filter_eq_self.2 (λa _=>by simp),qbe]
 refine zap n (λk us w'=>∃ out f told L lo hi,us=[out,.int .i64 ((zeu n told:Nat):Int)]/\f+k=n/\zeu n told<=f/\zrm n way=L++zey n way f told/\L.length=k/\Whole way told/\Ext w1 w'/\OwnI w1.heap.size wT.heap.size w' tv (zdQ n told)/\wT.heap.size<=lo/\lo<=w'.heap.size/\hi<=w'.heap.size/\RowI lo hi 25 w' out (L.map za5)) 0 (z0 _) ⟨.slice (some a8) 0 0,n,λ_=>False,[],wT.heap.size,wT.heap.size,by rw [h4],rfl,zlx,rfl,rfl,Whole.start,gK,gM,lr _,qaz _,lr _,zcd _ _ _ _ _⟩ ?_;rintro k mk _ w2 _ ⟨out,f,told,L,lo,hi,hq,_,h5,gh,h6,gN,X,gi,gO,_,_,gP⟩;obtain ⟨h8,h9⟩:=zcZ hq;rw [h8,h9];have hs2:=X.size;have hll:zeu n told<=n:=zlx;refine zcO<|br (λ_=>?_) (λ_=>?_)
 case refine_2=>rw [ziS (zwm oo),qaF] at gh;rw [gh];exact ⟨g0.t X,gP.own.own.mono oo⟩
 obtain ⟨i1,ha⟩:=zoo (told:=told) gJ (show 0<zeu n told by omega);refine zap n (λi us w'=>w'=w2/\i<=n/\us=[out,.int .i64 ((zeu n told:Nat):Int),.int .i64 (i:Int)]/\∀ j,j<i->¬OkC n way told j) 0 (z0 _) ⟨rfl,z0 _,rfl,λj hj=>oo⟩ ?_;rintro i mi _ w3 _ ⟨rfl,_,hc,gj⟩;obtain ⟨gl,gp,gq⟩:=zFG hc;rw [gl,gp,gq];refine zaf<|br (λ_=>?_) (λ_=>?_)
 case refine_2=>have h:=zh3 ha;exact absurd h (gj i1 (by have:=h.1;omega))
 have hi':i<n:=oo;have hTl:(zdQ n told).length=n:=zaM
 have gQ:∀ x (hx:x<(zdQ n told).length),(zdQ n told)[x]=true↔told x:=λx hx=>by
   rw [<-zce hx,zcs];exact ⟨λh=>h.2,λh=>⟨oo,h⟩⟩
 refine zad (i:=i) zfU ty4 gi.is oo λ_ _ hd=>zbi ty4 hd (xrf _)<|za2<|JOIN.mk (λus w'=>w'=w3/\∃ b,us=[.bool b]/\(b=true↔OkC n way told i)) ?_ ?_
 . refine zap n (λj us w'=>w'=w3/\j<=n/\∃ b,us=[.bool b,.int .i64 (j:Int)]/\(b=true↔OkK way told i j)) 0 (z0 _) ⟨rfl,z0 _,_,rfl,?_⟩ ?_
   . rw [qaY,<-qci,gQ];exact ⟨λh=>⟨h,λx hx=>oo⟩,λh=>h.1⟩
   rintro j mj _ w4 he ⟨rfl,hg,b,gr,hb⟩;obtain ⟨g1,g2⟩:=zcZ gr;rw [g1,g2];refine zaf<|br (λgs=>?_) (λgt=>?_)
   case refine_2=>
     have gx:j=n:=oo;rw [gx] at hb;exact ⟨rfl,b,rfl,hb.trans (zAr hi')⟩
   have hj:j<n:=oo;refine zbX (λht=>?_) (λhf=>?_)
   case refine_2=>refine ⟨rfl,b,rfl,?_⟩;rw [hf];refine ⟨(λh=>by cases h),λh=>?_⟩;have:=hb.2 (zCe ((zAr hi').2 h) oo);rw [hf] at this;cases this
   have hK:=hb.1 ht;have D:=zCc (way:=way) (told:=told) (i:=i) (j:=j);refine zkW (i:=i) (j:=j) I X oo (by rw [O];omega) ?_;have Y:=gc i oo j (by rw [O];omega);refine za2<|zbX (λZ=>?_) (λgd=>?_)
   . rw [qaY,<-qci,Y] at Z;refine zau<|⟨mj-1,oo,j+1,oo,rfl,oo,true,rfl,⟨λ_=>D.2 ⟨hK,λh=>absurd h Z⟩,λ_=>rfl⟩⟩
   rw [qb8,Y] at gd;refine zkW (i:=j) (j:=i) I X oo (by rw [O];omega) ?_;have g3:=gc j oo i (by rw [O];omega);refine zbX (λgy=>?_) (λg4=>?_)
   . refine zau ?_;exact ⟨mj-1,oo,j+1,oo,rfl,oo,true,rfl,⟨λ_=>D.2 ⟨hK,λ_=>.inl (g3.1 gy)⟩,λ_=>rfl⟩⟩
   have gz:¬way j i:=λh=>by rw [g3.2 h] at g4;cases g4
   refine zad (i:=j) zfU ty4 gi.is oo λ_ _ hh=>zbi ty4 hh (xrf _)<|zau<|⟨mj-1,oo,j+1,oo,rfl,oo,_,rfl,?_⟩;rw [gQ,D];exact ⟨λh=>⟨hK,λ_=>.inr h⟩,λh=>(h.2 gd).resolve_left gz⟩
 rintro _ w4 ⟨rfl,b,V,hb⟩;try replace V:=zbv V
 rw [V];refine za2<|zbX (λgR=>?_) (λhk=>?_)
 . have gC:¬OkC n way told i:=λh=>by rw [hb.2 h] at gR;cases gR
   refine zau<|⟨mi-1,oo,i+1,oo,rfl,oo,rfl,λj hj=>?_⟩;rcases qa9 (qbw.1 hj) with h | rfl
   . exact gj j h
   exact gC
 have gS:OkC n way told i:=hb.1 (by simpa using hk);have gD:=zkw gS gj;obtain ⟨f',hr,gE,_⟩:=ziT h5 gD;have gU:=zuO (n:=n) gN gS.2.1;refine zaD (α:=Int) u25 ty3 λa9 w5 gf _=>?_;have hs5:=gf.size
 have gF:CI w1 wT w5 w5 tv out (.slice (some a9) 0 0) (zdQ n (znr way told i 0)) lo hi (L.map za5) (za5 (zbK 0 (zcC way i))):=
   ⟨X.t gf,by rw [<-zw0];exact gi.ext gf,h2,gO,oo,lr _,oo,gP.ext gf,zcd _ _ _ _ _⟩
 refine zap n (λj us w'=>∃ lv,us=[lv,.int .i64 (j:Int)]/\j<=n/\CI w1 wT w5 w' tv out lv (zdQ n (znr way told i j)) lo hi (L.map za5) (za5 (zbK j (zcC way i)))) 0 (z0 _) ⟨_,rfl,z0 _,gF⟩ ?_;rintro j mj _ w6 he ⟨lv,gG,hg,C⟩;obtain ⟨g5,g9⟩:=zcZ gG;rw [g5,g9];have hsl:(zbK j (zcC way i)).length<=j:=zbz;refine zaf<|br (λgs=>?_) (λgt=>?_)
 . have hj:j<n:=oo;refine zai<|br (λ_=>?_) (λgV=>?_)
   . have hp:zcC way i j:=.inl oo;refine C.push (by rw [zaM];exact hj) oo (by rw [zah];omega) λv' w' gb=>?_;rw [zss hj hp,show za5 (zbK j (zcC way i))++[(j:Int)]=za5 (zbK (j+1) (zcC way i)) by rw [zel hp,zc4];rfl] at gb;refine zau<|⟨mj-1,oo,j+1,oo,v',rfl,oo,gb⟩
   have U:¬zcC way i j->∃ m',m'<mj/\∃ k',k'+m'=n/\∃ lv',[lv,Value.int .i64 ((j+1:Nat):Int)]=[lv',.int .i64 (k':Int)]/\k'<=n/\CI w1 wT w5 w6 tv out lv' (zdQ n (znr way told i k')) lo hi (L.map za5) (za5 (zbK k' (zcC way i))):=λhp=>by
     rw [zCd hp,<-zeO hp] at C;exact ⟨mj-1,oo,j+1,oo,lv,rfl,oo,C⟩
   refine zkW (i:=i) (j:=j) I C.ext oo (by rw [O];omega) ?_;have Y:=gc i oo j (by rw [O];omega);refine zxE (λgd=>?_) (λZ=>?_)
   . refine zkW (i:=j) (j:=i) I C.ext oo (by rw [O];omega) ?_;have g3:=gc j oo i (by rw [O];omega);refine zbX (λgy=>?_) (λg4=>?_)
     . have hp:zcC way i j:=.inr ⟨Y.1 gd,g3.1 gy⟩;refine C.push (by rw [zaM];exact hj) oo (by rw [zah];omega) λv' w' gb=>?_;rw [zss hj hp,show za5 (zbK j (zcC way i))++[(j:Int)]=za5 (zbK (j+1) (zcC way i)) by rw [zel hp,zc4];rfl] at gb;refine zau<|⟨mj-1,oo,j+1,oo,v',rfl,oo,gb⟩
     refine zau<|U λhp=>?_;rcases hp with h | h
     . exact gV oo
     rw [g3.2 h.2] at g4;cases g4
   refine zau<|U λhp=>?_;rcases hp with h | h
   . exact gV oo
   rw [Y.2 h.1] at Z;cases Z
 have gx:j=n:=oo;rw [gx,zAs] at C;have hsn:(zbK n (zcC way i)).length<=n:=zbz;have hc4:=C.s4;refine zae u25 C.row.is<|zbe (by rw [zah];unfold I64;omega)<|zbM (lo2:=w5.heap.size) (hi2:=w6.heap.size) (x:=za5 (zbK n (zcC way i))) u31 zaS z25 zyq qd C.out oo C.row.own oo oo (by rw [zaj,qaD];omega) (by rw [qaD];omega) λhs w9 gH hu=>?_;have hs9:=gH.size;refine ⟨mk-1,oo,k+1,oo,hs,f',ziR way told i,L++[zbK n (zcC way i)],lo,w9.heap.size,?_,oo,gE,by rw [gh,hr,qaw];rfl,by simp [h6],gN.more gJ,C.ext.chgI gH oo,C.told.chg gH oo,gO,oo,lr _,?_⟩
 . have:((zeu n told:Nat):Int)-(((za5 (zbK n (zcC way i))).length:Nat):Int)=((zeu n (ziR way told i):Nat):Int):=by rw [zah];omega
   rw [this]
 rw [qbx];exact hu
def znR {A:List DArc} (h1:Is W1 v1 A) (e1:Ext W1 w) (hn:n<=60) (hA:∀ a∈A,(0<=a.fr/\a.fr<n)/\0<=a.to/\a.to<n) (hl:A.length<=2000) :
   CALL tp 137 [.int .i64 (n:Int),v1] w λr w'=>Ext w w'/\r=.bool true:=by
 refine co (g:=kf [] [(4,35184371040336,[20])] []) Tryz.func137 ?_;refine zaf<|br (λh=>oo) (λ_=>?_);refine zcO<|br (λh=>oo) (λ_=>?_);refine zae zoa h1<|zcO<|br (λh=>oo) (λ_=>?_);refine zae zoa h1<|zap A.length (λk us w'=>us=[.int .i64 (k:Int)]/\k<=A.length/\Ext w w') 0 (z0 _) ⟨rfl,z0 _,xrf _⟩ ?_;rintro k mk _ _ _ ⟨hq,_,g0⟩;try replace hq:=zbv hq
 rw [hq];refine zaf<|br (λ_=>?_) (λ_=>?_)
 case refine_2=>exact ⟨g0,rfl⟩
 have hk:k<A.length:=oo;obtain ⟨⟨_,_⟩,_,_⟩:=hA _ (qac hk);refine zad zoa zfc h1 hk λ_ _ g2=>zab zfc g2 (e1.trans g0) λ_ g3=>zcP zBd rfl zfc rfl g3 (e1.trans g0) λ_ g4 g1 _=>zaa zl2<|zac ty3 (zhv g1) (xrf _) λ_=>zaf<|br (λh=>oo) (λ_=>?_);refine zaa zl2<|zac ty3 (zhv g1) (xrf _) λ_=>zb9<|br (λh=>oo) (λ_=>?_);refine zaa zl3<|zac ty3 (zhw g1) (xrf _) λ_=>zaf<|br (λh=>oo) (λ_=>?_);refine zaa zl3<|zac ty3 (zhw g1) (xrf _) λ_=>zb9<|br (λh=>oo) (λ_=>?_);refine zau<|⟨mk-1,oo,k+1,oo,rfl,oo,g0.t g4⟩
def zqt {A:List DArc} {p:List Nat} (h1:Is W1 v1 A) (e1:Ext W1 w) (h2:Is W2 v2 (za5 p)) (e2:Ext W2 w) (hn:n<=60) (hA:∀ a∈A,(0<=a.fr/\a.fr<n)/\0<=a.to/\a.to<n) (hl:A.length<=2000) (hp:∀ x∈p,x<n) (hpl:p.length<=60) :
   CALL tp 76 [.int .i64 (n:Int),v1,v2] w λr w'=>Ext w w'/\∃ b,r=.bool b/\(b=true↔zuP (nxA n A) p):=by
 refine co (g:=kf [] [(5,4398045987392,[19])] []) Tryz.func76 ?_;refine (znR h1 e1 hn hA hl).mono ?_;rintro _ _ ⟨g0,rfl⟩;refine za2<|zbX (λh=>by cases h) (λ_=>?_);refine (zoS h1 (e1.trans g0) hn hA hl).mono ?_;rintro _ w2 ⟨g1,gb⟩;have g2:=gb.is;refine zae u25 h2 ?_;rw [zah];refine zap p.length (λk us w'=>us=[.int .i64 (k:Int)]/\k<=p.length/\Ext w2 w'/\∀ x∈p.take k,¬RP (nxA n A) x x) 0 (z0 _) ⟨rfl,z0 _,xrf _,sS⟩ ?_;rintro k mk _ _ _ ⟨hq,_,C,g3⟩;try replace hq:=zbv hq
 rw [hq];refine zaf<|br (λ_=>?_) (λ_=>?_)
 case refine_2=>
   have gc:k=p.length:=oo;rw [gc,qaB] at g3;exact ⟨(g0.t g1).trans C,false,rfl,(λh=>by cases h),λ⟨x,hx,hr⟩=>absurd hr (g3 x hx)⟩
 have hk:k<p.length:=oo;have g4:=hp _ (qac hk);refine zad (i:=k) u25 ty3 h2 (by rw [zah];exact hk) λ_ _ g5=>?_;rw [za9] at g5;refine zac ty3 g5 (((e2.trans g0).trans g1).trans C) λ_=>zb9<|br (λ_=>?_) (λh=>oo);refine zaf<|br (λ_=>?_) (λh=>oo);refine zqq (i:=p[k]) g2 C (by rw [zsm];exact g4) ?_;rw [zsn];have g9:zc0 (RP (nxA n A) p[k]) n<4611686018427387904:=zfh hn;refine zcq kK u94 oo<|zkV g9<|zkU (n:=1) (qaL (zso _ _) g9) oo<|zai<|br (λhb=>?_) (λhb=>?_)
 . rw [zxu,za6] at hb;exact ⟨(g0.t g1).trans C,true,rfl,λ_=>⟨_,qac hk,hb.2⟩,λ_=>rfl⟩
 refine zau<|⟨mk-1,oo,k+1,oo,rfl,oo,C,λx hx=>?_⟩;rw [tk hk] at hx;rcases qae.1 hx with hx | hx
 . exact g3 x hx
 simp only [qaK] at hx;subst hx;exact λh=>hb (by rw [zxu,za6];exact ⟨g4,h⟩)
def zqu {A:List DArc} {p:List Nat} (h1:Is W1 v1 A) (e1:Ext W1 w) (h2:Is W2 v2 (za5 p)) (e2:Ext W2 w) (hn:n<=60) (hA:∀ a∈A,(0<=a.fr/\a.fr<n)/\0<=a.to/\a.to<n) (hl:A.length<=2000) (hp:∀ x∈p,x<n) (hpl:p.length<=60) :
   CALL tp 88 [.int .i64 (n:Int),v1,v2] w λr w'=>Ext w w'/\∃ b,r=.bool b/\(b=true↔zuP (nxA n A) p):=by
 refine co (g:=kf [] [(5,17592185979200,[8])] [(7,[0,1,2,3,4,5,6,7,8,9,10,11,12,13,14,15,16,17,18,19,20,21],0)]) Tryz.func88 ?_;refine (ziy h1 e1 hn hA hl).mono ?_;rintro _ _ ⟨g0,rfl⟩;refine za2<|zbX (λh=>by cases h) (λ_=>?_);refine (zns h1 (e1.trans g0) hn hA hl).mono ?_;rintro _ w2 ⟨g1,gf⟩;have g2:=gf.is;refine zap p.length (λk us w'=>us=[.int .i64 (k:Int)]/\k<=p.length/\Ext w2 w'/\∀ x∈p.take k,¬RP (nxA n A) x x) 0 (z0 _) ⟨rfl,z0 _,xrf _,sS⟩ ?_;rintro k mk _ w3 _ ⟨hq,_,g4,g3⟩;try replace hq:=zbv hq
 rw [hq];refine zae u25 h2 ?_;rw [zah];refine zaf<|br (λ_=>?_) (λ_=>?_)
 case refine_2=>
   have gg:k=p.length:=oo;rw [gg,qaB] at g3;exact ⟨(g0.t g1).trans g4,false,rfl,(λh=>by cases h),λ⟨x,hx,hr⟩=>absurd hr (g3 x hx)⟩
 have hk:k<p.length:=oo;have g5:=hp _ (qac hk);have gh:=zag w3;generalize World.drew1 w3=w4 at *;have D:=g4.t gh;have e4:=((e2.trans g0).trans g1).trans D;refine zad (i:=k) u25 ty3 h2 (by rw [zah];exact hk) λ_ _ g9=>?_;rw [za9] at g9;refine zac ty3 g9 e4 λ_=>zbe io<|l01In_ok.mono ?_;rintro _ _ ⟨C,rfl⟩;refine br (λ_=>?_) (λh=>absurd ⟨oo,oo⟩ h);refine zad (i:=k) u25 ty3 h2 (by rw [zah];exact hk) λ_ _ gb=>?_;rw [za9] at gb;refine zac ty3 gb (e4.trans C) λ_=>?_;have hi:p[k]<(zg9 (nxA n A) n).length:=by rw [zsq];exact g5
 refine zad (i:=p[k]) zFI zef g2 hi λ_ _ gi=>zab zef gi (D.t C) λ_ h7=>zad (i:=k) u25 ty3 h2 (by rw [zah];exact hk) λ_ _ gc=>?_;rw [za9] at gc;refine zac ty3 gc (e4.trans C) λ_=>?_;have hj:p[k]<((zg9 (nxA n A) n)[p[k]]).length:=by rw [zj7,zaM];exact g5
 refine zad (i:=p[k]) zfU ty4 h7 hj λ_ _ gj=>zbi ty4 gj (D.t C) ?_;have gd:=zvG hi hj;refine zbX (λhb=>?_) (λhb=>?_)
 . exact ⟨((g0.t g1).trans D).trans C,true,rfl,λ_=>⟨_,qac hk,gd.1 hb⟩,λ_=>rfl⟩
 refine zau<|⟨mk-1,oo,k+1,oo,rfl,oo,D.t C,λx hx=>?_⟩;rw [tk hk] at hx;rcases qae.1 hx with hx | hx
 . exact g3 x hx
 simp only [qaK] at hx;subst hx;exact λh=>by rw [gd.2 h] at hb;cases hb
def ztV (h1:Is W1 v1 (zfu c)) (e1:Ext W1 w) (hc:CodeR c) :
   CALL tp 73 [v1] w λr w'=>Ext w w'/\∃ A,AInv (zfu c) A/\Own w.heap.size w' r A:=by
 refine co (g:=kf [] [(3,134217320,[3,9])] []) Tryz.func73 ?_;have hol:=zvx hc;have gb:=hc.1.locks6;refine zae zDn h1<|zap (zfu c).length (λk us w'=>∃ out A,us=[out,.int .i64 (k:Int)]/\k<=(zfu c).length/\Ext w w'/\RowI w.heap.size w'.heap.size 170 w' out A/\AInv ((zfu c).take k) A) 0 (z0 _) ⟨_,[],rfl,z0 _,xrf _,zb7 _ _ _ _,by rw [qb1];exact AInv.start⟩ ?_;rintro k mk _ _ _ ⟨out,A,hq,_,I,g3,hI⟩;obtain ⟨gc,gd⟩:=zcZ hq;rw [gc,gd];have hs2:=I.size;refine zaf<|br (λ_=>?_) (λ_=>?_)
 case refine_2=>
   have gf:k=(zfu c).length:=oo;rw [gf,qaB] at hI;exact ⟨I,A,hI,g3.own.own⟩
 have hk:k<(zfu c).length:=oo
 have gg:((zfu c).take k++[(zfu c)[k]]).Pairwise ltO:=by
   rw [<-tk hk];exact (ztM c).sublist (qcz _ _)
 have g4:=zqk gb hI.pw (hI.rng hc);refine zad zDn zq4 h1 hk λ_ _ gh=>zab zq4 gh (e1.trans I) λ_ gi=>zcP zHi rfl zq4 rfl gi (e1.trans I) λw3 g5 g0 _=>zaa zpp<|zac ty3 (znf g0) (xrf _) λgj=>zaa zpq<|zac ty3 (zng g0) (xrf _) λgl=>zaF (cells:=#[.int .i64 (zfu c)[k].fr,.int .i64 (zfu c)[k].to]) kK ?_;have gp:Is w3 (.agg #[.int .i64 (zfu c)[k].fr,.int .i64 (zfu c)[k].to]) (zir (zfu c)[k]):=zoT.2 ⟨rfl,gj,gl⟩;refine zcP zBd rfl zfc rfl gp (xrf _) λ_ g9 g1 _=>zab zfc g1 (xrf _) λ_ gq=>?_;have g2:=(g3.ext g5).ext g9;refine (znQ g2.is (xrf _) gq (xrf _)).mono ?_;rintro _ w5 ⟨O,rfl⟩;have C:=(g5.t g9).trans O;refine zav<|br (λgr=>?_) (λD=>?_)
 . refine zab zfc g1 O λ_ gs=>?_;have gt:=C.size;refine zbM (lo2:=w5.heap.size) (hi2:=w5.heap.size) (x:=zir (zfu c)[k]) zoa zfc zHL zGp qd (g2.ext O) oo (zf4 (gs.ext O)) oo oo (by rw [zaj];omega) oo λv' _ gx gy=>zau<|⟨mk-1,oo,k+1,oo,v',A++[zir (zfu c)[k]],rfl,oo,(I.t C).chgI gx (lr _),gy,?_⟩;rw [tk hk];exact hI.new gg gr
 have D:=qai.1 D;refine zau<|⟨mk-1,oo,k+1,oo,out,A,rfl,oo,I.t C,(g2.ext O).mono (lr _) C.size,?_⟩;rw [tk hk];exact hI.old D
def zvH (hc:CodeR c) {A:List DArc} (h:AInv (zfu c) A):(∀ a∈A,(0<=a.fr/\a.fr<c.locks.length)/\0<=a.to/\a.to<c.locks.length)/\A.length<=2000:=by
 have h1:AInv ((zfu c).take (zfu c).length) A:=by rw [qaB];exact h
 have h2:=h1.rng hc;have:=zqk hc.1.locks6 h.pw h2;exact ⟨h2,oo⟩
open Classical in
noncomputable def ztW (c:DCode) (k:Nat):List (List Nat):=((zcg c).take k).filter λp=>decide (zuP (nxL c) p)
def zCf (hk:k<(zcg c).length) (h:zuP (nxL c) (zcg c)[k]):ztW c (k+1)=ztW c k++[(zcg c)[k]]:=by
 unfold ztW;rw [tk hk,qbq];simp [h]
def zFs (hk:k<(zcg c).length) (h:¬zuP (nxL c) (zcg c)[k]):ztW c (k+1)=ztW c k:=by
 unfold ztW;rw [tk hk,qbq];simp [h]
def zvI (c:DCode) (k:Nat):(ztW c k).length<=k:=qat (qbK _ _) (by rw [qaj];omega)
def ztX {cs:List (List Int)} (hp:cs.Perm ((ztW c (zcg c).length).map za5)) (hs:cs.Pairwise λa b=>hd0 a<hd0 b):cs=(zf5 c).map za5:=by
 refine znn hs (by rw [qbH];exact zAb c) λ_=>?_;rw [hp.mem_iff];simp only [qa3,zoP];unfold ztW;rw [qaB];simp only [qbW,qau]
def zCg {α:Type} {f:α->List Nat} {Z:List α} {z:α} (hz:z∈Z) (h:(Z.flatMap f).Nodup):(f z).Nodup:=by
 obtain ⟨_,_,rfl⟩:=qcq hz;rw [qbc,qas] at h;have h2:=h.2.1;rw [qbD,qas] at h2;exact h2.1
def zAt {l:List (List Int)} (hM:Mine F w v l):∃ Z:List (List Nat×vL×List Int),l=Z.map (·.2.2)/\(∀ z∈Z,Mine z.1 w z.2.1 z.2.2)/\(Z.flatMap (·.1)).Nodup/\(∀ c∈Z.flatMap (·.1),c∈F) /\
   (Z≠[]->∃ b o cap,v=.slice (some ⟨b,o,none⟩) l.length cap/\b∈F/\b∉Z.flatMap (·.1)/\w.rangeAt b o (Z.map (·.2.1))):=by
 obtain ⟨⟨_,⟨_,cap,_,_,rfl,_,_,hc,h4⟩,rfl⟩,g0,hw⟩:=hM;obtain ⟨Z,rfl,rfl,rfl,hZ⟩:=zi6 hc;rcases h4 with ⟨h4,rfl⟩ | ⟨b,o,rfl,rfl,hr,_⟩
 . have:Z=[]:=by simpa using h4
   subst this;exact ⟨[],rfl,sS,sS,sS,λh=>absurd rfl h⟩
 rw [qaP] at g0;have g1:∀ z∈Z,∀ c∈z.1,c∈Z.flatMap (·.1):=λz hz c hc=>qaJ.2 ⟨z,hz,hc⟩;refine ⟨Z,rfl,λz hz=>⟨⟨_,hZ z hz,rfl⟩,?_,hw.sub λc hc=>qbS _ (g1 z hz c hc)⟩,g0.2,λc hc=>qbS _ hc,λ_=>⟨b,o,cap,rfl,sS,g0.1,hr⟩⟩;exact zCg (f:=(·.1)) hz g0.2
def zst {α β:Type} {f:α->List β} {l:List α} {x:β} (h:x∈(l.take k).flatMap f):x∈l.flatMap f:=by
 obtain ⟨z,hz,hx⟩:=qaJ.1 h;exact qaJ.2 ⟨z,qbh hz,hx⟩
def zw4 {α:Type} {f:α->List Nat} {l:List α} (hk:k<l.length) (hn:(l.flatMap f).Nodup):∀ c∈f l[k],c∉(l.take k).flatMap f:=λc hc h=>by
 have e:l=l.take k++l[k] :: l.drop (k+1):=by rw [<-qaA hk,qcC]
 rw [e,qbc,qas] at hn;exact hn.2.2 c h c (by rw [qbD];exact qaS _ hc) rfl
def ze1 {α β:Type} {f:α->List β} {l:List α} (hk:k<l.length):(l.take (k+1)).flatMap f=(l.take k).flatMap f++f l[k]:=by
 rw [tk hk,qbc];simp
def zAu (hW:WAt W0 b c) (e0:Ext W0 w) (hc:CodeR c) :
   CALL tp 31 [.pointer (some ⟨b,0,none⟩)] w λr w'=>Ext w w'/\Own w.heap.size w' r ((zf5 c).map za5):=by
 refine co (g:=kf [] [(4,17177772192,[5,21])] [(1,[0,1,2,3,4,5,6,7,8,9,10],384)]) Tryz.func31 ?_;have h6l:=hc.1.locks6;have g0:=hW.wl.code;have g4:=zag w;generalize World.drew1 w=w1 at *;refine NIL.mk rfl<|zaa zbf<|zaa zfk<|zab zdt (zbU g0) (e0.t g4) λ_ gG=>zae u24 gG ?_;refine (zAg hW (e0.t g4) hc).mono ?_;rintro _ w2 ⟨gh,gH⟩;refine ⟨gh,?_⟩;refine (ztV gH.is (xrf _) hc).mono ?_;rintro _ w3 ⟨gi,_,g5,gj⟩;refine ⟨gi,?_⟩;obtain ⟨gl,gp⟩:=zvH hc g5;refine (ztS gj.is (xrf _) oo gl gp).mono ?_;rintro gI w4 ⟨gq,gr⟩;rw [zlJ hc g5] at gr;have g1:=(g4.t gh).trans gi;have gs:=g1.size;have hs4:=gq.size;obtain ⟨F,hM,hF⟩:=gr;change Mine F w4 gI ((zcg c).map za5) at hM;have hll:=znp c;refine zae u31 hM.is ?_;rw [qaD];obtain ⟨Z,gt,hZ,gJ,gK,gM⟩:=zAt hM;have gx:Z.length=(zcg c).length:=by have:=qax List.length gt;simpa using this.symm
 refine zap (zcg c).length (λk us w'=>∃ out FO,us=[out,.int .i64 (k:Int)]/\k<=(zcg c).length/\Ext w3 w'/\w4.heap.size<=w'.heap.size/\RowG FO 25 w' out ((ztW c k).map za5)/\FO.Nodup/\(∀ x∈FO,x∈(Z.take k).flatMap (·.1)\/w4.heap.size<=x)/\∀ x,x<w4.heap.size->x∉(Z.take k).flatMap (·.1)->w'.heap[x]?=w4.heap[x]?) 0 (z0 _) ⟨_,[],rfl,z0 _,gq,lr _,.inl ⟨none,rfl,by simp [ztW],rfl⟩,qav,sS,λ_ _ _=>rfl⟩ ?_;rintro k mk _ w5 _ ⟨out,FO,hq,_,g2,_,V,g9,Y,C⟩;obtain ⟨gN,gO⟩:=zcZ hq;rw [gN,gO];have hcl:=zvI c k
 have O:∀ x∈FO,w3.heap.size<=x:=λx hx=>by
   rcases Y x hx with h | h
   . exact hF x (gK x (zst h))
   omega
 refine zaf<|br (λ_=>?_) (λ_=>?_)
 case refine_2=>
   have gP:k=(zcg c).length:=oo;rw [gP] at V;have gb:OwnI w3.heap.size w5.heap.size w5 out ((ztW c (zcg c).length).map za5):=⟨FO,⟨V.own,g9,V.wr⟩,λx hx=>⟨O x hx,V.lt x hx⟩⟩
   have gy:∀ p∈ztW c (zcg c).length,p∈zcg c:=λp hp=>by
     unfold ztW at hp;exact qbh (qbW.1 hp).1
   refine (zB2 gb (by rw [qaD];have:=zvI c (zcg c).length;omega) (λx hx=>?_) (λx hx=>?_) ?_).mono ?_
   . obtain ⟨p,hp,rfl⟩:=qa3.1 hx;obtain ⟨n,_,h2,_⟩:=zim (gy p hp);intro e;have h3:p=[]:=qan (by rw [<-zah,e];rfl);rw [h3] at h2;cases h2
   . obtain ⟨p,hp,rfl⟩:=qa3.1 hx;obtain ⟨n,h1,_,h2⟩:=zim (gy p hp);rw [zf6 h1];omega
   . rw [qbH];unfold ztW;exact ((zsj c).sublist (qcz _ _)).filter _
   rintro _ w6 ⟨gQ,_,gz,gR,gC⟩;rw [ztX gR gC] at gz;exact ⟨(g1.t g2).chgI gQ gs,gz.own.mono gs⟩
 have hk:k<(zcg c).length:=oo;have U:k<Z.length:=oo;obtain ⟨b9,o9,_,rfl,gS,gU,gV⟩:=gM (qcS oo);have gc:=hZ _ (qac U)
 have gW:Z[k].2.2=za5 (zcg c)[k]:=by
   have h1:((zcg c).map za5)[k]?=(Z.map (·.2.2))[k]?:=by rw [gt]
   rw [List.getElem?_map,List.getElem?_map,List.getElem?_eq_getElem hk,List.getElem?_eq_getElem U] at h1;simpa using h1.symm
 have gD:=zw4 (f:=(·.1)) U gJ;have I:Mine Z[k].1 w5 Z[k].2.1 Z[k].2.2:=gc.keep λx hx=>C x (gc.lt x hx) (gD x hx);have gX:w5.heap[b9]?=w4.heap[b9]?:=C b9 (hM.lt b9 gS) λh=>gU (zst h)
 have gY:w5.rangeAt b9 (o9+k*1) [Z[k].2.1]:=λj v hj=>by
   cases j with
   | zero=>
     simp only [List.getElem?_cons_zero,qao] at hj;subst hj;rw [World.cell?_of_block (w:=w4) gX,qcb,qco];exact gV k _ (by rw [List.getElem?_map,List.getElem?_eq_getElem U];rfl)
   | succ j=>simp at hj
 refine zba (v:=.pointer (some ⟨b9,o9+k*1,none⟩)) (λw' _=>by rw [zcb u31 zaS oo (by rw [qaD];omega)];simp) ?_
 refine zA2 (α:=List Int) zaS (by
   obtain ⟨cs,hr,hv⟩:=I.own;obtain ⟨v,rfl⟩:∃ v,cs=[v]:=qbr.1 (Rep.len hr);have:Z[k].2.1=v:=hv;rw [this];exact hr) gY ?_
 change CALL tp _ [_,_,Z[k].2.1] w5 _;rw [gW] at I;refine (zqt gj.is g2 I.is (xrf _) oo gl gp (zkS (qac hk)).2 (by have:=(zkS (qac hk)).1;omega)).mono ?_;rintro _ w6 ⟨X,_,rfl,gd⟩;rw [zlJ hc g5] at gd;have gC:=X.size;have gE:=V.keep λx hx=>X.heap (V.lt x hx);have D:∀ x,x<w4.heap.size->x∉(Z.take k).flatMap (·.1)->w6.heap[x]?=w4.heap[x]?:=λx hx hn=>(X.heap oo).trans (C x hx hn);refine zbX (λhy=>?_) (λhn=>?_)
 . have gf:=gd.1 hy;refine zdU (K:=λw1 r w2=>_) u31 zaS z25 zyq qd gE g9 (I.ext X) (λx hx gZ=>?_) (by rw [qaD,zaj];omega) (by rw [qaD];omega) (λw7 v' _ G' g3 gg h4 h5 h6=>?_) λ_ w7 _ h=>h
   . rcases Y x gZ with h | h
     . exact gD x hx h
     have:=gc.lt x hx;omega
   refine zau<|⟨mk-1,oo,k+1,oo,v',G',rfl,oo,((g2.t X).trans g3).chg_trans gg O,?_,?_,h5,λx hx=>?_,λx hx hn=>?_⟩
   . have:=g3.size;have:=gg.size;omega
   . rw [zCf hk gf,qbx];exact h4
   . rw [ze1 U];rcases h6 x hx with h | h | h
     . rcases Y x h with h | h
       . exact .inl (qaS _ h)
       exact .inr h
     . exact .inl (qba _ h)
     exact .inr oo
   rw [ze1 U] at hn;have gF:x∉(Z.take k).flatMap (·.1):=λh=>hn (qaS _ h)
   have h8:x∉FO:=λh=>by
     rcases Y x h with h | h
     . exact gF h
     omega
   have h7:=g3.size;rw [gg.block x oo h8,g3.heap oo];exact D x hx gF
 have gf:¬zuP (nxL c) (zcg c)[k]:=λh=>by rw [gd.2 h] at hn;cases hn
 refine zau<|⟨mk-1,oo,k+1,oo,out,FO,rfl,oo,g2.t X,oo,by rw [zFs hk gf];exact gE,g9,λx hx=>?_,λx hx hn=>?_⟩
 . rw [ze1 U];rcases Y x hx with h | h
   . exact .inl (qaS _ h)
   exact .inr h
 rw [ze1 U] at hn;exact D x hx λh=>hn (qaS _ h)
open Classical in
noncomputable def zha (c:DCode):List (List Int):=if CodeR c then (zf5 c).map za5 else []
def znt (h0:Is W0 v0 c) (e0:Ext W0 w) :
   CALL tp 10 [v0] w λr w'=>Ext w w'/\Own w.heap.size w' r (zha c):=by
 refine co (g:=kf [] [] []) Tryz.func10 ?_;refine zbp h0 e0 λ_ g0 hA=>zab zbY hA (xrf _) λ_ h6=>?_;refine (zoQ h6 (xrf _)).mono ?_;rintro _ _ ⟨g1,hr⟩;have:=g0.size;have:=g1.size;rcases hr with ⟨hn,rfl⟩ | ⟨hc,_,rfl,hW⟩
 . refine zaN rfl ?_;refine zaN rfl<|za2<|zbX (λ_=>?_) (λh=>by cases h);refine ⟨g0.t g1,?_⟩;unfold zha;rw [qab hn];exact ziz rfl
 refine zaN rfl<|zaN rfl<|za2<|zbX (λh=>by cases h) (λ_=>?_);refine (zAu hW (xrf _) hc).mono ?_;rintro _ _ ⟨g2,g3⟩;refine ⟨g0.t (g1.t g2),?_⟩;unfold zha;rw [qah hc];exact g3.mono oo
theorem zsu {n:Nat} {way:Nat->Nat->Prop} (ht:∀ i j k,way i j->way j k->way i k):∀ (f:Nat) (told:Nat->Prop),Whole way told->zeu n told<=f ->
   (zey n way f told).flatten.length=zeu n told/\∀ i,i<n->¬told i->i∈(zey n way f told).flatten
 | 0,told,hw,hf=>by
   refine ⟨by simp [zey];omega,λi hi hti=>?_⟩;have:=zjz (p:=λi=>¬told i) hi hti;unfold zeu at hf;omega
 | f+1,told,hw,hf=>by
   cases e:zgW n way told with
   | none=>
     have h0:zeu n told=0:=by
       rcases qbG (zeu n told) with h | h
       . exact h
       obtain ⟨i,hi⟩:=zoo ht h;rw [e] at hi;cases hi
     refine ⟨by rw [ziS e];simp [h0],λi hi hti=>?_⟩;have:=zjz (p:=λi=>¬told i) hi hti;unfold zeu at h0;omega
   | some a=>
     have ho:=zh3 e;obtain ⟨f',h1,h2,_⟩:=ziT hf e;obtain rfl:f=f':=oo;obtain ⟨i1,i2⟩:=zsu ht f (ziR way told a) (hw.more ht) h2;rw [h1];refine ⟨by rw [List.flatten_cons,qag,i1,zuO hw ho.2.1];omega,λi hi hti=>?_⟩;rw [List.flatten_cons,qae];by_cases hp:zcC way a i
     . exact .inl (zaI.2 ⟨hi,hp⟩)
     exact .inr (i2 i hi λh=>by
       rcases h with h | h
       . exact hti h
       exact hp h)
def zCh (hi:i<c.locks.length):i∈zGR c:=
 (zsu (n:=c.locks.length) (way:=RP (nxL c)) (λ_ _ _=>RP.trans) c.locks.length (λ_=>False) Whole.start zlx).2 i hi id
def zqv (h:za4 c p i) (hj:j∈zaA c i):za4 c p j:=by
 rcases h with rfl | h
 . exact .inr (.one hj)
 exact .inr (h.trans (.one hj))
theorem zCi (hc:CodeR c) {i:Nat} (h:MetP c i):∃ p,UsedP c p/\za4 c p i:=by
 induction h with
 | root h=>exact ⟨_,h.used,.inl rfl⟩
 | call h ho ih=>
   obtain ⟨p,hu,hl⟩:=ih;have hg:=zbS hc (h.lt hc) (.inl ho);exact ⟨_,hu.call hg.2 ⟨_,h.lt hc,hl,ho,hg.1⟩,.inl rfl⟩
 | next _ _ hj ih=>obtain ⟨p,hu,hl⟩:=ih;exact ⟨p,hu,zqv hl hj⟩
 | back _ _ _ hj ih _=>obtain ⟨p,hu,hl⟩:=ih;exact ⟨p,hu,zqv hl hj⟩
def zAv (hc:CodeR c) {i:Nat} (h:MetP c i) (ho:(zal c i).op=5):RootP c (agN c i):=by
 obtain ⟨_,⟨_,hr,hf⟩,hl⟩:=zCi hc h;have hg:=zbS hc (h.lt hc) (.inr ho);exact hr.spawn hf ⟨i,h.lt hc,hl,ho,hg.1⟩ hg.2
structure RunI (c:DCode) (s:DState):Prop where
 met:∀ l∈s.stacks,∀ x∈l,MetP c x.toNat
 may:∀ t l:Nat,l<s.owner.length->ow s l=t->0<=zbg s t->MayP c (zbg s t).toNat l
def zqw {v o:List Int} {ss:List (List Int)} {L:List Int} (h:t<ss.length):zbg ⟨v,o,ss.set t L⟩ t=L.getLastD (-1):=by
 unfold zbg;rw [dif_pos ⟨oo,by simpa using h⟩];simp
def zDY {l:List Int} (h:i<l.length):st l i∈l:=by rw [<-zrD h];exact qac h
def RunI.at (h:RunI c s) {t:Nat} (ha:0<=zbg s t):MetP c (zbg s t).toNat:=by
 obtain ⟨h0,h1⟩:=zen ha;rw [zg1 h0 h1] at ha ⊢;have g0:stk s t≠[]:=λe=>by rw [e] at ha;simp [List.getLastD] at ha
 rw [zpV g0];have:=qaO.2 g0;exact h.met (stk s t) (by rw [<-zem h1];exact qac _) _ (zDY oo)
def zsv (hc:CodeR c):RunI c (zb2 c) where
 met l hl x hx:=by
   simp only [zb2,qaa,qad,qaq] at hl;subst hl;simp only [qaa,qad,qaq] at hx;subst hx;exact MetP.root RootP.main
 may t l hl ho _:=by
   exfalso
   have:ow (zb2 c) l=-1:=by
     rw [<-zu4 hl];simp [zb2]
   omega
def zvJ {t:Int} (ha:0<=zbg s t) (h4:¬(atI c s t).op=4) (h9:¬(atI c s t).op=9) (g0:(atI c s t).op=2\/(atI c s t).op=3->0<=(atI c s t).to):(zcJ c s t).toNat∈zaA c (zbg s t).toNat:=by
 have e1:(zbg s t+1).toNat=(zbg s t).toNat+1:=oo;have e2:((zbg s t).toNat:Int)=zbg s t:=qaI ha;unfold zcJ zaA;unfold atI at *;rw [qab h9,e2];by_cases h2:(zal c (zbg s t).toNat).op=2
 . have:=g0 (.inl h2);rw [qah h2,qab oo];by_cases hne:(zal c (zbg s t).toNat).to=zbg s t+1
   . rw [qab (λh=>h.2 hne)];split
     . rw [hne,e1];simp
     rw [e1];simp
   rw [qah ⟨h2,hne⟩];split
   . simp
   rw [e1];simp
 rw [qab h2];by_cases h3:(zal c (zbg s t).toNat).op=3
 . rw [qah h3,qah h3];simp
 rw [qab h3,qab h3,qab (λh=>h2 h.1),e1];simp
def znu (h:(zal c i).op=4):i+1∈zaA c i:=by
 unfold zaA;rw [qab oo,qab oo,qab oo];simp
def zDZ (hc:CodeR c) {i p:Nat} (hi:i<c.ins.length) (ho:(zal c i).op=9) (hp:zas c i=(p:Int)) (g0:p<c.procs.length):i=zN c p:=by
 have h5:=(hc.2.1.2.2.2 i hi).1 ho;rw [hp] at h5;have:=(zhe hc g0).2.1;omega
def znv {l:List Int}:(l++[x]).getLastD d=x:=by simp [List.getLastD_eq_getLast?]
def zhO {l:List Int} (h:l≠[]):(l.set (l.length-1) x).getLastD d=x:=by
 have:=qaO.2 h;rw [List.getLastD_eq_getLast?,List.getLast?_eq_getElem?,qaW,List.getElem?_set,qah rfl,qah oo];rfl
def zsw {o:List Int} {v:List Int} {ss:List (List Int)} {a l:Nat} (ha:a<o.length):ow ⟨v,o.set a x,ss⟩ l=if l=a then x else o.getD l 0:=by
 unfold ow;simp only [qal];rw [List.getD_eq_getElem?_getD,List.getElem?_set];by_cases h:a=l
 . subst h;rw [qah rfl,qah rfl,qah ha];rfl
 rw [qab h,qab (λe=>h e.symm),List.getD_eq_getElem?_getD]
def zoU {t:Int} (hc:CodeR c) (hs:zaV c s) (g0:GoR c s t) {l u:Nat} (hl:l<s.owner.length) (h:ow (za1 c s t) l=u) :
   (ow s l=u/\¬((atI c s t).op=7/\(atI c s t).arg=l/\(u:Int)=t))\/((atI c s t).op=6/\(atI c s t).arg=l/\(u:Int)=t):=by
 have r:ow s l=u->¬(atI c s t).op=7->(ow s l=u/\¬((atI c s t).op=7/\(atI c s t).arg=l/\(u:Int)=t))\/((atI c s t).op=6/\(atI c s t).arg=l/\(u:Int)=t):=λh1 h2=>.inl ⟨h1,λh3=>h2 h3.1⟩;unfold za1 at h;split at h
 . rename_i h4;exact r h oo
 split at h
 . rename_i h9;exact r h oo
 have h:ow (zaP c s t) l=u:=h;unfold zaP at h;split at h
 . rename_i h1;exact r h oo
 split at h
 . rename_i h5;split at h
   . exact r h oo
   exact r h oo
 split at h
 . rename_i h6;have hg:=zdm hc hs g0.1 (.inl h6);rw [zsw hg.2] at h;split at h
   . rename_i e;exact .inr ⟨h6,oo,h.symm⟩
   exact r (by unfold ow;rw [qal];exact h) oo
 split at h
 . rename_i h7;have hg:=zdm hc hs g0.1 (.inr h7);split at h
   . rename_i hot;rw [zsw hg.2] at h;split at h
     . omega
     rename_i hne;exact .inl ⟨by unfold ow;rw [qal];exact h,λh3=>hne oo⟩
   rename_i hot;refine .inl ⟨h,λh3=>hot ?_⟩;have:ow s (atI c s t).arg=u:=by rw [h3.2.1];exact h
   omega
 rename_i h1 h5 h6 h7;exact r h h7
def zCj {t:Int} (hc:CodeR c) (hs:zaV c s) (V:GoR c s t) (hI:RunI c s):RunI c (za1 c s t):=by
 obtain ⟨tn,rfl,g1,g4,_,gc⟩:=zf2 hs V.1;have gd:=qaO.2 g4;have hk:=hs.2.2.2.2.2 (stk s tn) (by rw [<-zem oo];exact qac _);have gf:=ziq hs tn;have C:=V.1;have r:=hI.at C;have D:stk s tn∈s.stacks:=by rw [<-zem (t:=(tn:Int)) (by simpa using g1)];exact qac _
 have g2:(zbg s tn).toNat<c.ins.length:=oo;have I:(za1 c s tn).owner.length=s.owner.length:=by rw [(zgz hc hs V).2.1,hs.2.1]
 have O:∀ (u l:Nat),u≠tn->l<s.owner.length->ow (za1 c s tn) l=u->0<=zbg (za1 c s tn) u->MayP c (zbg (za1 c s tn) u).toNat l:=λu l hu hl ho ha=>by
   rcases zoU hc hs V hl ho with ⟨h1,_⟩ | ⟨_,_,h3⟩
   . have gg:u<s.stacks.length:=by
       have:=(zpW hs (i:=(l:Int)) oo (by simpa using hl)).2;omega
     rw [zFh oo gg oo] at ha ⊢;exact hI.may u l hl h1 ha
   omega
 by_cases h4:(atI c s tn).op=4
 . have e:za1 c s tn=⟨s.vars,s.owner,s.stacks.set tn (stk s tn++[en c (atI c s tn).arg.toNat])⟩:=by unfold za1;rw [qah h4,qal]
   have g5:(en c (atI c s tn).arg.toNat).toNat=eN c (agN c (zbg s tn).toNat):=rfl;refine ⟨λl hl x hx=>?_,λu l hl ho ha=>?_⟩
   . rw [e] at hl;rcases zdx hl with rfl | hl
     . rcases qae.1 hx with hx | hx
       . exact hI.met _ D x hx
       simp only [qaa,qad,qaq] at hx;rw [hx,g5];exact .call r h4
     exact hI.met l hl x hx
   rw [I] at hl;by_cases hu:u=tn
   . subst hu;have g3:ow s l=u:=by rw [e] at ho;exact ho
     have:=hI.may u l hl g3 C;rw [e,zqw g1,znv,g5];exact .call r h4 this
   exact O u l hu hl ho ha
 by_cases h9:(atI c s tn).op=9
 . have e:za1 c s tn=⟨s.vars,s.owner,s.stacks.set tn (zfl (stk s tn))⟩:=by unfold za1;rw [qab h4,qah h9,qal]
   by_cases h1:(stk s tn).length-1=0
   . have ep:zfl (stk s tn)=[]:=by unfold zfl;rw [qah h1]
     rw [ep] at e;refine ⟨λl hl x hx=>?_,λu l hl ho ha=>?_⟩
     . rw [e] at hl;rcases zdx hl with rfl | hl
       . cases hx
       exact hI.met l hl x hx
     rw [I] at hl;by_cases hu:u=tn
     . subst hu;rw [e,zqw g1] at ha;simp [List.getLastD] at ha
     exact O u l hu hl ho ha
   have ep:zfl (stk s tn)=((stk s tn).take ((stk s tn).length-1)).set ((stk s tn).length-2) (st (stk s tn) ((stk s tn).length-2)+1):=by unfold zfl;rw [qab h1]
   have h2:=hk.2.2 ((stk s tn).length-2) oo;have h3:=hk.2.1 ((stk s tn).length-2) oo;have X:MetP c (st (stk s tn) ((stk s tn).length-2)).toNat:=hI.met _ D _ (zDY oo);obtain ⟨b,hb⟩:∃ b:Nat,st (stk s tn) ((stk s tn).length-2)=b:=⟨_,(qaI h3.1).symm⟩;rw [hb] at ep h2 h3 X;simp only [qal] at h2 X;have hg:=zbS hc (X.lt hc) (.inl h2.1)
   have hz:(zbg s tn).toNat=zN c (agN c b):=by
     refine zDZ hc g2 h9 ?_ hg.2;have h5:=h2.2;rw [show (stk s tn).length-2+1=(stk s tn).length-1 by omega,<-gc,hg.1] at h5;rw [qaI C];exact h5
   have g0:(zfl (stk s tn)).getLastD (-1)=(b:Int)+1:=by
     rw [ep];have g9:((stk s tn).take ((stk s tn).length-1)).length=(stk s tn).length-1:=by rw [qaj];omega
     have h6:(stk s tn).length-2=((stk s tn).take ((stk s tn).length-1)).length-1:=oo;rw [h6];exact zhO (λe=>by rw [e] at g9;simp at g9;omega)
   have gb:((b:Int)+1).toNat=b+1:=oo;have U:=znu (c:=c) h2.1;refine ⟨λl hl x hx=>?_,λu l hl ho ha=>?_⟩
   . rw [e] at hl;rcases zdx hl with rfl | hl
     . rw [ep] at hx;rcases zdx hx with rfl | hx
       . rw [gb];exact .back X h2.1 (hz▸r) U
       exact hI.met _ D x (qbh hx)
     exact hI.met l hl x hx
   rw [I] at hl;by_cases hu:u=tn
   . subst hu;have g3:ow s l=u:=by rw [e] at ho;exact ho
     have:=hI.may u l hl g3 C;rw [e,zqw g1,g0,gb];rw [hz] at this r;exact .back X h2.1 r this U
   exact O u l hu hl ho ha
 have e:za1 c s tn=⟨(zaP c s tn).vars,(zaP c s tn).owner,(zaP c s tn).stacks.set tn ((stk s tn).set ((stk s tn).length-1) (zcJ c s tn))⟩:=by unfold za1;rw [qab h4,qab h9,qal]
 have U:=zvJ (c:=c) C h4 h9 λh=>(ziY hc C gf.2 h).1;have hrl:=(zg8 c s tn).1;refine ⟨λl hl x hx=>?_,λu l hl ho ha=>?_⟩
 . rw [e] at hl;rcases zdx hl with rfl | hl
   . rcases zdx hx with rfl | hx
     . exact .next r h4 U
     exact hI.met _ D x hx
   by_cases h5:(atI c s tn).op=5/\s.stacks.length<6
   . have er:(zaP c s tn).stacks=s.stacks++[[en c (atI c s tn).arg.toNat]]:=by
       unfold zaP;rw [qab oo,qah h5.1,qah h5.2]
     rw [er] at hl;rcases qae.1 hl with hl | hl
     . exact hI.met l hl x hx
     simp only [qaa,qad,qaq] at hl;subst hl;simp only [qaa,qad,qaq] at hx;subst hx;exact .root (zAv hc r h5.1)
   have er:(zaP c s tn).stacks=s.stacks:=by
     unfold zaP;split
     . rfl
     split
     . rename_i h6;rw [qab (λh7=>h5 ⟨h6,h7⟩)]
     split
     . rfl
     split
     . split<;>rfl
     rfl
   rw [er] at hl;exact hI.met l hl x hx
 rw [I] at hl;by_cases hu:u=tn
 . subst hu
   have gh:zbg (za1 c s u) u=zcJ c s u:=by
     rw [e,zqw oo];exact zhO g4
   rw [gh];rcases zoU hc hs V hl ho with ⟨h1,h2⟩ | ⟨h1,h2,_⟩
   . refine .pass r h4 (λh7=>h2 ⟨h7.1,?_,rfl⟩) (hI.may u l hl h1 C) U;have:=zdz hc g2 (.inr h7.1);have h8:(atI c s u).arg=(agN c (zbg s u).toNat:Int):=this.1;omega
   refine .lock r h1 ?_ U;have:=zdz hc g2 (.inl h1);have h8:(atI c s u).arg=(agN c (zbg s u).toNat:Int):=this.1;omega
 exact O u l hu hl ho ha
def zj8 (hc:CodeR c) (hs:zaV c s) (hI:RunI c s) {h:Nat} (hh:h<s.owner.length) {u:Int} (ho:ow s h=u) (hw:0<=zaO c s u):(zaO c s u).toNat∈nxL c h:=by
 have:=hw;unfold zaO at hw;split at hw
 . rename_i h1;have e:zaO c s u=(atI c s u).arg:=by unfold zaO;rw [qah h1]
   obtain ⟨_,_⟩:=zen h1.1;obtain ⟨un,rfl⟩:∃ n:Nat,u=n:=⟨u.toNat,oo⟩;have hm:=hI.at h1.1;have g0:=hI.may un h hh ho h1.1;have hg:=zdz hc (hm.lt hc) (.inl h1.2.1);have g1:(atI c s un).arg=(agN c (zbg s un).toNat:Int):=hg.1;rw [e,g1,qal];exact zaI.2 ⟨hg.2.1,(zbg s un).toNat,hm,h1.2.1,rfl,g0⟩
 omega
theorem zkX {c:DCode} {s:DState} (hc:CodeR c) (hs:zaV c s) (hI:RunI c s) (t:Int):∀ (n m:Nat) (u:Int),zhg c s t n m u≠0->0<=zaO c s u/\∃ x:Nat,(x=(zaO c s u).toNat\/RP (nxL c) (zaO c s u).toNat x)/\x<s.owner.length/\ow s x=t
 | 0,m,u,h=>absurd rfl h
 | n+1,m,u,h=>by
   rw [zhg] at h;split at h
   . exact absurd rfl h
   rename_i hw;have hw:0<=zaO c s u:=oo;have g1:=(zib hc hs u).2.2 hw;refine ⟨hw,?_⟩;have g2:∀ x:Int,0<=x->ow s (x.toNat:Int)=ow s x:=λx hx=>by rw [qaI hx]
   split at h
   . rename_i h2;exact ⟨_,.inl rfl,g1.1,by rw [g2 _ hw];exact h2⟩
   obtain ⟨g3,x,hx,g4,g5⟩:=zkX hc hs hI t n _ _ h;have g0:=zj8 hc hs hI g1.1 (g2 _ hw) g3;refine ⟨x,.inr ?_,g4,g5⟩;rcases hx with rfl | hx
   . exact .one g0
   exact (RP.one g0).trans hx
structure Cnd (c:DCode) (r p a:Nat) (H:Nat->Prop):Prop where
 used:UsedP c p
 from_:FromP c r p
 live:za4 c p a
 lostM:∀ l,¬H l->LostM c (tK (zeR c)) (tG (zeR c)) p (some a) l
 lostE:∀ l,¬H l->LostE c p a l
inductive Frm (c:DCode) (r:Nat):List Nat->(Nat->Prop)->Prop
 | one {a:Nat} {H:Nat->Prop} (hr:RootP c r) (hC:Cnd c r r a H):Frm c r [a] H
 | push {a b:Nat} {rest:List Nat} {H0 H:Nat->Prop} (h:Frm c r (b :: rest) H0) (h4:(zal c b).op=4) (hC:Cnd c r (agN c b) a H) (hk:∀ l,(zfP c (agN c b)).testBit l=true->H0 l->H l):Frm c r (a :: b :: rest) H
theorem Frm.root {H:Nat->Prop} (h:Frm c r L H):RootP c r:=by
 induction h with
 | one hr _=>exact hr
 | push _ _ _ _ ih=>exact ih
theorem Frm.top {r a:Nat} {H:Nat->Prop} (h:Frm c r (a :: L) H):∃ p,Cnd c r p a H:=by
 cases h with
 | one _ hC=>exact ⟨_,hC⟩
 | push _ _ hC _=>exact ⟨_,hC⟩
def Cnd.congr {r p a:Nat} {H H':Nat->Prop} (h:Cnd c r p a H) (e:∀ l,H l↔H' l):Cnd c r p a H':=by
 have:H=H':=funext λl=>propext (e l);subst this;exact h
def Frm.congr {H H':Nat->Prop} (h:Frm c r L H) (e:∀ l,H l↔H' l):Frm c r L H':=by
 have:H=H':=funext λl=>propext (e l);subst this;exact h
def zcm (hc:CodeR c) {p i:Nat} (hp:p<c.procs.length) (h:za4 c p i):i<c.ins.length/\zas c i=(p:Int):=zcF hc (by rw [hc.2.1.1];exact hp) h
def zFt (hp:p<c.procs.length) (hl:za4 c p i) (hk:(zfP c p).testBit l=true):¬((zal c i).op=7/\agN c i=l):=λh=>
 (zhd.1 hk).2 ⟨p,i,hp,.inl rfl,hl,h.1,h.2⟩
def zAw (hf:FromP c p q) (hk:(zfP c p).testBit l=true):(zfP c q).testBit l=true:=by
 obtain ⟨h6,h⟩:=zhd.1 hk;exact zhd.2 ⟨h6,λ⟨q',i,h1,h2,h3⟩=>h ⟨q',i,h1,hf.trans h2,h3⟩⟩
def Cnd.next {r p a j:Nat} {H H':Nat->Prop} (h:Cnd c r p a H) (h4:¬(zal c a).op=4) (hj:j∈zaA c a)
   (hH:∀ l,¬H' l->((zal c a).op=7/\agN c a=l)\/(¬H l/\¬((zal c a).op=6/\agN c a=l))):Cnd c r p j H' where
 used:=h.used
 from_:=h.from_
 live:=zqv h.live hj
 lostM l hl:=by
   rcases hH l hl with h7 | ⟨h1,h6⟩
   . exact .gen h.live hj (.inl h7)
   exact .pass h.live hj (h.lostM l h1) ⟨h6,λe=>h4 e.1⟩
 lostE l hl:=by
   rcases hH l hl with h7 | ⟨h1,h6⟩
   . exact .unl h.live hj h7.1 h7.2
   exact .pass h.live hj h6 h4 (h.lostE l h1)
theorem Frm.next (hc:CodeR c) {r a j:Nat} {L:List Nat} {H H':Nat->Prop} (h:Frm c r (a :: L) H) (h4:¬(zal c a).op=4) (hj:j∈zaA c a)
   (hH:∀ l,¬H' l->((zal c a).op=7/\agN c a=l)\/(¬H l/\¬((zal c a).op=6/\agN c a=l))):Frm c r (j :: L) H':=by
 cases h with
 | one hr hC=>exact .one hr (hC.next h4 hj hH)
 | push h0 hb hC hk=>
   refine .push h0 hb (hC.next h4 hj hH) λl g0 hl=>qa1 λhn=>?_;rcases hH l hn with h7 | ⟨h1,_⟩
   . exact zFt (hC.used.lt hc) hC.live g0 h7
   exact h1 (hk l g0 hl)
def Frm.call (hc:CodeR c) {r a:Nat} {L:List Nat} {H:Nat->Prop} (h:Frm c r (a :: L) H) (h4:(zal c a).op=4):Frm c r (eN c (agN c a) :: a :: L) H:=by
 obtain ⟨p,hC⟩:=h.top;have hi:=(zcm hc (hC.used.lt hc) hC.live).1;have hg:=zbS hc hi (.inl h4);have g0:zow c p 4 (agN c a):=⟨a,hi,hC.live,h4,hg.1⟩;exact .push h h4 ⟨hC.used.call hg.2 g0,hC.from_.call hg.2 g0,.inl rfl,λl hl=>.ent (.call hC.used hC.live h4 (hC.lostM l hl)),λl _=>.ent⟩ λl _ hl=>hl
def Cnd.back (hc:CodeR c) {r p b:Nat} {H0 H:Nat->Prop} (h:Cnd c r p b H0) (h4:(zal c b).op=4) (hz:Cnd c r (agN c b) (zN c (agN c b)) H) (hk:∀ l,(zfP c (agN c b)).testBit l=true->H0 l->H l):Cnd c r p (b+1) H:=by
 have hi:=(zcm hc (h.used.lt hc) h.live).1;have hg:=zbS hc hi (.inl h4);have hj:=znu (c:=c) h4
 have hG:∀ l,¬H l->¬tG (zeR c) (agN c b) l:=λl hl ht=>by
   unfold tG at ht;rw [zp6 hg.2] at ht;exact (zhd.1 ht).2 (hz.lostE l hl)
 have hK:∀ l,¬H l->(zfP c (agN c b)).testBit l=true->¬H0 l:=λl hl C h0=>hl (hk l C h0);refine ⟨h.used,h.from_,zqv h.live hj,λl hl=>?_,λl hl=>?_⟩
 . by_cases C:(zfP c (agN c b)).testBit l=true
   . exact .pass h.live hj (h.lostM l (hK l hl C)) ⟨λe=>oo,λe=>hG l hl e.2⟩
   refine .gen h.live hj (.inr ⟨h4,λe=>C ?_,hG l hl⟩);unfold tK at e;rw [zp6 hg.2] at e;exact e
 by_cases C:(zfP c (agN c b)).testBit l=true
 . exact .bck h.live hj h4 (h.lostE l (hK l hl C)) (hz.lostE l hl)
 exact .cal h.live hj h4 (by simpa using C) (hz.lostE l hl)
theorem Frm.back (hc:CodeR c) {r b:Nat} {L:List Nat} {H:Nat->Prop} (h:Frm c r (zN c (agN c b) :: b :: L) H):Frm c r ((b+1) :: L) H:=by
 cases h with
 | push h0 h4 hC hk=>
   cases h0 with
   | one hr hB=>exact .one hr (hB.back hc h4 hC hk)
   | push h1 hb4 hB hkb=>
     refine .push h1 hb4 (hB.back hc h4 hC hk) λl g0 g1=>?_;have hi:=(zcm hc (hB.used.lt hc) hB.live).1;have hg:=zbS hc hi (.inl h4);have hf:FromP c _ (agN c b):=.inr (.one (zaI.2 ⟨hg.2,b,hi,hB.live,h4,hg.1⟩));exact hk l (zAw hf g0) (hkb l g0 g1)
def zGT (c:DCode):Nat:=2^c.locks.length-1
def zGU (c:DCode) (s:DState) (t:Nat):Prop:=0<=zbg s t->zhi (zaE (zg6 c) (zbg s t).toNat &&& zGT c) (zDS s t)/\zhi (zDS s t) (zaE (zqD c) (zbg s t).toNat)
def zAx (c:DCode) (s:DState):Prop:=(CodeR c/\zaV c s)/\∀ t,t<s.stacks.length->zGU c s t
noncomputable instance (c:DCode) (s:DState):Decidable (zAx c s):=Classical.propDecidable _
def zcQ (s:DState) (t:Nat):List Nat:=((stk s t).map Int.toNat).reverse
def znS (s:DState) (t:Nat) (l:Nat):Prop:=s.owner[l]?=some (t:Int)
def zxv (c:DCode) (s:DState):Prop:=∀ t:Nat,t<s.stacks.length->stk s t≠[]->∃ r,Frm c r (zcQ s t) (znS s t)
def zlK {v o:List Int} {ss:List (List Int)} {L:List Int} (h:t<ss.length):stk ⟨v,o,ss.set t L⟩ t=L:=by
 unfold stk;rw [List.getD_eq_getElem?_getD,qal,List.getElem?_set,qah rfl,qah h];rfl
def zAy {t:Int} {u:Nat} (ht:0<=t) (g0:(u:Int)≠t) (hu:u<s.stacks.length):stk (za1 c s t) u=stk s u:=by
 have:=(zne (c:=c) (s:=s) ht).2 u g0 hu;unfold stk;rw [List.getD_eq_getElem?_getD,List.getD_eq_getElem?_getD,qal,this]
def zvK {a:Nat} (h:a<s.owner.length) (e:ow s a=x):s.owner[a]?=some x:=by
 rw [List.getElem?_eq_getElem h,zu4 h,e]
def zoV (c:DCode) (s:DState) (t:Int):(zaP c s t).owner=if (atI c s t).op=6 then s.owner.set (atI c s t).arg.toNat t else if (atI c s t).op=7/\ow s (atI c s t).arg=t then s.owner.set (atI c s t).arg.toNat (-1) else s.owner:=by
 unfold zaP;split
 . rename_i h;rw [qab oo,qab oo]
 split
 . rename_i h;rw [qab (show ¬(atI c s t).op=6 by omega),qab (show ¬((atI c s t).op=7/\ow s (atI c s t).arg=t) from λ_=>oo)];split<;>rfl
 split
 . rfl
 split
 . rename_i h6 h7;split
   . rename_i h8;rw [qah ⟨h7,h8⟩]
   rename_i h8;rw [qab (λh=>h8 h.2)]
 rename_i h7;rw [qab (λh=>h7 h.1)]
def ztY {t:Int}:(za1 c s t).owner=s.owner\/(¬(atI c s t).op=4/\¬(atI c s t).op=9/\(za1 c s t).owner=(zaP c s t).owner):=by
 unfold za1;split
 . exact .inl rfl
 split
 . exact .inl rfl
 rename_i h4 h9;exact .inr ⟨h4,h9,rfl⟩
def zCk {t:Int} (hc:CodeR c) (hs:zaV c s) (g0:GoR c s t) {u:Nat} (hu:(u:Int)≠t) (l:Nat):znS (za1 c s t) u l↔znS s u l:=by
 unfold znS;rcases ztY (c:=c) (s:=s) (t:=t) with e | ⟨_,_,e⟩
 . rw [e]
 rw [e,zoV]
 have g1:∀ (a:Nat) (x:Int),x≠u->s.owner[a]?≠some (u:Int)->((s.owner.set a x)[l]?=some (u:Int)↔s.owner[l]?=some (u:Int)):=λa x h1 h2=>by
   rw [List.getElem?_set];by_cases h:a=l
   . subst h;rw [qah rfl];constructor
     . intro h;split at h
       . exact absurd (qa0 h) h1
       cases h
     intro h;exact absurd h h2
   rw [qab h]
 split
 . rename_i h6;have hg:=zdm hc hs g0.1 (.inl h6);refine g1 _ _ (λh=>hu h.symm) λh=>?_;rw [zvK hg.2 (x:=-1) (by rw [qaI hg.1];exact g0.2.1 h6)] at h;have:=qa0 h;omega
 split
 . rename_i h6 h7;have hg:=zdm hc hs g0.1 (.inr h7.1);refine g1 _ _ oo λh=>?_;rw [zvK hg.2 (x:=t) (by rw [qaI hg.1];exact h7.2)] at h;exact hu (qa0 h).symm
 exact .rfl
def zCl (hc:CodeR c) (hs:zaV c s) (g1:GoR c s t) (h4:¬(atI c s t).op=4) (h9:¬(atI c s t).op=9) (l:Nat) (h:¬znS (za1 c s t) t l) :
   ((atI c s t).op=7/\agN c (zbg s t).toNat=l)\/(¬znS s t l/\¬((atI c s t).op=6/\agN c (zbg s t).toNat=l)):=by
 have e:(za1 c s t).owner=(zaP c s t).owner:=by unfold za1;rw [qab h4,qab h9]
 have g0:agN c (zbg s t).toNat=(atI c s t).arg.toNat:=rfl;rw [g0];unfold znS at h ⊢;rw [e,zoV] at h;by_cases h7:(atI c s t).op=7/\(atI c s t).arg.toNat=l
 . exact .inl h7
 right;split at h
 . rename_i h6;have hg:=zdm hc hs g1.1 (.inl h6);rw [List.getElem?_set] at h;by_cases e:(atI c s t).arg.toNat=l
   . rw [qah e,qah hg.2] at h;exact absurd rfl h
   rw [qab e] at h;exact ⟨h,λh8=>e h8.2⟩
 rename_i h6;refine ⟨?_,λh8=>h6 h8.1⟩;split at h
 . rename_i h8;rw [List.getElem?_set,qab (λe=>h7 ⟨h8.1,e⟩)] at h;exact h
 exact h
def zin {l:List Int} (h:l≠[]):∃ L,l=L++[l.getLastD (-1)]:=by
 refine ⟨l.dropLast,?_⟩;rw [List.getLastD_eq_getLast?,List.getLast?_eq_some_getLast h];exact (List.dropLast_concat_getLast h).symm
def zvL {L:List Int}:(L++[a]).set L.length x=L++[x]:=by
 rw [qbb _ _ (lr _)];simp
def zdB {L:List Int}:((L++[a]).map Int.toNat).reverse=a.toNat :: (L.map Int.toNat).reverse:=by simp
def ztZ {L:List Int} {a b:Int}:zfl (L++[b]++[a])=L++[b+1]:=by
 unfold zfl;have h1:(L++[b]++[a]).length=L.length+2:=by simp
 rw [h1,qab oo]
 have e1:(L++[b]++[a]).take (L.length+2-1)=L++[b]:=by
   rw [List.take_append_of_le_length sS];rw [qaf sS]
 have e2:st (L++[b]++[a]) (L.length+2-2)=b:=by
   unfold st;rw [List.getD_eq_getElem?_getD,qaw,List.getElem?_append_right oo];simp
 rw [e1,e2,show L.length+2-2=L.length by omega];exact zvL
def znw (hc:CodeR c):zxv c (zb2 c):=by
 intro t ht _;have g0:t=0:=by simp [zb2] at ht;omega
 subst g0;have e:zcQ (zb2 c) 0=[eN c (zdr c)]:=rfl;refine ⟨zdr c,?_⟩;rw [e];exact .one .main ⟨RootP.main.used,.inl rfl,.inl rfl,λl _=>.ent (.root .main),λl _=>.ent⟩
def zhb (hc:CodeR c) (hs:zaV c s) (g4:GoR c s t):∃ rest,zcQ s t=(zbg s t).toNat :: rest/\t<s.stacks.length/\stk s t≠[] /\
   (((atI c s t).op=4/\zcQ (za1 c s t) t=eN c (agN c (zbg s t).toNat) :: (zbg s t).toNat :: rest/\(za1 c s t).owner=s.owner) \/
    ((atI c s t).op=9/\rest=[]/\stk (za1 c s t) t=[]) \/
    ((atI c s t).op=9/\(∃ b rest',rest=b :: rest'/\(zal c b).op=4/\(zbg s t).toNat=zN c (agN c b)/\zcQ (za1 c s t) t=(b+1) :: rest')/\(za1 c s t).owner=s.owner) \/
    (¬(atI c s t).op=4/\¬(atI c s t).op=9/\∃ j,j∈zaA c (zbg s t).toNat/\zcQ (za1 c s t) t=j :: rest)):=by
 obtain ⟨tn,g2,C,g0,_,g3⟩:=zf2 hs g4.1;have g2:t=tn:=oo;subst g2;have r:=g4.1;have hk:=hs.2.2.2.2.2 (stk s t) (by rw [<-zem (t:=(t:Int)) (by simpa using C)];exact qac _);have g9:=ziq hs t;obtain ⟨L,hL⟩:=zin g0;have g1:(stk s t).getLastD (-1)=zbg s t:=by rw [g3,<-zpV g0]
 rw [g1] at hL;have gb:zcQ s t=(zbg s t).toNat :: (L.map Int.toNat).reverse:=by unfold zcQ;rw [hL];exact zdB
 have gc:(zbg s t).toNat<c.ins.length:=oo;refine ⟨(L.map Int.toNat).reverse,gb,C,g0,?_⟩;by_cases h4:(atI c s t).op=4
 . have e:za1 c s t=⟨s.vars,s.owner,s.stacks.set t (stk s t++[en c (atI c s t).arg.toNat])⟩:=by unfold za1;rw [qah h4,qal]
   refine .inl ⟨h4,?_,by rw [e]⟩;unfold zcQ;rw [e,zlK C,zdB,hL,zdB];rfl
 by_cases h9:(atI c s t).op=9
 . have e:za1 c s t=⟨s.vars,s.owner,s.stacks.set t (zfl (stk s t))⟩:=by unfold za1;rw [qab h4,qah h9,qal]
   by_cases hLn:L=[]
   . refine .inr (.inl ⟨h9,by rw [hLn];rfl,?_⟩);rw [e,zlK C,hL,hLn];rfl
   obtain ⟨L1,g5⟩:=zin hLn;generalize L.getLastD (-1)=b at g5;subst g5;have gd:(stk s t).length=L1.length+2:=by rw [hL];simp
   have hb:st (stk s t) L1.length=b:=by
     rw [hL];unfold st;rw [List.getD_eq_getElem?_getD,qaw,List.getElem?_append_right oo];simp
   have gf:=(hk.2.1 L1.length oo);have h2:=hk.2.2 L1.length oo;rw [hb] at gf h2;have gg:b.toNat<c.ins.length:=oo;have hg:=zbS hc gg (.inl h2.1)
   have hz:(zbg s t).toNat=zN c (agN c b.toNat):=by
     refine zDZ hc gc h9 ?_ hg.2;have h5:=h2.2;rw [show L1.length+1=(stk s t).length-1 by omega,<-g3,hg.1] at h5;rw [qaI r];exact h5
   have hf:zcQ (za1 c s t) t=(b.toNat+1) :: (L1.map Int.toNat).reverse:=by
     unfold zcQ;rw [e,zlK C,hL,ztZ,zdB,show (b+1).toNat=b.toNat+1 by omega]
   exact .inr (.inr (.inl ⟨h9,⟨b.toNat,(L1.map Int.toNat).reverse,zdB,h2.1,hz,hf⟩,by rw [e]⟩))
 have e:za1 c s t=⟨(zaP c s t).vars,(zaP c s t).owner,(zaP c s t).stacks.set t ((stk s t).set ((stk s t).length-1) (zcJ c s t))⟩:=by unfold za1;rw [qab h4,qab h9,qal]
 have gh:=zvJ (c:=c) r h4 h9 λh=>(ziY hc r g9.2 h).1;have hrl:=(zg8 c s t).1;refine .inr (.inr (.inr ⟨h4,h9,_,gh,?_⟩));unfold zcQ;rw [e,zlK oo]
 have:(stk s t).set ((stk s t).length-1) (zcJ c s t)=L++[zcJ c s t]:=by
   rw [hL,qag,qak,qaC,show L.length+(0+1)-1=L.length by omega];exact zvL
 rw [this,zdB]
def zoW {t u:Nat} (hc:CodeR c) (hs:zaV c s) (g3:GoR c s t) (hu:u<(za1 c s t).stacks.length) (hul:s.stacks.length<=u) :
   (atI c s t).op=5/\u=s.stacks.length/\zcQ (za1 c s t) u=[eN c (agN c (zbg s t).toNat)]:=by
 obtain ⟨tn,g1,_,_,_,_⟩:=zf2 hs g3.1;have g1:t=tn:=oo;subst g1
 have h4:¬(atI c s t).op=4:=λh4=>by
   have e:(za1 c s t).stacks.length=s.stacks.length:=by unfold za1;rw [qah h4];simp
   omega
 have h9:¬(atI c s t).op=9:=λh9=>by
   have e:(za1 c s t).stacks.length=s.stacks.length:=by unfold za1;rw [qab h4,qah h9];simp
   omega
 have e:(za1 c s t).stacks=(zaP c s t).stacks.set t ((stk s t).set ((stk s t).length-1) (zcJ c s t)):=by unfold za1;rw [qab h4,qab h9,qal]
 have g0:u<(zaP c s t).stacks.length:=by rw [e,qaW] at hu;exact hu
 by_cases h5:(atI c s t).op=5/\s.stacks.length<6
 . have er:(zaP c s t).stacks=s.stacks++[[en c (atI c s t).arg.toNat]]:=by
     unfold zaP;rw [qab oo,qah h5.1,qah h5.2]
   rw [er,qag,qak,qaC] at g0;have g2:u=s.stacks.length:=oo;refine ⟨h5.1,g2,?_⟩
   have g4:stk (za1 c s t) u=[en c (atI c s t).arg.toNat]:=by
     unfold stk;rw [List.getD_eq_getElem?_getD,qal,e,er,List.getElem?_set,qab oo,List.getElem?_append_right oo,g2];simp
   unfold zcQ;rw [g4];rfl
 exfalso
 have er:(zaP c s t).stacks=s.stacks:=by
   unfold zaP;split
   . rfl
   split
   . rename_i h6;rw [qab (λh7=>h5 ⟨h6,h7⟩)]
   split
   . rfl
   split
   . split<;>rfl
   rfl
 rw [er] at g0;omega
def zkY {t:Int} {u:Nat} (ht:0<=t) (g0:(u:Int)≠t) (hu:u<s.stacks.length):zcQ (za1 c s t) u=zcQ s u:=by
 unfold zcQ;rw [zAy ht g0 hu]
def zCm {t:Int} (hc:CodeR c) (hs:zaV c s) (D:GoR c s t) (hI:zxv c s):zxv c (za1 c s t):=by
 obtain ⟨tn,rfl,g3,g4,_,_⟩:=zf2 hs D.1;obtain ⟨_,g5,-,-,g0⟩:=zhb hc hs D;have:=ziq hs tn;have g2:(zbg s tn).toNat<c.ins.length:=by have:=D.1;omega
 obtain ⟨r,hF⟩:=hI tn g3 g4;rw [g5] at hF;intro u hu C;by_cases hut:u=tn
 . subst hut;rcases g0 with ⟨h4,hf,ho⟩ | ⟨h9,_,hn⟩ | ⟨h9,⟨_,_,rfl,_,hz,hf⟩,ho⟩ | ⟨h4,h9,_,hj,hf⟩
   . refine ⟨r,?_⟩;rw [hf];refine (hF.call hc h4).congr λl=>?_;unfold znS;rw [ho]
   . exact absurd hn C
   . refine ⟨r,?_⟩;rw [hz] at hF;rw [hf];refine (Frm.back hc hF).congr λl=>?_;unfold znS;rw [ho]
   refine ⟨r,?_⟩;rw [hf];exact hF.next hc h4 hj λl hl=>zCl hc hs D h4 h9 l hl
 have g1:(u:Int)≠(tn:Int):=λ_=>hut oo;rcases qay u s.stacks.length with I | I
 . rw [zAy oo g1 I] at C;obtain ⟨r',g9⟩:=hI u I C;refine ⟨r',?_⟩;rw [zkY oo g1 I];exact g9.congr λl=>(zCk hc hs D g1 l).symm
 obtain ⟨h5,_,hf⟩:=zoW hc hs D hu I;obtain ⟨_,hC⟩:=hF.top;have hg:=zbS hc g2 (.inr h5);have hR:RootP c (agN c (zbg s tn).toNat):=hF.root.spawn hC.from_ ⟨_,g2,hC.live,h5,hg.1⟩ hg.2;refine ⟨agN c (zbg s tn).toNat,?_⟩;rw [hf];exact .one hR ⟨hR.used,.inl rfl,.inl rfl,λl _=>.ent (.root hR),λl _=>.ent⟩
theorem zFu {K G:Nat->Nat->Prop} (hb:∀ l,LostM c K G p none l->¬(zxr c p).testBit l=true) (h:LostM c K G p (some i) l):LostP c K G p (λl=>(zxr c p).testBit l=true) i l:=by
 generalize ho:some i=o at h
 induction h generalizing i with
 | root _=>cases ho
 | call _ _ _ _=>cases ho
 | ent h _=>cases ho;exact .ent (hb _ h)
 | gen h0 hj h1=>cases ho;exact .gen h0 hj h1
 | pass h0 hj _ h2 ih=>cases ho;exact .pass h0 hj (ih hb rfl) h2
def zsx (hc:CodeR c) {r p a:Nat} {H:Nat->Prop} (h:Cnd c r p a H) {l:Nat} (hb:(zaE (zg6 c) a).testBit l=true):H l:=by
 refine qa1 λhn=>?_;have hp:=h.used.lt hc;obtain ⟨hi,g1⟩:=zcm hc hp h.live;rw [zve hi,zmQ g1 h.used,zjS hi] at hb;refine (zhd.1 hb).2 (zFu (λl hl g0=>?_) (h.lostM l hn));unfold zxr at g0;exact (zhd.1 g0).2 hl
def zAz (hI:zxv c s) {t:Nat} (ha:0<=zbg s t):∃ r p,RootP c r/\Cnd c r p (zbg s t).toNat (znS s t):=by
 obtain ⟨h0,h1⟩:=zen ha;have h1:t<s.stacks.length:=by simpa using h1
 have g0:stk s t≠[]:=λe=>by rw [zg1 h0 (by simpa using h1),e] at ha;simp [List.getLastD] at ha
 obtain ⟨r,hF⟩:=hI t h1 g0;obtain ⟨L,hL⟩:=zin g0;rw [<-zg1 h0 (by simpa using h1)] at hL;have g1:zcQ s t=(zbg s t).toNat :: (L.map Int.toNat).reverse:=by unfold zcQ;rw [hL];exact zdB
 rw [g1] at hF;obtain ⟨p,hC⟩:=hF.top;exact ⟨r,p,hF.root,hC⟩
def zw5 (h0:Is W0 v0 c) (e0:Ext W0 w) (hc:CodeR c) :
   CALL tp 86 [v0] w λr w'=>Ext w w'/\∃ A,AInv (zfu c) A/\Own w.heap.size w' r A:=by
 refine co (g:=kf [] [(4,17592186043496,[3,5])] [(6,[0,1,2,3,4,5,6,7,8,9,10,11,12],2048),(7,[0,1,2,3,4,5,6,7,8,9,10,11,12],0)]) Tryz.func86 ?_;have hol:=zvx hc;have gg:=hc.1.locks6;refine zbp h0 e0 λ_ gh hA=>zaD (α:=DArc) zoa zfc λ_ _ g2 _=>zab zbY hA g2 λ_ h8=>?_;refine (zAh h8 g2 hc).mono ?_;rintro _ w3 ⟨gi,gj⟩;have h9:=gj.is;have g0:=(gh.t g2).trans gi;have g3:=g0.size;refine zap (zfu c).length (λk us w'=>∃ out A,us=[out,.int .i64 (k:Int)]/\k<=(zfu c).length/\Ext w3 w'/\RowI w3.heap.size w'.heap.size 170 w' out A/\AInv ((zfu c).take k) A) 0 (z0 _) ⟨_,[],rfl,z0 _,xrf _,zcd _ _ _ _ _,by rw [qb1];exact AInv.start⟩ ?_;rintro k mk _ w4 _ ⟨out,A,hq,_,U,gb,hI⟩;obtain ⟨gl,gp⟩:=zcZ hq;rw [gl,gp];have hs4:=U.size;refine zae zDn h9<|zaf<|br (λ_=>?_) (λ_=>?_)
 case refine_2=>
   have gq:k=(zfu c).length:=oo;rw [gq,qaB] at hI;exact ⟨g0.t U,A,hI,gb.own.own.mono g3⟩
 have hk:k<(zfu c).length:=oo
 have gc:((zfu c).take k++[(zfu c)[k]]).Pairwise ltO:=by
   rw [<-tk hk];exact (ztM c).sublist (qcz _ _)
 have gd:=zqk gg hI.pw (hI.rng hc);have g4:=zag w4;generalize World.drew1 w4=w5 at *;have e5:=U.t g4;refine zad zDn zq4 h9 hk λ_ _ gr=>zaa zpp<|zac ty3 (znf gr) e5 λgs=>zad zDn zq4 h9 hk λ_ _ gt=>zaa zpq<|zac ty3 (zng gt) e5 λgx=>zaF (cells:=#[.int .i64 (zfu c)[k].fr,.int .i64 (zfu c)[k].to]) kK ?_;have gy:Is w5 (.agg #[.int .i64 (zfu c)[k].fr,.int .i64 (zfu c)[k].to]) (zir (zfu c)[k]):=zoT.2 ⟨rfl,gs,gx⟩;refine zxG zBd rfl zfc rfl gy (xrf _) λw6 gf g1 _=>?_;have C:=zag w6;generalize World.drew1 w6=w7 at *;have V:=((gb.ext g4).ext gf).ext C;have O:=(g4.t gf).trans C;have g5:=O.size
 have D:zir (zfu c)[k]∉A->RD tp (Instr.loadAt 170 (.pointer (some ⟨w5.heap.size,0,none⟩))) w7 λgz=>OP tp (Instr.buildSlice 109 1 #[(0,gz)]) w7 λgC w=>OP tp (Builtin.append_ #[109,109] 109 [out,gC].toArray) w λgD w=>RD tp (bin .add 3 (.tmp 0) (.const undef) (.int .i64 (k:Int)) (.int .i64 1)) w λgE=>∃ m',m'<mk/\∃ k',k'+m'=(zfu c).length/\∃ out A,[gD,gE]=[out,.int .i64 (k':Int)]/\k'<=(zfu c).length/\Ext w3 w/\RowI w3.heap.size w.heap.size 170 w out A/\AInv ((zfu c).take k') A:=λgF=>by
   refine zab zfc g1 C λ_ gG=>zbM (lo2:=w7.heap.size) (hi2:=w7.heap.size) (x:=zir (zfu c)[k]) zoa zfc zHL zGp qd V oo (zf4 (gG.ext C)) oo oo (by rw [zaj];omega) oo λv' _ gH gI=>zau<|⟨mk-1,oo,k+1,oo,v',A++[zir (zfu c)[k]],rfl,oo,(U.t O).chgI gH (lr _),gI,?_⟩;rw [tk hk];exact hI.new gc gF
 refine zae zoa V.is<|zai<|br (λh0=>?_) (λ_=>?_)
 . have:A=[]:=qan oo;exact D (by rw [this];simp)
 have I:=hI.last gc oo;refine zae zoa V.is<|zbe io ?_;rw [show ((A.length:Int)-1)=((A.length-1:Nat):Int) by omega];refine zad (i:=A.length-1) zoa zfc V.is oo λ_ _ gJ=>zab zfc gJ (xrf _) λ_ gK=>zab zfc g1 C λ_ gM=>zw2 gK gM<|br (λgN=>?_) (λgO=>?_)
 . exact D λh=>gN (I.2 h)
 have g9:=I.1 (qai.1 gO);refine zau<|⟨mk-1,oo,k+1,oo,out,A,rfl,oo,U.t O,V.mono (lr _) g5,?_⟩;rw [tk hk];exact hI.old g9
open Classical in
noncomputable def znx (c:DCode) (n:Nat):List (List Nat):=(List.range n).flatMap λn=>(zcg c).filter λp=>decide (p.head?=some n/\zuP (nxL c) p)
open Classical in
noncomputable def zhf (c:DCode) (n k:Nat):List (List Nat):=((zcg c).take k).filter λp=>decide (p.head?=some n/\zuP (nxL c) p)
def zt0 (c:DCode) (n:Nat):znx c (n+1)=znx c n++zhf c n (zcg c).length:=by
 unfold znx zhf;rw [qbU,qbc,qaB];simp
def zw6 (hk:k<(zcg c).length) (h:(zcg c)[k].head?=some n/\zuP (nxL c) (zcg c)[k]):zhf c n (k+1)=zhf c n k++[(zcg c)[k]]:=by
 unfold zhf;rw [tk hk,qbq];simp [h]
def zAA (hk:k<(zcg c).length) (h:¬((zcg c)[k].head?=some n/\zuP (nxL c) (zcg c)[k])):zhf c n (k+1)=zhf c n k:=by
 unfold zhf;rw [tk hk,qbq];simp [h]
def zw7 (c:DCode) (n k:Nat):(zhf c n k).length<=k:=qat (qbK _ _) (by rw [qaj];omega)
open Classical in
def zw8 (hc:CodeR c) (n:Nat):(znx c n).length<=n*6:=by
 have h6:=hc.1.locks6;have hll:=znp c;have:=zkR (l:=List.range n) (B:=6) (f:=λn=>(zcg c).filter λp=>decide (p.head?=some n/\zuP (nxL c) p)) λ_ _=>qat (qbK _ _) oo;rw [qbe] at this;exact this
def zsy (h0:Is W0 v0 c) (e0:Ext W0 w) (hc:CodeR c) :
   CALL tp 36 [v0] w λr w'=>Ext w w'/\Own w.heap.size w' r ((zf5 c).map za5):=by
 refine co (g:=kf [] [(5,144115188075790560,[5,6]),(8,144115188067467424,[5,7])] [(10,[0,1,2,3,4,5,6,7,8,9,10,11,12,13,14,15,16,17,18],0)]) Tryz.func36 ?_;have h6l:=hc.1.locks6;refine zbp h0 e0 λ_ gI hA=>zab zbY hA (xrf _) λ_ h8=>?_;refine (zw5 h8 (xrf _) hc).mono ?_;rintro _ w2 ⟨g4,_,gb,gx⟩;obtain ⟨gy,gz⟩:=zvH hc gb;refine zaa zfk<|zab zdt (zbU hA) g4 λ_ gJ=>zae u24 gJ ?_;refine (zw3 gx.is (xrf _) oo gy gz).mono ?_;rintro v14 w3 ⟨g5,Z⟩;rw [zlJ hc gb] at Z;change Own w2.heap.size w3 v14 ((zcg c).map za5) at Z;have g0:=(gI.t g4).trans g5;have gc:=g0.size;have hll:=znp c;refine zaD (α:=List Int) u31 zaS λ_ _ gK _=>zap c.locks.length (λn us w'=>∃ out,us=[out,.int .i64 (n:Int)]/\n<=c.locks.length/\Ext w3 w'/\RowI w3.heap.size w'.heap.size 25 w' out ((znx c n).map za5)) 0 (z0 _) ⟨_,rfl,z0 _,gK,zcd _ _ _ _ _⟩ ?_;rintro n mn _ _ _ ⟨out,hq,_,gd,gf⟩;obtain ⟨gM,gN⟩:=zcZ hq;rw [gM,gN];refine zaa zfk<|zab zdt (zbU hA) ((g4.t g5).trans gd) λ_ gO=>zae u24 gO<|zaf<|br (λ_=>?_) (λ_=>?_)
 case refine_2=>
   have gg:n=c.locks.length:=oo;rw [gg] at gf;exact ⟨g0.t gd,gf.own.own.mono gc⟩
 have hn:n<c.locks.length:=oo;have hKl:=zw8 hc n;refine zap (zcg c).length (λk us w'=>∃ out,us=[out,.int .i64 (k:Int)]/\k<=(zcg c).length/\Ext w3 w'/\RowI w3.heap.size w'.heap.size 25 w' out ((znx c n++zhf c n k).map za5)) 0 (z0 _) ⟨_,rfl,z0 _,gd,by simpa [zhf] using gf⟩ ?_;rintro k mk _ w6 _ ⟨O,gP,_,gh,gi⟩;obtain ⟨gj,gl⟩:=zcZ gP;rw [gj,gl];have hIl:=zw7 c n k;refine zae u31 Z.is ?_;rw [qaD];refine zaf<|br (λ_=>?_) (λ_=>?_)
 case refine_2=>
   have gQ:k=(zcg c).length:=oo;rw [gQ,<-zt0] at gi;refine zau<|⟨mn-1,oo,n+1,oo,O,rfl,oo,gh,gi⟩
 have hk:k<(zcg c).length:=oo;obtain ⟨_,gR⟩:=zkS (qac hk);obtain ⟨hd,g9,gS,_⟩:=zim (qac hk);have U:k<((zcg c).map za5).length:=by rw [qaD];exact hk
 have gp:=zag w6;generalize World.drew1 w6=w7 at *;have C:=gh.t gp;have gC:=gi.ext gp;have hs7:=gp.size;have gU:=gh.size
 have V:0<(za5 (zcg c)[k]).length:=by
   rw [zah];exact qb4 gS
 have gV:(za5 (zcg c)[k])[0]'V=(hd:Int):=by
   rw [<-ztN (qcS V)];exact zf6 g9
 have D:¬((zcg c)[k].head?=some n/\zuP (nxL c) (zcg c)[k])->∀ w8,Ext w7 w8->∃ m',m'<mk/\∃ k',k'+m'=(zcg c).length/\∃ out,[O,Value.int .i64 ((k+1:Nat):Int)]=[out,.int .i64 (k':Int)]/\k'<=(zcg c).length/\Ext w3 w8/\RowI w3.heap.size w8.heap.size 25 w8 out ((znx c n++zhf c n k').map za5):=λh w8 I=>
   ⟨mk-1,oo,k+1,oo,O,rfl,oo,C.t I,by rw [zAA hk h];exact (gC.ext I).mono (lr _) (by have:=I.size;omega)⟩
 refine zad (i:=k) u31 zaS Z.is U λ_ _ gD=>?_;rw [qbZ] at gD;refine zab zaS gD C λ_ gW=>zad (i:=0) u25 ty3 gW V λ_ _ gE=>?_;rw [gV] at gE;refine zac ty3 gE C λ_=>zai<|br (λ_=>?_) (λgg=>?_)
 case refine_2=>refine zau<|D (λh=>gg ?_) _ (xrf _);rw [g9] at h;have:=qa0 h.1;omega
 have gX:hd=n:=oo;rw [gX] at g9;refine zaa zfk<|zab zdt (zbU hA) ((g4.t g5).trans C) λ_ gY=>zae u24 gY<|zad (i:=k) u31 zaS Z.is U λ_ _ gF=>?_;rw [qbZ] at gF;refine zab zaS gF C λ_ gZ=>?_;refine (zqu gx.is (g5.t C) gZ C oo gy gz gR oo).mono ?_;rintro _ w8 ⟨I,_,rfl,gq⟩;rw [zlJ hc gb] at gq;refine zbX (λhy=>?_) (λgG=>?_)
 case refine_2=>refine zau<|D (λh=>by rw [gq.2 h.2] at gG;cases gG) _ I
 have h2:=gq.1 hy;have hs8:=I.size;refine zaD (α:=Int) u25 ty3 λ_ w9 gr h4=>?_;have hs9:=gr.size;have X:=(C.t I).trans gr;refine zad (i:=k) u31 zaS Z.is U λ_ _ gH=>?_;rw [qbZ] at gH;refine zab zaS gH X λ_ h5=>zd0 u25 ty3 zc3 h4 (lr _) h5 X (by rw [zah,zaj];simp;omega) (by rw [zah];simp;omega) λ_ h6 Y g1=>?_;rw [qbE] at g1;have h9:=Y.size;have g2:=((gC.ext I).ext gr).chg Y oo;have g3:=X.chgI Y oo;have hsx:=g3.size;refine zbM (lo2:=w9.heap.size) (hi2:=h6.heap.size) (x:=za5 (zcg c)[k]) u31 zaS z25 zyq qd g2 oo g1.own oo oo (by rw [qaD,qag,zaj];omega) (by rw [qaD,qag];omega) λha _ gs gt=>zau<|⟨mk-1,oo,k+1,oo,ha,rfl,oo,g3.chgI gs (lr _),?_⟩;rw [zw6 hk ⟨g9,h2⟩,<-qaw,qbx];exact gt
def zhP (h0:Is W0 v0 c) (e0:Ext W0 w) :
   CALL tp 14 [v0] w λr w'=>Ext w w'/\Own w.heap.size w' r (zha c):=by
 refine co (g:=kf [] [] []) Tryz.func14 ?_;refine zbp h0 e0 λ_ g1 hA=>zab zbY hA (xrf _) λ_ h3=>?_;refine (zgU h3 (xrf _)).mono ?_;rintro _ _ ⟨C,rfl⟩;have:=g1.size;have:=C.size;refine zav<|br (λhn=>?_) (λhy=>?_)
 . refine zaD (α:=List Int) u31 zaS λ_ w3 g0 g2=>?_;refine ⟨g1.t (C.t g0),?_⟩;unfold zha;rw [qab hn];exact g2.own.own.mono (by have:=g0.size;omega)
 have hc:=qai.1 hy;refine zab zbY hA C λ_ h7=>?_;refine (zsy h7 C hc).mono ?_;rintro _ w3 ⟨g0,g3⟩;refine ⟨g1.t (C.t g0),?_⟩;unfold zha;rw [qah hc];exact g3.mono oo
def StP (c:DCode) (r p i:Nat):Prop:=za4 c p i/\(zal c i).op=5/\agN c i=r
noncomputable def zf7 (c:DCode) (r:Nat):List Nat:=(zbK c.procs.length (UsedP c)).flatMap λp=>zbK c.ins.length (StP c r p)
theorem zt1 {p q:Nat->Prop} {f:Nat->Bool} (h:∀ i,i<n->(f i=true↔q i)):(zbK n p).filter f=zbK n λi=>p i/\q i:=by
 induction n with
 | zero=>rfl
 | succ n ih=>
   have ih:=ih λi _=>h i oo;by_cases hp:p n
   . rw [zel hp,qbq,ih];by_cases hq:q n
     . rw [zel ⟨hp,hq⟩];simp [(h n oo).2 hq]
     rw [zeO λe=>hq e.2]
     have:f n=false:=by
       cases e:f n
       . rfl
       exact absurd ((h n oo).1 e) hq
     simp [this]
   rw [zeO hp,zeO λe=>hp e.1,ih]
theorem zj9 {α β:Type} {f:α->List β} {B:Nat}:∀ {l:List α},(∀ a∈l,(f a).length<=B)->(l.flatMap f).length<=l.length*B
 | [],_=>by simp
 | a :: l,h=>by
   have h1:=h a sS;have h2:=zj9 (l:=l) λb hb=>h b (by simp [hb]);simp only [qbD,qag,qak,qbp];omega
def zw9 (hc:CodeR c) {r i:Nat} (h:i∈zf7 c r):i<c.ins.length:=by
 unfold zf7 at h;obtain ⟨_,_,h⟩:=qaJ.1 h;exact (zaI.1 h).1
def zoX (hW:WAt W0 b c) (e0:Ext W0 w) (hc:CodeR c) :
   CALL tp 254 [.pointer (some ⟨b,0,none⟩),.int .i64 (zfg c:Nat),.int .i64 5,.int .i64 (r:Int)] w λv w'=>Ext w w'/\Own w.heap.size w' v (za5 (zf7 c r)):=by
 refine co (g:=kf [] [(3,576460752303303168,[9,17]),(6,288230376118166016,[9,25])] []) Tryz.func254 ?_;have h8:=hc.1.procs8;have gx:=hc.f.ins;have gh:zfg c<256:=zbu h8.1;refine (zdR (m:=zfg c) oo).mono ?_;rintro _ w1 ⟨g0,g1⟩;unfold zfg at g1;rw [zeS oo] at g1;have gy:∀ p∈zbK c.procs.length (UsedP c),p<c.procs.length:=λp hp=>(zaI.1 hp).1;have hul:=zbz (n:=c.procs.length) (p:=UsedP c);unfold zf7;generalize zbK c.procs.length (UsedP c)=U at *;refine zae u25 g1.is ?_;rw [zah]
 have gz:∀ k,((U.take k).flatMap λp=>zbK c.ins.length (StP c r p)).length<=20000:=λk=>by
   have:=zj9 (l:=U.take k) (f:=λp=>zbK c.ins.length (StP c r p)) (B:=1500) λ_ _=>qat zbz gx;have h2:=qcG k U;have:(U.take k).length*1500<=8*1500:=qbg _ oo;omega
 refine zap U.length (λk us w'=>∃ out,us=[out,.int .i64 (k:Int)]/\k<=U.length/\Ext w1 w'/\RowI w1.heap.size w'.heap.size 3 w' out (za5 ((U.take k).flatMap λp=>zbK c.ins.length (StP c r p)))) 0 (z0 _) ⟨_,rfl,z0 _,xrf _,zb7 _ _ _ _⟩ ?_;rintro k mk _ w2 _ ⟨out,hu,_,O,g4⟩;obtain ⟨gC,gD⟩:=zcZ hu;rw [gC,gD];refine zaf<|br (λ_=>?_) (λ_=>?_)
 case refine_2=>
   have gE:k=U.length:=oo;rw [gE,qaB] at g4;exact ⟨g0.t O,g4.own.own.mono (by have:=g0.size;omega)⟩
 have hk:k<U.length:=oo;have hp:=gy U[k] (qac _);have gi:=zct (f:=λp=>zbK c.ins.length (StP c r p)) hk;refine zad u25 ty3 (i:=k) g1.is (by rw [zah];exact hk) λ_ _ gj=>?_;rw [za9] at gj;generalize U[k]=p at *;refine zac ty3 gj O λ_=>?_;refine (zhI hW.wl (e0.t (g0.t O)) hc hp).mono ?_;rintro gF _ ⟨g5,gl⟩;have g9:∀ i∈zbK c.ins.length (za4 c p),i<c.ins.length:=λi hi=>(zaI.1 hi).1;have gG:(zbK c.ins.length (za4 c p)).filter (λi=>decide ((zal c i).op=5/\agN c i=r))=zbK c.ins.length (StP c r p):=zt1 λi hi=>by rw [qau]
 have hLl:=zbz (n:=c.ins.length) (p:=za4 c p);rw [<-gG] at gi;have hfk:=gz k;generalize zbK c.ins.length (za4 c p)=L at *;generalize (U.take k).flatMap (λp=>zbK c.ins.length (StP c r p))=Op at *;refine zae u25 gl.is ?_;rw [zah];have gH:=g5.size;have hs2:=O.size;obtain ⟨F3,gI,gJ⟩:=gl;refine zap L.length (λj us w'=>∃ out lo hi,us=[out,.int .i64 (j:Int)]/\j<=L.length/\Ext w1 w'/\Mine F3 w' gF (za5 L)/\w1.heap.size<=lo/\hi<=w'.heap.size/\RowI lo hi 3 w' out (za5 (Op++(L.take j).filter (λi=>decide ((zal c i).op=5/\agN c i=r))))/\∀ b∈F3,b<lo\/hi<=b) 0 (z0 _) ⟨out,w1.heap.size,w2.heap.size,rfl,z0 _,O.t g5,gI,lr _,gH,by simpa using g4.ext g5,λb hb=>.inr (gJ b hb)⟩ ?_;rintro j mj _ _ _ ⟨C,lo,hi,gK,_,D,I,g2,gb,V,hd⟩;obtain ⟨gc,gd⟩:=zcZ gK;rw [gc,gd];refine zaf<|br (λ_=>?_) (λ_=>?_)
 case refine_2=>refine zau<|⟨mk-1,oo,k+1,oo,C,rfl,oo,D,?_⟩;rw [qaf oo] at V;rw [gi];exact V.mono g2 gb
 have hj:j<L.length:=oo;have hi':=g9 L[j] (qac _);have gp:L.take (j+1)=L.take j++[L[j]]:=tk hj;refine zad u25 ty3 (i:=j) I.is (by rw [zah];exact hj) λ_ _ gq=>?_;rw [za9] at gq
 have gM:(Op++(L.take j).filter (λi=>decide ((zal c i).op=5/\agN c i=r))).length<=100000:=by
   have:=qbK (λi=>decide ((zal c i).op=5/\agN c i=r)) (L.take j);have h2:=qcG j L;rw [qag];omega
 generalize L[j]=i at *;refine zac ty3 gq (xrf _) λ_=>?_;have g3:=e0.t (g0.t D)
 have gr:¬((zal c i).op=5/\agN c i=r)->(L.take (j+1)).filter (λi=>decide ((zal c i).op=5/\agN c i=r))=(L.take j).filter (λi=>decide ((zal c i).op=5/\agN c i=r)):=λh=>by
   rw [gp,qbq];simp [h]
 have gf:((zal c i).op=5/\agN c i=r)->(L.take (j+1)).filter (λi=>decide ((zal c i).op=5/\agN c i=r))=(L.take j).filter (λi=>decide ((zal c i).op=5/\agN c i=r))++[i]:=λh=>by
   rw [gp,qbq];simp [h]
 refine NIL.mk rfl<|zaa zbf<|zaa zaY<|zab zdD (zam hW.wl.code) g3 λ_ gN=>zad u26 zbm (i:=i) gN hi' λ_ _ gs=>?_;rw [zaG] at gs;refine zaa za8<|zac ty3 (zay gs) g3 λ_=>zai<|br (λh5=>?_) (λh5=>?_)
 case refine_2=>refine zau<|⟨mj-1,oo,j+1,oo,C,lo,hi,rfl,oo,D,I,g2,gb,by rw [gr λh=>h5 h.1];exact V,hd⟩
 obtain ⟨gO,_⟩:=zbS hc hi' (.inr h5);refine NIL.mk rfl<|zaa zbf<|zaa zaY<|zab zdD (zam hW.wl.code) g3 λ_ gP=>zad u26 zbm (i:=i) gP hi' λ_ _ gt=>?_;rw [zaG] at gt;refine zaa zaZ<|zac ty3 (zat gt) g3 λ_=>zai<|br (λha=>?_) (λha=>?_)
 case refine_2=>refine zau<|⟨mj-1,oo,j+1,oo,C,lo,hi,rfl,oo,D,I,g2,gb,by rw [gr λh=>ha (by rw [gO,h.2])];exact V,hd⟩
 refine zek (x:=(i:Int)) u25 ty3 z3 zc3 qd V (lo2:=0) (hi2:=0) (zeo _ _ io) (by rw [zaj,zah];omega) (by rw [zah];omega) λv' w' lo' hi2 gg gQ _=>?_;have hs7:=gg.size;have hs6:=D.size;refine zau<|⟨mj-1,oo,j+1,oo,v',lo',hi2,rfl,oo,D.chgI gg g2,I.keep λb hb=>gg.block b (I.lt b hb) (hd b hb),oo,oo,?_,λb hb=>?_⟩
 . rw [gf ⟨h5,oo⟩,<-qaw,zc4];exact gQ
 have:=hd b hb;have:=I.lt b hb;omega
def zD0 (h:At W0 b 0 c) (hx:Ext W0 w):KAt W0 w b c:=by
 obtain ⟨F,cs,hr,hc⟩:=h;have hl:=Rep.len hr;have hp:0<cs.length:=by rw [hl];exact Rep.pos
 have g0:=zbQ hc hx;refine ⟨F,cs,hr,g0,qbf λ_=>?_⟩;have:=g0 0 cs[0] (List.getElem?_eq_getElem hp);simp only [World.cell?] at this;rw [Array.getElem?_eq_none oo] at this;cases this
def zCn {b a:Nat} (hW:WAt W0 b c) (e0:Ext W0 w) (hc:CodeR c) (ha:a<c.ins.length) :
   CALL tp 255 [.pointer (some ⟨b,0,none⟩),.int .i64 (a:Int)] w λv w'=>Ext w w'/\Own w.heap.size w' v (zdQ c.ins.length (RP (zaA c) a)):=by
 refine co (g:=kf [] [] []) Tryz.func255 ?_;have hil:=hc.f.ins;refine NIL.mk rfl<|zaa zbf<|zaa zaY<|zab zdD (zam hW.wl.code) e0 λ_ g1=>zae u26 g1 ?_;have g2:=zD0 hW.wl.code e0;have hbl:=g2.lt;refine zg3 oo oo λ_ g0 g3=>?_;have hs1:=g0.size;have e0s:=e0.size;refine (zrJ (zD0 hW.wl.code (e0.t g0)) (e0.t g0) hc rfl ha g3 sS oo oo λi hi=>absurd hi zb8).mono ?_;rintro _ _ ⟨rfl,g4,g5⟩;refine ⟨g0.chgI g4 (lr _),[w.heap.size],?_,λb hb=>by simp at hb;omega⟩;have:(zdQ c.ins.length λi=>mkd (List.replicate c.ins.length false) i\/RP (zaA c) a i)=zdQ c.ins.length (RP (zaA c) a):=zbW λi _=>⟨λh=>h.resolve_left zb8,.inr⟩;rw [<-this];exact g5
def zsz (hW:WAt W0 b c) (e0:Ext W0 w) (hr:r<c.procs.length) :
   CALL tp 253 [.pointer (some ⟨b,0,none⟩),.int .i64 (r:Int)] w λv w'=>Ext w w'/\v=.bool true:=by
 refine co (g:=kf [] [] []) Tryz.func253 ?_;refine zb9<|br (λ_=>?_) (λ_=>oo);refine NIL.mk rfl<|zaa zbf<|zaa zdl<|zab zdt (zbd hW.wl.code) e0 λ_ g0=>zae u24 g0<|zaf<|⟨xrf _,by simp;omega⟩
def zt2 (c:DCode) (r a:Nat):Prop:=zf7 c r=[a]/\zas c a=(zdr c:Int)/\¬RP (zaA c) a a/\zf7 c (zdr c)=[]/\¬ ∃ p,UsedP c p/\zow c p 4 (zdr c)
def zka (c:DCode) (r:Nat):Prop:=(r=zdr c/\zf7 c r=[])\/(r≠zdr c/\∃ a,zt2 c r a)
noncomputable instance (c:DCode) (r:Nat):Decidable (zka c r):=Classical.propDecidable _
def zny:zka c (zdr c)↔zf7 c (zdr c)=[]:=
 ⟨λh=>h.elim (·.2) λh=>absurd rfl h.1,λh=>.inl ⟨rfl,h⟩⟩
def zvM (hr:r≠zdr c):zka c r↔∃ a,zt2 c r a:=
 ⟨λh=>h.elim (λh=>absurd h.1 hr) (·.2),λh=>.inr ⟨hr,h⟩⟩
def zAB {l:List Nat}:((l.length:Int)=0)↔l=[]:=by
 rw [<-List.length_eq_zero_iff];omega
def zsA:(zfg c).testBit p=true↔p<c.procs.length/\UsedP c p:=za6
def zoY:(zdp c).testBit p=true↔p<c.procs.length/\RootP c p:=za6
def zFv (hc:CodeR c) {p:Nat} (h:UsedP c p):p<c.procs.length:=by
 obtain ⟨_,hr,hf⟩:=h;exact hf.lt (hr.lt hc)
def zxa (hc:CodeR c) {q:Nat} (hq:q<c.procs.length):(orL (cls c 4) (zby (zfg c))).testBit q=true↔∃ p,UsedP c p/\zow c p 4 q:=by
 have:=hc.1.procs8;rw [zj6 (m:=zfg c) (n:=c.procs.length) zkv oo];constructor
 . rintro ⟨i,h1,h2,h3⟩;exact ⟨i,(zsA.1 h2).2,((zkT h1).1 h3).2⟩
 rintro ⟨i,h1,h2⟩;have hi:=zFv hc h1;exact ⟨i,hi,zsA.2 ⟨hi,h1⟩,(zkT hi).2 ⟨hq,h2⟩⟩
def zoZ (hW:WAt W0 b c) (e0:Ext W0 w) (hc:CodeR c) :
   CALL tp 205 [.pointer (some ⟨b,0,none⟩),.int .i64 (zdr c:Nat)] w λv w'=>Ext w w'/\v=.bool (decide (zka c (zdr c))):=by
 refine co (g:=kf [] [] [(7,[0,1,2,3,4,5,6,7,8,9,10,12,11,13,14,15,16,17,18,19,21,22,23,20,24,25,26],1050624),(9,[0,1,2,3,4,5,6,7,8,9,10,11,13,12,14,15,16,17],4096)]) Tryz.func205 ?_;have h8:=hc.1.procs8;have g1:=(zg5 hc).2;have:zdp c<256:=zbu h8.1;refine (zsz hW e0 g1).mono ?_;rintro _ _ ⟨g2,rfl⟩;refine za2<|zbX (λh=>by cases h) (λ_=>?_);refine NIL.mk rfl<|zaa ziC<|zac ty3 hW.roots (e0.t g2) λ_=>?_;refine (zgB (m:=zdp c) (i:=zdr c) oo oo).mono ?_;rintro _ _ ⟨g3,rfl⟩;rw [zoY.2 ⟨g1,.main⟩];refine za2<|zbX (λh=>by cases h) (λ_=>?_);have g0:=g2.t g3;refine (zi7 (hW.wl.code.ext (e0.t g0)) hc).mono ?_;rintro _ _ ⟨g4,rfl⟩;have C:=g0.t g4;refine NIL.mk rfl<|zaa ziD<|zac ty3 hW.used (e0.t C) λ_=>?_;refine (zoX (r:=zdr c) hW (e0.t C) hc).mono ?_;rintro _ _ ⟨g5,g9⟩;refine zai<|br (λ_=>?_) (λh=>absurd rfl h);refine zae u25 g9.is<|zai ?_;rw [zah];exact ⟨C.t g5,by congr 1;rw [decide_eq_decide,zny,zAB]⟩
def zAC (hW:WAt W0 b c) (e0:Ext W0 w) (hc:CodeR c) (hr:RootP c r) :
   CALL tp 205 [.pointer (some ⟨b,0,none⟩),.int .i64 (r:Int)] w λv w'=>Ext w w'/\v=.bool (decide (zka c r)):=by
 by_cases hm:r=zdr c
 . subst hm;exact zoZ hW e0 hc
 refine co (g:=kf [] [] [(7,[0,1,2,3,4,5,6,7,8,9,10,12,11,13,14,15,16,17,18,19,21,22,23,20,24,25,26],1050624),(9,[0,1,2,3,4,5,6,7,8,9,10,11,13,12,14,15,16,17],4096)]) Tryz.func205 ?_;have h8:=hc.1.procs8;have gC:=(zg5 hc).2;have gj:=hr.lt hc;have gl:zdp c<256:=zbu h8.1;have g0:zfg c<2^c.procs.length:=zkv;refine (zsz hW e0 gj).mono ?_;rintro _ _ ⟨gp,rfl⟩;refine za2<|zbX (λh=>by cases h) (λ_=>?_);refine NIL.mk rfl<|zaa ziC<|zac ty3 hW.roots (e0.t gp) λ_=>?_;refine (zgB (m:=zdp c) (i:=r) oo oo).mono ?_;rintro _ _ ⟨gD,rfl⟩;rw [zoY.2 ⟨gj,hr⟩];refine za2<|zbX (λh=>by cases h) (λ_=>?_);have g1:=gp.t gD;refine (zi7 (hW.wl.code.ext (e0.t g1)) hc).mono ?_;rintro _ _ ⟨gE,rfl⟩;have O:=g1.t gE;refine NIL.mk rfl<|zaa ziD<|zac ty3 hW.used (e0.t O) λ_=>?_;refine (zoX (r:=r) hW (e0.t O) hc).mono ?_;rintro gF gq ⟨gG,gH⟩;refine zai<|br (λh=>absurd oo hm) (λ_=>?_);have gr:=zag gq;have D:=O.t (gG.t gr);have gc:=gH.is.ext gr;generalize World.drew1 gq=w4 at *;have X:=λa (ha:a∈zf7 c r)=>zw9 hc ha;have I:(¬ ∃ a,zt2 c r a)->Value.bool false=.bool (decide (zka c r)):=λh=>by rw [decide_eq_false λh2=>h ((zvM hm).1 h2)]
 refine zae u25 gc<|zaT ?_;rw [zah];refine br (λgd=>?_) (λgI=>?_)
 . exact ⟨D,I λ⟨a,h⟩=>gd (by rw [h.1];rfl)⟩
 have gJ:(zf7 c r).length=1:=by have:=qai.1 gI;omega
 obtain ⟨a,ha⟩:∃ a,zf7 c r=[a]:=qbr.1 gJ;have g5:a<c.ins.length:=X a (by rw [ha];simp);rw [ha] at gc
 have U:∀ {w:wD} {K:vL->Prop},Ext w4 w->(K (.int .i64 (a:Int)))->RD tp (Instr.indexAt 25 gF (.int .i64 0)) w λx=>RD tp (Instr.loadAt 3 x) w K:=λhx kk=>by
   refine zad u25 ty3 (i:=0) gc (by simp [za5]) λ_ _ gs=>?_;rw [show (za5 [a])[0]'(by simp [za5])=(a:Int) from rfl] at gs;exact zac ty3 gs hx λ_=>kk
 have g2:∀ a',zt2 c r a'->a'=a:=λa' h=>by have:=h.1;rw [ha] at this;simpa using this.symm
 refine NIL.mk rfl<|zaa zbf<|zab zbY hW.wl.code (e0.t D) λ_ gK=>U (xrf _) ?_;refine (zrC (a:=(a:Int)) gK (e0.t D) hc oo oo).mono ?_;rintro _ _ ⟨g9,rfl⟩;refine ⟨g9,?_⟩;have V:=D.t g9;refine zaT<|br (λgd=>?_) (λgf=>?_)
 . exact ⟨V,I λ⟨a',h⟩=>gd (by have:=g2 a' h;subst this;exact h.2.1)⟩
 refine U g9<|U g9 ?_;refine (zCn (a:=a) hW (e0.t V) hc g5).mono ?_;rintro _ w6 ⟨gt,gM⟩;refine ⟨gt,?_⟩;have g3:=V.t gt;have gg:=zcs (n:=c.ins.length) (p:=RP (zaA c) a) (i:=a);rw [zce (by rw [zaM];exact g5)] at gg;refine zad zfU ty4 (i:=a) gM.is (by rw [zaM];exact g5) λ_ _ gN=>zbi ty4 gN (xrf _)<|zbX (λgb=>?_) (λgb=>?_)
 . exact ⟨g3,I λ⟨a',h⟩=>by have:=g2 a' h;subst this;exact h.2.2.1 (gg.1 gb).2⟩
 have gO:¬RP (zaA c) a a:=λh=>by rw [gg.2 ⟨g5,h⟩] at gb;cases gb
 have gh:=zag w6;have g4:=g3.t gh;generalize World.drew1 w6=w7 at *;refine (zoZ hW (e0.t g4) hc).mono ?_;rintro _ _ ⟨gP,rfl⟩;have C:=g4.t gP;refine br (λX=>?_) (λX=>?_)
 case refine_2=>exact ⟨C,I λ⟨a',h⟩=>X (zny.2 h.2.2.2.1)⟩
 refine NIL.mk rfl<|zaa zpj<|zab zaS hW.calls (e0.t C) λ_ gQ=>NIL.mk rfl<|zaa ziD<|zac ty3 hW.used (e0.t C) λ_=>?_
 have gx:∀ x∈cls c 4,x<256:=λx hx=>by
   obtain ⟨p,_,rfl⟩:=qa3.1 hx;exact zbu h8.1
 refine (zic (m:=zfg c) gQ (e0.t C) gx (by rw [zhJ];omega) (by rw [zhJ];exact g0)).mono ?_;rintro _ _ ⟨gy,rfl⟩;refine ⟨gy,?_⟩;have gz:=zvd gx (zby (zfg c));refine (zgB (m:=orL (cls c 4) (zby (zfg c))) (i:=zdr c) oo oo).mono ?_;rintro _ _ ⟨gi,rfl⟩;refine za2<|⟨C.t (gy.t gi),?_⟩;have gR:=zxa hc gC
 have:zka c r↔¬(orL (cls c 4) (zby (zfg c))).testBit (zdr c)=true:=by
   rw [zvM hm,gR];constructor
   . rintro ⟨a',h⟩;exact h.2.2.2.2
   intro h;exact ⟨a,ha,qai.1 gf,gO,zny.1 X,h⟩
 congr 1;cases hb:(orL (cls c 4) (zby (zfg c))).testBit (zdr c)
 . rw [decide_eq_true (this.2 (by rw [hb];simp))];rfl
 rw [decide_eq_false (λh=>this.1 h hb)];rfl
noncomputable def zt3 (c:DCode):Nat:=zc0 (λr=>RootP c r/\zka c r) c.procs.length
def RtP (c:DCode) (i r:Nat):Prop:=zgh c i/\RootP c r/\FromP c r (zas c i).toNat
noncomputable def rtN (c:DCode) (i:Nat):Nat:=zc0 (RtP c i) c.procs.length
def zAD (hc:CodeR c) (i:Nat):rtN c i<256:=zbu hc.1.procs8.1
def zCo (hc:CodeR c):zt3 c<256:=zbu hc.1.procs8.1
def AccB (U:List Nat) (P:Nat->Prop) (k m:Nat):Prop:=m<256/\∀ r,m.testBit r=true↔r∈U.take k/\P r
def AccB.yes {P:Nat->Prop} (h:AccB U P k m) (hk:k<U.length) (h8:U[k]<8) (hp:P U[k]):AccB U P (k+1) (m ||| 2^U[k]):=by
 refine ⟨qa2 (n:=8) h.1 (qaT oo h8),λ_=>?_⟩;rw [qaV,qaR,h.2,zbG hk,qaN,qau];constructor
 . rintro (⟨h1,h2⟩ | rfl)
   . exact ⟨.inl h1,h2⟩
   exact ⟨.inr rfl,hp⟩
 rintro ⟨h1 | rfl,h2⟩
 . exact .inl ⟨h1,h2⟩
 exact .inr rfl
def AccB.no {P:Nat->Prop} (h:AccB U P k m) (hk:k<U.length) (hp:¬P U[k]):AccB U P (k+1) m:=by
 refine ⟨h.1,λ_=>?_⟩;rw [h.2,zbG hk];constructor
 . rintro ⟨h1,h2⟩;exact ⟨.inl h1,h2⟩
 rintro ⟨h1 | rfl,h2⟩
 . exact ⟨h1,h2⟩
 exact absurd h2 hp
def AccB.fin {Q P:Nat->Prop} (h:AccB (zbK n Q) P k m) (hk:(zbK n Q).length<=k):m=zc0 (λr=>Q r/\P r) n:=by
 refine zeP λr=>?_;rw [h.2,qaf hk,zaI];exact ⟨λ⟨⟨a,b⟩,d⟩=>⟨a,b,d⟩,λ⟨a,b,d⟩=>⟨⟨a,b⟩,d⟩⟩
def AccB.start (U:List Nat) (P:Nat->Prop):AccB U P 0 0:=⟨oo,λr=>by simp⟩
def zxb (hW:WAt W0 b c) (e0:Ext W0 w) (hc:CodeR c) :
   CALL tp 142 [.pointer (some ⟨b,0,none⟩)] w λv w'=>Ext w w'/\v=.int .i64 (zt3 c:Nat):=by
 refine co (g:=kf [] [(3,33550376,[3,12])] []) Tryz.func142 ?_;have h8:=hc.1.procs8;have g3:zdp c<256:=zbu h8.1;refine NIL.mk rfl<|zaa ziC<|zac ty3 hW.roots e0 λ_=>?_;refine (zdR (m:=zdp c) oo).mono ?_;rintro _ w1 ⟨g4,g0⟩;unfold zdp at g0;rw [zeS oo] at g0;refine zae u25 g0.is ?_;rw [zah];have hUl:=zbz (n:=c.procs.length) (p:=RootP c);have gc:∀ r∈zbK c.procs.length (RootP c),r<c.procs.length/\RootP c r:=λr hr=>zaI.1 hr;have g1:∀ {k m},AccB (zbK c.procs.length (RootP c)) (zka c) k m->(zbK c.procs.length (RootP c)).length<=k->m=zt3 c:=λh hk=>h.fin hk;generalize zbK c.procs.length (RootP c)=U at *;refine zap U.length (λk us w'=>∃ m:Nat,us=[.int .i64 (m:Int),.int .i64 (k:Int)]/\k<=U.length/\Ext w1 w'/\AccB U (zka c) k m) 0 (z0 _) ⟨0,rfl,z0 _,xrf _,AccB.start _ _⟩ ?_;rintro k mk _ _ _ ⟨m,hu,_,C,hB⟩;obtain ⟨gd,gf⟩:=zcZ hu;rw [gd,gf];refine zaf<|br (λ_=>?_) (λ_=>?_)
 case refine_2=>rw [g1 hB oo];exact ⟨g4.t C,rfl⟩
 have hk:k<U.length:=oo;obtain ⟨_,gg⟩:=gc U[k] (qac _);refine zad u25 ty3 (i:=k) g0.is (by rw [zah];exact hk) λ_ _ g5=>?_;rw [za9] at g5;have g2:=λhp=>hB.yes hk oo hp;have gh:=λhp=>hB.no hk hp;generalize U[k]=r at *;refine zac ty3 g5 C λ_=>?_;have g9:=hB.1;refine (zAC (r:=r) hW (e0.t (g4.t C)) hc gg).mono ?_;rintro _ _ ⟨gb,rfl⟩;refine br (λhs=>?_) (λhs=>?_)
 . refine zcq kK u94 oo ?_;refine zeA oo ?_;have:2^r<256:=qaT (m:=r) (n:=8) oo oo;refine zhk oo oo<|zau<|⟨mk-1,oo,k+1,oo,m ||| 2^r,rfl,oo,C.t gb,g2 hs⟩
 refine zau<|⟨mk-1,oo,k+1,oo,m,rfl,oo,C.t gb,gh hs⟩
def zxc (hW:WAt W0 b c) (e0:Ext W0 w) (hc:CodeR c) (hi:i<c.ins.length) :
   CALL tp 141 [.pointer (some ⟨b,0,none⟩),.int .i64 (i:Int)] w λv w'=>Ext w w'/\v=.int .i64 (rtN c i:Nat):=by
 refine co (g:=kf [] [(5,36028794871480480,[5,31])] [(7,[0,1,2,3,4,5,6,7,8,9,10,11,12,13],4096)]) Tryz.func141 ?_;have h8:=hc.1.procs8;have gd:zdp c<256:=zbu h8.1;obtain ⟨q,hq,gf,_⟩:=zmT hc hi;refine NIL.mk rfl<|zaa zbf<|zab zbY hW.wl.code e0 λ_ gq=>?_;refine (zh7 (a:=(i:Int)) gq e0).mono ?_;rintro _ _ ⟨C,rfl⟩;refine zav<|br (λh=>absurd ⟨oo,oo⟩ h) (λ_=>?_);refine NIL.mk rfl<|zaa zpi<|zab zef hW.wl.live (e0.t C) λ_ gr=>?_;have g4:=zcs (n:=c.ins.length) (p:=zgh c) (i:=i);rw [zce (by rw [zaM];exact hi)] at g4;refine zad zfU ty4 (i:=i) gr (by rw [zaM];exact hi) λ_ _ gs=>zbi ty4 gs (e0.t C)<|za2<|zbX (λhf=>?_) (λhf=>?_)
 . have gt:¬zgh c i:=λh=>by rw [g4.2 ⟨hi,h⟩] at hf;cases hf
   have:rtN c i=0:=(zeP (m:=0) λr=>by simp;exact λ_ h=>gt h.1).symm;rw [this];exact ⟨C,rfl⟩
 have hL:zgh c i:=(g4.1 (by simpa using hf)).2;refine NIL.mk rfl<|zaa ziC<|zac ty3 hW.roots (e0.t C) λ_=>?_;refine (zdR (m:=zdp c) oo).mono ?_;rintro _ w2 ⟨gx,g3⟩;unfold zdp at g3;rw [zeS oo] at g3;refine zae u25 g3.is ?_;rw [zah];have hUl:=zbz (n:=c.procs.length) (p:=RootP c);have gy:∀ r∈zbK c.procs.length (RootP c),r<c.procs.length/\RootP c r:=λr hr=>zaI.1 hr
 have g5:∀ {k m},AccB (zbK c.procs.length (RootP c)) (λr=>FromP c r q) k m->(zbK c.procs.length (RootP c)).length<=k->m=rtN c i:=λh hk=>by
   rw [h.fin hk];unfold rtN;refine zbE λr _=>?_;unfold RtP;rw [gf];exact ⟨λh=>⟨hL,h.1,h.2⟩,λh=>h.2⟩
 generalize zbK c.procs.length (RootP c)=U at *;have g0:=C.t gx;refine zap U.length (λk us w'=>∃ m:Nat,us=[.int .i64 (m:Int),.int .i64 (k:Int)]/\k<=U.length/\Ext w2 w'/\AccB U (λr=>FromP c r q) k m) 0 (z0 _) ⟨0,rfl,z0 _,xrf _,AccB.start _ _⟩ ?_;rintro k mk _ w3 _ ⟨m,hu,_,g9,hB⟩;obtain ⟨gz,gC⟩:=zcZ hu;rw [gz,gC];refine zaf<|br (λ_=>?_) (λ_=>?_)
 case refine_2=>rw [g5 hB oo];exact ⟨g0.t g9,rfl⟩
 have hk:k<U.length:=oo;obtain ⟨gb,_⟩:=gy U[k] (qac _);refine zad u25 ty3 (i:=k) g3.is (by rw [zah];exact hk) λ_ _ gg=>?_;rw [za9] at gg;have gc:=λhp=>hB.yes hk oo hp;have gD:=λhp=>hB.no hk hp;generalize U[k]=r at *;refine zac ty3 gg g9 λ_=>?_;have gh:=hB.1;have gE:=zag w3;have g1:=g9.t gE;generalize World.drew1 w3=w4 at *;have e4:=e0.t (g0.t g1);refine NIL.mk rfl<|zaa zlZ<|zab zaS hW.frm e4 λ_ gF=>zad u25 ty3 (i:=r) gF (by rw [zah,zkL];exact gb) λ_ _ gi=>?_;rw [zbk] at gi;refine zac ty3 gi e4 λ_=>NIL.mk rfl<|zaa zbf<|zab zbY hW.wl.code e4 λ_ gG=>?_;refine (zrC (a:=(i:Int)) gG e4 hc oo oo).mono ?_;rintro _ _ ⟨gj,rfl⟩;refine ⟨gj,?_⟩;rw [gf];have gl:=ztP (c:=c) (r:=q) gb;have gp:zaE (frs c) r<256:=by rw [zvg gb];exact zbu h8.1
 refine (zgB (m:=zaE (frs c) r) (i:=q) oo oo).mono ?_;rintro _ _ ⟨gH,rfl⟩;have g2:=g1.t (gj.t gH);refine zbX (λhs=>?_) (λhs=>?_)
 . refine zcq kK u94 oo ?_;refine zeA oo ?_;have:2^r<256:=qaT (m:=r) (n:=8) oo oo;refine zhk oo oo<|zau<|⟨mk-1,oo,k+1,oo,m ||| 2^r,rfl,oo,g2,gc (gl.1 hs).2⟩
 refine zau<|⟨mk-1,oo,k+1,oo,m,rfl,oo,g2,gD λh=>by rw [gl.2 ⟨hq,h⟩] at hs;cases hs⟩
def zD1 (a b s:Nat):Prop:=∃ r t,a.testBit r=true/\b.testBit t=true/\(r≠t\/s.testBit r=false)
def zCp:∀ a,a<256->a &&& (a-1)≠0->∃ r,r<8/\∃ t,t<8/\r≠t/\a.testBit r=true/\a.testBit t=true:=by decide +kernel
def zFw:∀ a,a<256->∀ r,r<8->∀ t,t<8->(a &&& (a-1)=0/\a.testBit r=true/\a.testBit t=true->r=t):=by decide +kernel
def zAE (h:m<256) (hb:m.testBit l=true):l<8:=qbf λhc=>by
 have:=qbs (qap (show m<2^8 from h) (qaE oo (by omega:8<=l)));rw [this] at hb;cases hb
def zqx (h:m≠0):∃ i,m.testBit i=true:=Nat.exists_testBit_of_ne_zero h
def zAF (h:m=0) (i:Nat):¬m.testBit i=true:=by rw [h];simp
def zCq {a b s:Nat} (ha:a<256) (hb:b<256) (hs:s<256) :
   CALL tp 83 [.int .i64 (a:Int),.int .i64 (b:Int),.int .i64 (s:Int)] w λv w'=>Ext w w'/\∃ x:Bool,v=.bool x/\(x=true↔zD1 a b s):=by
 refine co (g:=kf [] [] []) Tryz.func83 ?_;refine zai<|br (λh=>?_) (λ_=>?_)
 . exact ⟨xrf _,false,rfl,⟨λe=>(by cases e),λ⟨r,t,h1,_⟩=>absurd h1 (zAF oo r)⟩⟩
 refine zai<|br (λh=>?_) (λ_=>?_)
 . exact ⟨xrf _,false,rfl,⟨λe=>(by cases e),λ⟨r,t,_,h1,_⟩=>absurd h1 (zAF oo t)⟩⟩
 have hle:=qbm (n:=a) (m:=b);refine zhD (m:=a) (n:=b) oo oo<|zhE (m:=a &&& b) (n:=s) oo oo<|zaT<|br (λh=>?_) (λh=>?_)
 . obtain ⟨i,hi⟩:=zqx (m:=zmM (a &&& b) s) oo;rw [zdo,qaX] at hi;simp only [qar,qaY] at hi;exact ⟨xrf _,true,rfl,⟨λ_=>⟨i,i,hi.1.1,hi.1.2,.inr hi.2⟩,λ_=>rfl⟩⟩
 have hz:zmM (a &&& b) s=0:=by have:=qai.1 h;omega
 refine zaT<|br (λg0=>?_) (λg1=>?_)
 . refine ⟨xrf _,true,rfl,⟨λ_=>?_,λ_=>rfl⟩⟩;refine qa1 λhn=>?_;have C:∀ r t,a.testBit r=true->b.testBit t=true->r=t:=λr t h1 h2=>qa1 λe=>hn ⟨r,t,h1,h2,.inl e⟩;obtain ⟨r,hr⟩:=zqx (m:=a) oo;obtain ⟨t,ht⟩:=zqx (m:=b) oo;have g2:=C r t hr ht;subst g2
   have:a=b:=qbi λi=>by
     cases e1:a.testBit i<;>cases e2:b.testBit i
     . rfl
     . have:=C r i hr e2;subst this;rw [hr] at e1;cases e1
     . have:=C i r e1 ht;subst this;rw [ht] at e2;cases e2
     rfl
   exact g0 (by rw [this])
 have g3:a=b:=by have:=qai.1 g1;omega
 subst g3;refine zbe io ?_;rw [show (a:Int)-1=((a-1:Nat):Int) by omega];refine zhD (m:=a) (n:=a-1) oo oo<|zaT<|⟨xrf _,_,rfl,?_⟩;rw [qau];constructor
 . intro h;obtain ⟨r,_,t,_,h1,h2,h3⟩:=zCp a ha oo;exact ⟨r,t,h2,h3,.inl h1⟩
 rintro ⟨r,t,h1,h2,h3⟩ _;have:=zFw a ha r (zAE ha h1) t (zAE ha h2) ⟨oo,h1,h2⟩;subst this;have hb:=zAF hz r;rw [zdo,qaX,h1] at hb;rcases h3 with h3 | h3
 . exact h3 rfl
 rw [h3] at hb;simp at hb
def zxd (hW:WAt W0 b c) (e0:Ext W0 w) (hc:CodeR c) :
   CALL tp 82 [.pointer (some ⟨b,0,none⟩)] w λv w'=>Ext w w'/\∃ u,v=.tuple #[u,.int .i64 (zt3 c:Nat)]/\Own w.heap.size w' u (za5 ((List.range c.ins.length).map (rtN c))):=by
 refine co (g:=kf [] [(3,33521696,[15])] []) Tryz.func82 ?_;have g9:=hc.f.ins
 have g0:0<c.ins.length:=by
   have:=hc.1.procs8;have:=(zhe hc this.2).2.2;omega
 refine NIL.mk rfl<|zaa zbf<|zaa zaY<|zab zdD (zam hW.wl.code) e0 λ_ gb=>zae u26 gb ?_;have hn:c.ins.length=c.ins.length:=rfl;generalize hnn:c.ins.length=n at hn;rw [hnn] at g9 g0;refine zft g0 oo λw1 gc g4=>zqa u25 ?_;generalize hg:w.heap.size=g at *;have hg1:=g4.lt g sS
 have gd:Mine [g] w1 (.slice (some ⟨g,0,none⟩) n n) (za5 ((List.range n).map λi=>if i<0 then rtN c i else 0)):=by
   have:(List.replicate n 0)=((List.range n).map λi=>if i<0 then rtN c i else 0):=by
     apply qaU
     . simp
     intro i h1 h2;simp
   rw [<-this];exact g4
 refine zap n (λk us w'=>us=[.int .i64 (k:Int)]/\k<=n/\ChgI g (g+1) w1 w'/\Mine [g] w' (.slice (some ⟨g,0,none⟩) n n) (za5 ((List.range n).map λi=>if i<k then rtN c i else 0))) 0 (z0 _) ⟨rfl,z0 _,ChgI.refl _,gd⟩ ?_;rintro k mk u w2 _ ⟨hu,_,g5,g1⟩;try replace hu:=zbv hu
 rw [hu];have g2:Ext w w2:=gc.chgI g5 oo;refine zaf<|br (λ_=>?_) (λ_=>?_)
 case refine_2=>
   have hke:k=n:=oo;refine (zxb hW (e0.t g2) hc).mono ?_;rintro _ w3 ⟨r,rfl⟩;refine ⟨g2.t r,_,rfl,[g],?_,λb hb=>by simp at hb;omega⟩
   have:((List.range n).map λi=>if i<k then rtN c i else 0)=(List.range n).map (rtN c):=qa5 λi hi=>by
     have:=qaG.1 hi;rw [qah oo]
   rw [this] at g1;exact g1.ext r
 have hk:k<n:=oo;refine (zxc (i:=k) hW (e0.t g2) hc oo).mono ?_;rintro _ w3 ⟨r,rfl⟩;have hrt:=zAD hc k;refine zcU (α:=Int) (i:=k) rfl u25 ty3 hk<|zb5 (α:=Int) rfl ty3 (g1.ext r) (by simp [za5]) hk (zc5 (v:=rtN c k) oo) λw4 gf gg=>?_;have g3:ChgI g (g+1) w3 w4:=zkK gf;refine zau<|⟨mk-1,oo,k+1,oo,rfl,oo,(g5.trans r.toI).trans g3,?_⟩
 have:(za5 ((List.range n).map λi=>if i<k then rtN c i else 0)).set k (rtN c k:Nat)=za5 ((List.range n).map λi=>if i<k+1 then rtN c i else 0):=by
   unfold za5;apply qaU
   . simp
   intro i h1 h2;simp only [qaD,qbe] at h2;rw [qcl];by_cases e:k=i
   . subst e;simp
   rw [qab e];simp only [qbZ,List.getElem_range];by_cases h:i<k
   . rw [qah h,qah oo]
   rw [qab h,qab oo]
 rw [<-this];exact gg
noncomputable def zD2 (c:DCode) (i:Nat):List DTouch:=zc7 c (i:Int) ((zaE (zg6 c) i:Nat):Int)
noncomputable def zvN (c:DCode):List DTouch:=(zbK c.ins.length (MetP c)).flatMap (zD2 c)
def zkb (hc:CodeR c) (a h:Int):(zc7 c a h).length<=12:=by
 have:=zmY c a h;have h2:=hc.1.1;simp only [qar,qau] at h2;omega
def zsB (hc:CodeR c) (U:List Nat) (hU:U.length<=1500):(U.flatMap (zD2 c)).length<=18000:=by
 have:=zj9 (l:=U) (f:=zD2 c) (B:=12) λ_ _=>zkb hc _ _;omega
def zxe (hW:WAt W0 b c) (e0:Ext W0 w) (hc:CodeR c) :
   CALL tp 81 [.pointer (some ⟨b,0,none⟩)] w λv w'=>Ext w w'/\Own w.heap.size w' v (zvN c):=by
 refine co (g:=kf [] [(4,1073733712,[4,13])] [(6,[0,1,2,3,4,5,6,7,8,9,10,11,12],1024)]) Tryz.func81 ?_;have hil:=hc.f.ins;refine (zE1 hW e0 hc).mono ?_;rintro _ _ ⟨g4,gf⟩;refine (zDL hW (e0.t g4) hc).mono ?_;rintro _ _ ⟨g5,gg⟩;have g9:(zi0 c).length=c.ins.length:=by unfold zi0;rw [zaM]
 refine (zAi gg.is (xrf _) (by rw [g9];omega)).mono ?_;rintro _ w3 ⟨gb,D⟩;have r:=g4.t (g5.t gb);rw [g9] at D;unfold zi0 at D;rw [zjP] at D;have gh:=gf.is.ext (g5.t gb);have hUl:=zbz (n:=c.ins.length) (p:=MetP c);have gi:∀ i∈zbK c.ins.length (MetP c),i<c.ins.length:=λi hi=>(zaI.1 hi).1;unfold zvN;generalize zbK c.ins.length (MetP c)=U at *;refine zae u25 D.is ?_;rw [zah];have gj:=r.size;refine zap U.length (λk us w'=>∃ out,us=[out,.int .i64 (k:Int)]/\k<=U.length/\Ext w3 w'/\RowI w3.heap.size w'.heap.size 91 w' out ((U.take k).flatMap (zD2 c))) 0 (z0 _) ⟨_,rfl,z0 _,xrf _,zb7 _ _ _ _⟩ ?_;rintro k mk _ w4 _ ⟨out,hu,_,g0,g2⟩;obtain ⟨gl,gp⟩:=zcZ hu;rw [gl,gp];refine zaf<|br (λ_=>?_) (λ_=>?_)
 case refine_2=>
   have gq:k=U.length:=oo;rw [gq,qaB] at g2;exact ⟨r.t g0,g2.own.own.mono oo⟩
 have hk:k<U.length:=oo;have hi:=gi U[k] (qac _);have gr:=zct (f:=zD2 c) hk;have hlk:=zsB hc (U.take k) (by rw [qaj];omega);refine zad u25 ty3 (i:=k) D.is (by rw [zah];exact hk) λ_ _ gc=>?_;rw [za9] at gc;generalize U[k]=i at *;refine zac ty3 gc g0 λ_=>?_;have g3:=zag w4;have C:=g0.t g3;have gs:=g2.ext g3;have hsd:=g3.size;generalize World.drew1 w4=w5 at *;have e5:=e0.t (r.t C);refine NIL.mk rfl<|zaa zbf<|zab zbY hW.wl.code e5 λ_ gt=>zad u25 ty3 (i:=i) gh (by rw [zah,zmP];exact hi) λ_ _ gd=>?_;rw [zbk] at gd;refine zac ty3 gd C λ_=>?_;have gx:=zep (zlB c) i;refine (zld (a:=(i:Int)) (held:=(zaE (zg6 c) i:Nat)) gt e5 hc oo oo io).mono ?_;rintro _ _ ⟨g1,gy⟩;refine ⟨g1,?_⟩;have h12:(zD2 c i).length<=12:=zkb hc (i:Int) (zaE (zg6 c) i:Nat);have gz:=g0.size;have gC:=g1.size;refine zd0 (m:=zD2 c i) u88 zhY zGm (gs.ext g1) oo gy.is (xrf _) (by rw [zaj];omega) oo λgD _ gE gF=>zau<|⟨mk-1,oo,k+1,oo,gD,rfl,oo,(C.t g1).chgI gE (lr _),?_⟩;rw [gr];exact gF
section
variable {Q1 Q1' Q2:List Nat->wD->Prop} {wb w w1 w':wD} {F1 F2 F':List Nat}
end
def zIi (c:DCode) (a b r s:Nat):Prop:=RootP c r/\RootP c s/\FromP c r a/\FromP c s b/\(r≠s\/¬zka c r)
def zCr (c:DCode) (a b:Nat):Prop:=∃ r s,zIi c a b r s
noncomputable instance (c:DCode) (r:Nat):Decidable (RootP c r):=Classical.propDecidable _
def zt4 {l:List DRace} (h:Is w0 v l) (hx:Ext w0 w) (hn:l.length<=1000000000) :
   CALL tp 23 [v] w λr w'=>Ext w w'/\Own w.heap.size w' r (zcX l):=by
 refine co (g:=kf [] [] []) Tryz.func23 ?_;refine (zrB h hx oo).mono ?_;rintro _ _ ⟨g1,g2⟩;refine (zvq g2.toI oo).mono ?_;rintro _ _ ⟨g3,g4⟩;refine (zoq g4 (by rw [ztG];omega)).mono ?_;rintro _ _ ⟨g5,g9⟩;refine (zu2 g9).mono ?_;rintro _ _ ⟨gb,g0⟩;rw [zzQ] at g0;exact ⟨((g1.chgI g3 (lr _)).chgI g5 (lr _)).trans gb,g0.own⟩
open Classical in
noncomputable def rc1 (c:DCode) (a b:DTouch):List DRace:=if zd4 a b/\zCr c (zas c a.at_).toNat (zas c b.at_).toNat then [zer a b] else []
def zFx (c:DCode) (a b:DTouch):(rc1 c a b).length<=1:=by unfold rc1;split<;>simp
noncomputable def zt5 (c:DCode) (T:List DTouch) (i:Nat):List DRace:=match T.drop i with
 | []=>[]
 | a :: r=>(a :: r).flatMap (rc1 c a)
noncomputable def zkZ (c:DCode) (T:List DTouch) (n:Nat):List DRace:=(List.range n).flatMap (zt5 c T)
def zqy {T:List DTouch} (hi:i<T.length):zt5 c T i=(T.drop i).flatMap (rc1 c T[i]):=by
 unfold zt5;rw [qaA hi]
def zAG (c:DCode) (a:DTouch) (L:List DTouch):(L.flatMap (rc1 c a)).length<=L.length:=by
 have:=zj9 (l:=L) (f:=rc1 c a) (B:=1) λb _=>zFx c a b;omega
def zAH (c:DCode) (T:List DTouch) (i:Nat):(zt5 c T i).length<=T.length:=by
 rcases qay i T.length with h | h
 . rw [zqy h];have:=zAG c T[i] (T.drop i);rw [qa8] at this;omega
 unfold zt5;rw [qb5 h];simp
def zAI {T:List DTouch} (hT:T.length<=18000) {n:Nat} (hn:n<=18000):(zkZ c T n).length<=324000000:=by
 have h1:=zj9 (l:=List.range n) (f:=zt5 c T) (B:=18000) λi _=>qat (zAH c T i) hT;rw [qbe] at h1;have:n*18000<=18000*18000:=qbg _ hn;unfold zkZ;omega
def zxf (c:DCode) (T:List DTouch) (n:Nat):zkZ c T (n+1)=zkZ c T n++zt5 c T n:=by
 unfold zkZ;rw [qbU,qbc];simp
def zCs (hc:CodeR c):(zvN c).length<=18000:=zsB hc _ (qat zbz hc.f.ins)
structure TouR (c:DCode) (x:DTouch) (p:Nat):Prop where
 at_:x.at_=(p:Int)
 lt:p<c.ins.length
 met:MetP c p
 h0:0<=x.held
 h1:x.held<=63
def zCt (hc:CodeR c) {x:DTouch} (h:x∈zvN c):∃ p,TouR c x p:=by
 unfold zvN at h;obtain ⟨i,hi,hx⟩:=qaJ.1 h;obtain ⟨h1,_⟩:=zoH hx;have:=zep (zlB c) i;obtain ⟨h3,h4⟩:=zaI.1 hi;exact ⟨i,h1,h3,h4,oo,oo⟩
def zo0 (h:za4 c p i) (hj:j∈zaA c i):za4 c p j:=by
 rcases h with rfl | h
 . exact .inr (.one hj)
 exact .inr (h.trans (.one hj))
theorem zvO (hc:CodeR c) {i:Nat} (h:MetP c i):zgh c i:=by
 induction h with
 | root h=>exact ⟨_,h.lt hc,.inl rfl⟩
 | call h ho _=>exact ⟨_,(zbS hc (h.lt hc) (.inl ho)).2,.inl rfl⟩
 | next _ _ hj ih=>obtain ⟨p,hp,hl⟩:=ih;exact ⟨p,hp,zo0 hl hj⟩
 | back _ _ _ hj ih _=>obtain ⟨p,hp,hl⟩:=ih;exact ⟨p,hp,zo0 hl hj⟩
def zAJ (hc:CodeR c) {i j:Nat} (hi:MetP c i) (hj:MetP c j):zD1 (rtN c i) (rtN c j) (zt3 c)↔zCr c (zas c i).toNat (zas c j).toNat:=by
 have h1:=zvO hc hi;have h2:=zvO hc hj;have hb:∀ k r,(rtN c k).testBit r=true↔r<c.procs.length/\RtP c k r:=λk r=>za6
 have hs:∀ r,r<c.procs.length->RootP c r->((zt3 c).testBit r=false↔¬zka c r):=λr hr hR=>by
   have:=za6 (n:=c.procs.length) (p:=λr=>RootP c r/\zka c r) (i:=r);unfold zt3;constructor
   . intro h hS;rw [this.2 ⟨hr,hR,hS⟩] at h;cases h
   intro h;cases e:(zc0 (λr=>RootP c r/\zka c r) c.procs.length).testBit r
   . rfl
   exact absurd (this.1 e).2.2 h
 constructor
 . rintro ⟨r,t,hr,ht,h⟩;obtain ⟨g3,_,C,g1⟩:=(hb _ _).1 hr;obtain ⟨_,_,g0,g2⟩:=(hb _ _).1 ht;exact ⟨r,t,C,g0,g1,g2,h.imp id (hs r g3 C).1⟩
 rintro ⟨r,t,C,g0,g1,g2,h⟩;exact ⟨r,t,(hb _ _).2 ⟨C.lt hc,h1,C,g1⟩,(hb _ _).2 ⟨g0.lt hc,h2,g0,g2⟩,h.imp id (hs r (C.lt hc) C).2⟩
def zCu (hW:WAt W0 b c) (e0:Ext W0 w) (hc:CodeR c) :
   CALL tp 34 [.pointer (some ⟨b,0,none⟩)] w λr w'=>Ext w w'/\Own w.heap.size w' r (zcX (zkZ c (zvN c) (zvN c).length)):=by
 refine co (g:=kf [] [(5,288230376150664640,[6,20]),(8,144115187538986048,[6,29])] [(10,[0,1,2,3,4,5,6,7,8,9,10,11,12,13,14,15,16],0)]) Tryz.func34 ?_;refine (zxe hW e0 hc).mono ?_;rintro _ _ ⟨gJ,h4⟩;refine (zxd hW (e0.t gJ) hc).mono ?_;rintro _ wb ⟨gK,_,rfl,h5⟩;refine zaN rfl<|zaN rfl ?_;have g2:=gJ.t gK;have gi:=h4.is.ext gK;have gM:=h5.is;have h6:=zCs hc;have gN:=λx (hx:x∈zvN c)=>zCt hc hx;generalize zvN c=T at *;have h8:=g2.size;have h9:=zCo hc;refine zae u88 gi<|zap T.length (λk us w'=>∃ out lo hi,us=[out,.int .i64 (k:Int)]/\k<=T.length/\Ext wb w'/\wb.heap.size<=lo/\hi<=w'.heap.size/\RowI lo hi 41 w' out (zkZ c T k)) 0 (z0 _) ⟨_,wb.heap.size,wb.heap.size,rfl,z0 _,xrf _,lr _,qaz _,zb7 _ _ _ _⟩ ?_;rintro i mk _ w3 _ ⟨out,lo0,ha,hu,_,g3,gj,gl,gp⟩;obtain ⟨hb,he⟩:=zcZ hu;rw [hb,he];refine zaf ?_;have gq:=zAI (c:=c) h6 (n:=i) oo;refine br (λ_=>?_) (λ_=>?_)
 case refine_2=>
   have hf:i=T.length:=oo;rw [hf] at gp gq;refine (zt4 gp.is (xrf _) oo).mono ?_;rintro r w4 ⟨g4,hg⟩;exact ⟨g2.t (g3.t g4),hg.mono (by have:=g3.size;omega)⟩
 have hi:i<T.length:=oo;have gr:=zqy (c:=c) hi;have gs:=zxf c T i;obtain ⟨pa,gf⟩:=gN T[i] (qac _);refine zad u88 zhY (i:=i) gi hi λ_ _ hh=>?_;generalize hae:T[i]=a at *;refine zab zhY hh g3 λ_ gO=>zcP zG1 rfl zhY rfl gO g3 λw4 g4 _ gP=>?_;have gt:=zga gO gP rfl;have hgl:w3.heap.size<w4.heap.size:=gP.lt;have hs4:=g4.size;refine zfn (i:=(i:Int)) u88 zhY gi oo so λ_ gx=>?_;rw [qal] at gx;have hDl:(T.drop i).length=T.length-i:=qa8;have hk:∀ x∈T.drop i,∃ p,TouR c x p:=λx hx=>gN x (qbO hx);generalize T.drop i=D at *;refine zae u88 gx<|zap D.length (λj us w'=>∃ out lo hi,us=[out,.int .i64 (j:Int)]/\j<=D.length/\Ext wb w'/\w4.heap.size<=w'.heap.size/\AtB wb w' w3.heap.size 0 a/\wb.heap.size<=lo/\hi<=w'.heap.size/\(w3.heap.size<lo\/hi<=w3.heap.size)/\RowI lo hi 41 w' out (zkZ c T i++(D.take j).flatMap (rc1 c a))) 0 (z0 _) ⟨out,lo0,ha,rfl,z0 _,g3.t g4,lr _,gt,gj,oo,.inr gl,by simpa using gp.ext g4⟩ ?_;rintro j mj _ _ _ ⟨V,lo,gQ,hl,_,gg,_,gy,gz,hq,hd,gC⟩;obtain ⟨gD,gE⟩:=zcZ hl;rw [gD,gE];refine zaf<|br (λ_=>?_) (λ_=>?_)
 case refine_2=>refine zau<|⟨mk-1,oo,i+1,oo,V,lo,gQ,rfl,oo,gg,gz,hq,?_⟩;rw [qaf oo] at gC;rw [gs,gr];exact gC
 have hj:j<D.length:=oo;have gR:=zct (f:=rc1 c a) hj;have hrl:=zAG c a (D.take j);have htl:=qcG j D;obtain ⟨pb,gh⟩:=hk D[j] (qac _);refine zad u88 zhY (i:=j) gx hj λ_ _ hr=>?_;generalize hbe:D[j]=bb at *;refine zab zhY hr gg λ_ hs=>zcP zG1 rfl zhY rfl hs gg λw6 ht hv _=>?_;have gS:=zag w6;have O:=ht.t gS;have X:=hv.ext gS;generalize World.drew1 w6=w7 at *;have Y:=gy.ext O;have g5:=gg.t O;have U:=Y.at g5;have gU:=gC.ext O;have hw:=O.size;refine zab zhY U (xrf _) λ_ hy=>zab zhY X (xrf _) λ_ hz=>?_;refine (zvo hy (xrf _) hz (xrf _)).mono ?_;rintro _ _ ⟨g0,rfl⟩;have hC:=g0.size
 have gV:∀ {w9:wD},Ext w7 w9->¬(zd4 a bb/\zCr c (zas c a.at_).toNat (zas c bb.at_).toNat)->RD tp (bin .add 3 (.tmp 0) (.const undef) (.int .i64 (j:Int)) (.int .i64 1)) w9 λhD=>∃ m',m'<mj/\∃ k',k'+m'=D.length/\∃ out lo hi,[V,hD]=[out,.int .i64 (k':Int)]/\k'<=D.length/\Ext wb w9/\w4.heap.size<=w9.heap.size/\AtB wb w9 w3.heap.size 0 a/\wb.heap.size<=lo/\hi<=w9.heap.size/\(w3.heap.size<lo\/hi<=w3.heap.size)/\RowI lo hi 41 w9 out (zkZ c T i++(D.take k').flatMap (rc1 c a)):=λg1 hn=>by
   have:=g1.size;refine zau<|⟨mj-1,oo,j+1,oo,V,lo,gQ,rfl,oo,g5.t g1,oo,Y.ext g1,gz,oo,hd,?_⟩;rw [gR];have:rc1 c a bb=[]:=by unfold rc1;rw [qab hn]
   rw [this,qaF];exact gU.ext g1
 refine br (λgF=>?_) (λgF=>?_)
 case refine_2=>exact gV g0 λh=>gF h.1
 have gW:∀ i,i<c.ins.length->i<(za5 ((List.range c.ins.length).map (rtN c))).length:=λi hi=>by simp [za5];exact hi
 have gX:∀ i (hi:i<(za5 ((List.range c.ins.length).map (rtN c))).length),(za5 ((List.range c.ins.length).map (rtN c)))[i]=((rtN c i:Nat):Int):=λi hi=>by simp [za5]
 have g9:=g5.t g0;have hF:=U;refine zaa zn8<|zac ty3 (zeD U) g0 λ_=>?_;rw [gf.at_];refine zad u25 ty3 (i:=pa) gM (gW pa gf.lt) λ_ _ gY=>?_;rw [gX] at gY;refine zac ty3 gY g9 λ_=>zaa zn8<|zac ty3 (zeD X) g0 λ_=>?_;rw [gh.at_];refine zad u25 ty3 (i:=pb) gM (gW pb gh.lt) λ_ _ gb=>?_;rw [gX] at gb;refine zac ty3 gb g9 λ_=>?_;refine (zCq (zAD hc pa) (zAD hc pb) h9).mono ?_;rintro _ w9 ⟨g1,x,rfl,hx⟩;rw [zAJ hc gf.met gh.met] at hx;have gc:zas c a.at_=zas c pa:=by rw [gf.at_]
 have gd:zas c bb.at_=zas c pb:=by rw [gh.at_]
 have I:=g0.t g1;refine zbX (λhG=>?_) (λgZ=>?_)
 case refine_2=>refine gV I λh=>?_;have:=hx.2 (by rw [<-gc,<-gd];exact h.2);rw [this] at gZ;cases gZ
 have hB:zCr c (zas c a.at_).toNat (zas c bb.at_).toNat:=by rw [gc,gd];exact hx.1 hG
 refine zab zhY U I λ_ hH=>zab zhY X I λ_ hI=>?_;refine (zrU hH I hI I).mono ?_;rintro _ _ ⟨gG,gH⟩;have C:=I.t gG;have h2:=C.size;refine zek (x:=zer a bb) u30 zdG z41 zAP qd (gU.ext C) (gH 0 0) (by rw [zaj,qag];omega) (by rw [qag];omega) λhJ _ lo' hi' Z gI _=>?_;have hK:=Z.size;have hsb:=g5.size;refine zau<|⟨mj-1,oo,j+1,oo,hJ,lo',hi',rfl,oo,(g5.t C).chgI Z gz,oo,(Y.ext C).keep (Z.block _ oo hd),oo,oo,oo,?_⟩;rw [gR];have:rc1 c a bb=[zer a bb]:=by unfold rc1;rw [qah ⟨gF,hB⟩]
 rw [this,<-qaw];exact gI
def ze2 (rounds:List (List Int)) (locks:List Int):Prop:=locks=[]\/∃ r∈rounds,∀ x∈locks,x∈r
instance (rounds:List (List Int)) (locks:List Int):Decidable (ze2 rounds locks):=inferInstanceAs (Decidable (locks=[]\/∃ r∈rounds,∀ x∈locks,x∈r))
def zAK {rounds:List (List Int)} {locks:List Int} (hk:k<rounds.length) (h:∀ r∈rounds.take k,¬ ∀ x∈locks,x∈r) (c:¬ ∀ x∈locks,x∈rounds[k]):∀ r∈rounds.take (k+1),¬ ∀ x∈locks,x∈r:=by
 intro r hr;rw [tk hk] at hr;rcases qae.1 hr with hr | hr
 . exact h r hr
 simp only [qaa,qad,qaq] at hr;subst hr;exact c
def zsC {l r:List Int} (hj:j<l.length):(∀ x∈l.take (j+1),x∈r)↔(∀ x∈l.take j,x∈r)/\l[j]∈r:=by
 rw [tk hj];simp only [qae,qaa,qad,qaq];constructor
 . intro h;exact ⟨λx hx=>h x (.inl hx),h _ (.inr rfl)⟩
 rintro ⟨h1,h2⟩ x (hx | hx)
 . exact h1 x hx
 subst hx;exact h2
def zdC {rounds:(List (List Int))} {locks:(List Int)}  (h0:Is W0 v0 rounds) (e0:Ext W0 w) (h1:Is W1 v1 locks) (e1:Ext W1 w)  :
   CALL tp 11 [v0,v1] w λr w'=>Ext w w'/\(r=.bool (decide (ze2 rounds locks))):=by
 refine co (g:=kf [] [(4,4294935248,[15]),(8,1071645312,[7,21])] []) Tryz.func11 ?_;have g0:=zak h1;refine zae u25 h1<|zai<|br (λc1=>?_) (λc1=>?_)
 . refine ⟨xrf w,?_⟩;have:locks=[]:=qan oo;simp [ze2,this]
 have g1:=zak h0;refine zae u31 h0<|zap (rounds.length) (λk us w'=>us=[.int .i64 (k:Int)]/\Ext w w'/\(∀ r∈rounds.take k,¬ ∀ x∈locks,x∈r)) (0) oo ⟨sS,xrf w,sS⟩ ?_;rintro k m4 _ g2 _ ⟨hu,y1,C⟩;try replace hu:=zbv hu
 try rw [hu]
 try clear hu
 refine zaf<|br (λc2=>?_) (λc2=>?_)
 . refine zad u31 zaS h0 oo λ_ _ g9=>?_;refine zab zaS g9 (e0.t y1) λ_ gb=>?_;have g3:=zak h1;refine zae u25 h1<|zap (locks.length) (λj us w'=>∃ q:Bool,us=[.bool q,.int .i64 (j:Int)]/\Ext g2 w'/\(q=decide (∀ x∈locks.take j,x∈rounds[k]'(by omega)))) (0) oo ⟨true,sS,xrf g2,sS⟩ ?_;rintro j m8 _ _ _ ⟨q,hu,y2,hq⟩;obtain ⟨g4,g5⟩:=zcZ hu;try rw [g4]
   try rw [g5]
   try clear g4 g5
   refine zaf<|br (λc3=>?_) (λc3=>?_)
   . refine zad u25 ty3 h1 oo λ_ _ gc=>?_;refine zac ty3 gc (e1.trans (y1.t y2)) λ_=>?_;refine (znN gb (e0.t (y1.t y2))).mono ?_;rintro _ _ ⟨y3,rfl⟩;refine zav<|br (λc4=>?_) (λc4=>?_)
     . refine zau ?_;refine ⟨m8-1,oo,j+1,oo,false,sS,(y2.t y3),?_⟩;have:¬ ∀ x∈locks.take (j+1),x∈rounds[k]'(by omega):=λh=>c4 ((zsC (show j<locks.length by omega)).1 h).2;simp [this]
     refine zau<|⟨m8-1,oo,j+1,oo,q,sS,(y2.t y3),?_⟩;rw [hq];simp only [zsC (show j<locks.length by omega),qai.1 c4,and_true]
   refine zbX (λc5=>?_) (λc5=>?_)
   . refine ⟨(y1.t y2),?_⟩
     have:ze2 rounds locks:=by
       rw [hq,qaf oo] at c5;simp only [qau] at c5;exact .inr ⟨_,qac _,c5⟩
     simp [this]
   refine zau<|⟨m4-1,oo,k+1,oo,sS,(y1.t y2),?_⟩;rw [hq,qaf oo] at c5;simp only [decide_eq_false_iff_not] at c5;exact zAK oo C c5
 refine ⟨y1,?_⟩;rw [qaf oo] at C
 have:¬ze2 rounds locks:=by
   rintro (h | ⟨r,hr,h⟩)
   . exact c1 (by rw [h];rfl)
   exact C r hr h
 simp [this]
def znT {l:List DRace} (hk:k<l.length) (h:y∉l.take k) (c:¬l[k]=y):y∉l.take (k+1):=by
 rw [tk hk];simp only [qae,qaa,qad,qaq,not_or];exact ⟨h,λe=>c e.symm⟩
def zsD {l:(List DRace)}  (h0:Is W0 v0 l) (e0:Ext W0 w) (h1:Is W1 v1 y) (e1:Ext W1 w)  :
   CALL tp 80 [v0,v1] w λr w'=>Ext w w'/\(∃ n:Int,r=.int .i64 n/\(0<=n↔y∈l)):=by
 refine co (g:=kf [] [(2,524080,[8])] [(4,[0,1,2,3,4,5],0)]) Tryz.func80 ?_;refine zax zdG rfl h1 e1 λg0 y1 _ g1=>?_;have g2:=zak h0;refine zae u30 h0<|zap (l.length) (λk us w'=>us=[.int .i64 (k:Int)]/\Ext g0 w'/\(y∉l.take k)) (0) oo ⟨sS,xrf g0,sS⟩ ?_;rintro k m2 _ g3 _ ⟨hu,y2,C⟩;try replace hu:=zbv hu
 try rw [hu]
 try clear hu
 refine zaf<|br (λc1=>?_) (λc1=>?_)
 . have y3:=zag g3;refine zbr g1 (y2.t y3)<|zad u30 zdG h0 oo λ_ _ g4=>zab zdG g4 (e0.t (y1.t (y2.t y3))) λ_ g5=>zgY h1 g5<|br (λc2=>?_) (λc2=>?_)
   . refine ⟨(y1.t (y2.t y3)),?_⟩;have:y∈l:=c2▸qac _;exact ⟨_,rfl,by simp [this]⟩
   refine zau<|⟨m2-1,oo,k+1,oo,sS,(y2.t y3),?_⟩;exact znT oo C (λe=>c2 e.symm)
 refine ⟨(y1.t y2),?_⟩;rw [qaf oo] at C;exact ⟨-1,rfl,by simp [C]⟩
def znz {l:(List DRace)}  (h0:Is W0 v0 l) (e0:Ext W0 w) (h1:Is W1 v1 y) (e1:Ext W1 w)  :
   CALL tp 33 [v0,v1] w λr w'=>Ext w w'/\(r=.bool (decide (y∈l))):=by
 refine co (g:=kf [] [] []) Tryz.func33 ?_;refine zax zdG rfl h1 e1 λg0 y1 _ g1=>zbr g1 (xrf g0) ?_;refine (zsD h0 (e0.t y1) h1 (e1.trans y1)).mono ?_;rintro _ _ ⟨y2,_,rfl,g2⟩;refine zb9<|⟨(y1.t y2),?_⟩;simp [g2]
def znA {l:(List DRace)}  (h0:Is W0 v0 l) (e0:Ext W0 w) (h1:Is W1 v1 y) (e1:Ext W1 w)  :
   CALL tp 12 [v0,v1] w λr w'=>Ext w w'/\(r=.bool (decide (y∈l))):=by
 refine co (g:=kf [] [] []) Tryz.func12 ?_;refine zax zdG rfl h1 e1 λg0 y1 _ g1=>zbr g1 (xrf g0) ?_;refine (znz h0 (e0.t y1) h1 (e1.trans y1)).mono ?_;rintro _ _ ⟨y2,rfl⟩;refine ⟨(y1.t y2),?_⟩;rfl
noncomputable def rcs (c:DCode):List DRace:=zcX (zkZ c (zvN c) (zvN c).length)
def zvP (c:DCode) (s:DState) (t:Nat):Prop:=ze2 ((zf5 c).map za5) (zby (ze9 c s (t:Int)))
noncomputable instance (c:DCode) (s:DState) (t:Nat):Decidable (zvP c s t):=by unfold zvP;infer_instance
def zgF (s:DState) (t:Nat):Option Nat:=(zcQ s t).getLast?
def zvQ (c:DCode) (s:DState) (t r:Nat):Prop:=∃ x,zgF s t=some x/\zas c x=(r:Int)
structure RootI (c:DCode) (s:DState):Prop where
 zero:∀ r,zvQ c s 0 r->r=zdr c
 oth:∀ t r,1<=t->zvQ c s t r->zf7 c r≠[]
 uniq:∀ r a t u,zt2 c r a->1<=t->1<=u->zvQ c s t r->zvQ c s u r->t=u
 past:∀ r a t x,zt2 c r a->1<=t->zvQ c s t r->zgF s 0=some x->¬(x=a\/RP (zaA c) x a)
theorem Frm.bot {H:Nat->Prop} (h:Frm c r L H):∃ x,L.getLast?=some x/\za4 c r x:=by
 induction h with
 | one hr hC=>exact ⟨_,rfl,hC.live⟩
 | push h h4 hC hk ih=>
   obtain ⟨x,hx,hl⟩:=ih;exact ⟨x,by rw [List.getLast?_cons_cons];exact hx,hl⟩
def Frm.hasR (hc:CodeR c) {s:DState} {t r:Nat} {H:Nat->Prop} (h:Frm c r (zcQ s t) H):zvQ c s t r:=by
 obtain ⟨x,hx,hl⟩:=h.bot;exact ⟨x,hx,(zcm hc (h.root.lt hc) hl).2⟩
def zCv (h:zvQ c s t r) (h':zvQ c s t r'):r=r':=by
 obtain ⟨_,h1,_⟩:=h;obtain ⟨_,h3,_⟩:=h';rw [h1] at h3;have:=qa0 h3;subst this;omega
def zsE (hc:CodeR c) {p i:Nat} (hu:UsedP c p) (hl:za4 c p i) (h5:(zal c i).op=5):i∈zf7 c (agN c i):=by
 unfold zf7;have hi:=(zcm hc (hu.lt hc) hl).1;exact qaJ.2 ⟨p,zaI.2 ⟨hu.lt hc,hu⟩,zaI.2 ⟨hi,hl,h5,rfl⟩⟩
def zqz (hc:CodeR c) (hs:zaV c s) (g4:GoR c s t) :
   (∀ x',zgF (za1 c s t) t=some x'->∃ x,zgF s t=some x/\(x'=x\/x'∈zaA c x)) /\
   (¬(atI c s t).op=4->¬(atI c s t).op=9->zgF s t=some (zbg s t).toNat->zcQ s t=[(zbg s t).toNat]->∃ j,j∈zaA c (zbg s t).toNat/\zgF (za1 c s t) t=some j):=by
 obtain ⟨g0,g2,_,_,C⟩:=zhb hc hs g4;unfold zgF;refine ⟨λx' r=>?_,λh4 h9 _ g3=>?_⟩
 . rcases C with ⟨h4,hf,-⟩ | ⟨h9,_,hn⟩ | ⟨h9,⟨b,g1,rfl,g5,_,hf⟩,-⟩ | ⟨h4,h9,j,hj,hf⟩
   . rw [hf,List.getLast?_cons_cons] at r;rw [g2];exact ⟨x',r,.inl rfl⟩
   . unfold zcQ at r;rw [hn] at r;simp at r
   . rw [hf] at r;rw [g2,List.getLast?_cons_cons];cases g1 with
     | nil=>
       refine ⟨b,rfl,.inr ?_⟩;have:b+1=x':=by simpa using r
       rw [<-this];exact znu g5
     | cons y ys=>
       rw [List.getLast?_cons_cons] at r ⊢;exact ⟨x',r,.inl rfl⟩
   rw [hf] at r;rw [g2];cases g0 with
   | nil=>
     have:j=x':=by simpa using r
     subst this;exact ⟨_,rfl,.inr hj⟩
   | cons y ys=>
     rw [List.getLast?_cons_cons] at r ⊢;exact ⟨x',r,.inl rfl⟩
 rw [g2] at g3;obtain rfl:g0=[]:=by simpa using g3
 rcases C with ⟨h,_⟩ | ⟨h,_⟩ | ⟨h,_⟩ | ⟨_,_,j,hj,hf⟩
 . exact absurd h h4
 . exact absurd h h9
 . exact absurd h h9
 exact ⟨j,hj,by rw [hf];rfl⟩
def zAL {u x:Nat} (h:zgF s u=some x):u<s.stacks.length:=by
 refine Nat.lt_of_not_le λhn=>?_;have:stk s u=[]:=by unfold stk;rw [List.getD_eq_getElem?_getD,qal,List.getElem?_eq_none hn];rfl
 unfold zgF zcQ at h;rw [this] at h;simp at h
def zGV (hc:CodeR c) (hF:zxv c s) {t x:Nat} (h:zgF s t=some x):x<c.ins.length:=by
 have hl:=zAL h;have g0:stk s t≠[]:=λe=>by unfold zgF zcQ at h;rw [e] at h;simp at h
 obtain ⟨_,hf⟩:=hF t hl g0;obtain ⟨_,hy,g1⟩:=hf.bot;unfold zgF at h;rw [h] at hy;have:=qa0 hy;subst this;exact (zcm hc (hf.root.lt hc) g1).1
def zgG {t u r:Nat} (hc:CodeR c) (hs:zaV c s) (hF:zxv c s) (g2:GoR c s t) (h:zvQ c (za1 c s t) u r) :
   (u<s.stacks.length/\zvQ c s u r)\/(u=s.stacks.length/\(atI c s t).op=5/\r=agN c (zbg s t).toNat):=by
 obtain ⟨x,hx,hr⟩:=h;rcases qay u s.stacks.length with g0 | g0
 . refine .inl ⟨g0,?_⟩;by_cases hut:u=t
   . subst hut;obtain ⟨y,hy,g1⟩:=(zqz hc hs g2).1 x hx;refine ⟨y,hy,?_⟩;rcases g1 with rfl | g1
     . exact hr
     rw [<-(zdn hc (zGV hc hF hy) g1).2];exact hr
   unfold zgF at hx;rw [zkY oo oo g0] at hx;exact ⟨x,hx,hr⟩
 obtain ⟨h5,g3,hf⟩:=zoW hc hs g2 (zAL hx) g0;refine .inr ⟨g3,h5,?_⟩;unfold zgF at hx;rw [hf] at hx;have hx:eN c (agN c (zbg s t).toNat)=x:=by simpa using hx
 have g4:(zbg s t).toNat<c.ins.length:=by have:=ziq hs t;have:=g2.1;omega
 have hg:=zbS hc g4 (.inr h5);have:=(zhF hc (p:=agN c (zbg s t).toNat) (by rw [hc.2.1.1];exact hg.2)).2.2;rw [<-hx,this] at hr;omega
def zsF {t a:Nat} (hc:CodeR c) (hs:zaV c s) (hF:zxv c s) (hR:RootI c s) (gd:GoR c s t) (h5:(atI c s t).op=5) (hO:zt2 c (agN c (zbg s t).toNat) a) :
   t=0/\(zbg s t).toNat=a/\zcQ s 0=[a]:=by
 obtain ⟨g4,g5,gb,gc,-⟩:=zhb hc hs gd;obtain ⟨r,hf⟩:=hF t gb gc;have g0:=hf.hasR hc;rw [g5] at hf;obtain ⟨p,hC⟩:=hf.top;have g1:=zsE hc hC.used hC.live h5;rw [hO.1] at g1;have ha:(zbg s t).toNat=a:=by simpa using g1
 have:p=zdr c:=by
   have h1:=(zcm hc (hC.used.lt hc) hC.live).2;rw [ha,hO.2.1] at h1;omega
 have gf:g4=[]/\r=zdr c:=by
   cases hf with
   | one hr hC1=>
     refine ⟨rfl,?_⟩;have h1:=(zcm hc (hr.lt hc) hC1.live).2;rw [ha,hO.2.1] at h1;omega
   | push h0 hb4 hC1 hk=>
     exfalso;rename_i b rest' H0;have h1:=(zcm hc (hC1.used.lt hc) hC1.live).2;rw [ha,hO.2.1] at h1;obtain ⟨q,g3⟩:=h0.top;have g9:=(zcm hc (g3.used.lt hc) g3.live).1;have hg:=zbS hc g9 (.inl hb4);exact hO.2.2.2.2 ⟨q,g3.used,b,g9,g3.live,hb4,by rw [hg.1];omega⟩
 obtain ⟨g2,gg⟩:=gf
 have gh:t=0:=by
   refine qa1 λ_=>?_;rw [gg] at g0;exact hR.oth t _ oo g0 hO.2.2.2.1
 subst gh;exact ⟨rfl,ha,by rw [g5,g2,ha]⟩
def zo1 (hc:CodeR c):RootI c (zb2 c):=by
 have g0:(zb2 c).stacks.length=1:=rfl
 have g1:∀ t r,1<=t->¬zvQ c (zb2 c) t r:=λt r ht ⟨x,hx,_⟩=>by
   have:=zAL hx;omega
 refine ⟨λr h=>?_,λt r ht h=>absurd h (g1 t r ht),λr a t _ _ ht _ h _=>absurd h (g1 t r ht),λr a t x _ ht h _=>absurd h (g1 t r ht)⟩;obtain ⟨_,_⟩:=znw hc 0 (by rw [g0];omega) (by simp [stk,zb2])
 have h1:zvQ c (zb2 c) 0 (zdr c):=by
   refine ⟨eN c (zdr c),rfl,?_⟩;exact (zhF hc (p:=zdr c) (by rw [hc.2.1.1];exact RootP.main.lt hc)).2.2
 exact zCv h h1
def zAM {t:Int} (hc:CodeR c) (hs:zaV c s) (hF:zxv c s) (hR:RootI c s) (C:GoR c s t):RootI c (za1 c s t):=by
 obtain ⟨tn,rfl,g5,g9,-,-⟩:=zf2 hs C.1;have h1l:1<=s.stacks.length:=hs.2.2.1.1;have hil:(zbg s tn).toNat<c.ins.length:=by have:=ziq hs tn;have:=C.1;omega
 have g4:∀ {x:Nat},zgF (za1 c s tn) 0=some x->∃ y,zgF s 0=some y/\(x=y\/x∈zaA c y):=λ{x} hx=>by
   by_cases h0:0=tn
   . subst h0;exact (zqz hc hs C).1 x hx
   unfold zgF at hx ⊢;rw [zkY oo oo oo] at hx;exact ⟨x,hx,.inl rfl⟩
 have g0:∀ {x y a:Nat},(x=y\/x∈zaA c y)->(x=a\/RP (zaA c) x a)->(y=a\/RP (zaA c) y a):=λ{x y a} h1 h2=>by
   rcases h1 with rfl | h1
   . exact h2
   rcases h2 with rfl | h2
   . exact .inr (.one h1)
   exact .inr ((RP.one h1).trans h2)
 refine ⟨λr h=>?_,λu r hu h=>?_,λr a u v hO hu hv h1 h2=>?_,λr a u x hO hu h hx D=>?_⟩
 . rcases zgG hc hs hF C h with ⟨_,h⟩ | ⟨h,_⟩
   . exact hR.zero r h
   omega
 . rcases zgG hc hs hF C h with ⟨_,h⟩ | ⟨_,h5,rfl⟩
   . exact hR.oth u r hu h
   obtain ⟨_,gb,-,-,-⟩:=zhb hc hs C;obtain ⟨_,hf⟩:=hF tn g5 g9;rw [gb] at hf;obtain ⟨_,hC⟩:=hf.top;exact List.ne_nil_of_mem (zsE hc hC.used hC.live h5)
 . have g1:∀ w,1<=w->zvQ c s w r->(atI c s tn).op=5->r=agN c (zbg s tn).toNat->False:=λw hw hh h5 he=>by
     subst he;obtain ⟨rfl,ha,g2⟩:=zsF hc hs hF hR C h5 hO;exact hR.past _ a w a hO hw hh (by unfold zgF;rw [g2];rfl) (.inl rfl)
   rcases zgG hc hs hF C h1 with ⟨_,k1⟩ | ⟨_,h5,er⟩
   . rcases zgG hc hs hF C h2 with ⟨_,k2⟩ | ⟨e2,h5,er⟩
     . exact hR.uniq r a u v hO hu hv k1 k2
     exact (g1 u hu k1 h5 er).elim
   rcases zgG hc hs hF C h2 with ⟨_,k2⟩ | ⟨e2,_,_⟩
   . exact (g1 v hv k2 h5 er).elim
   omega
 rcases zgG hc hs hF C h with ⟨_,k⟩ | ⟨_,h5,er⟩
 . obtain ⟨y,hy,gc⟩:=g4 hx;exact hR.past r a u y hO hu k hy (g0 gc D)
 subst er;obtain ⟨gd,ha,g2⟩:=zsF hc hs hF hR C h5 hO;subst gd;obtain ⟨j,hj,g3⟩:=(zqz hc hs C).2 oo oo (by unfold zgF;rw [g2,ha];rfl) (by rw [g2,ha]);have g3:zgF (za1 c s ((0:Nat):Int)) 0=some j:=g3;rw [hx] at g3;have:=qa0 g3;subst this;rw [ha] at hj;rcases D with rfl | D
 . exact hO.2.2.1 (.one hj)
 exact hO.2.2.1 ((RP.one hj).trans D)
def zxg {t u:Nat} (hc:CodeR c) (hs:zaV c s) (hF:zxv c s) (hR:RootI c s) (g0:t≠u) (ht:0<=zbg s t) (hu:0<=zbg s u):zCr c (zas c (zbg s t)).toNat (zas c (zbg s u)).toNat:=by
 have g3:∀ t:Nat,0<=zbg s t->∃ r,RootP c r/\zvQ c s t r/\FromP c r (zas c (zbg s t)).toNat:=λt ha=>by
   obtain ⟨h0,h1⟩:=zen ha;have h1:t<s.stacks.length:=by simpa using h1
   have g0:stk s t≠[]:=λe=>by rw [zg1 h0 (by simpa using h1),e] at ha;simp [List.getLastD] at ha
   obtain ⟨r,hf⟩:=hF t h1 g0;have hh:=hf.hasR hc;obtain ⟨L,hL⟩:=zin g0;rw [<-zg1 h0 (by simpa using h1)] at hL;have g4:zcQ s t=(zbg s t).toNat :: (L.map Int.toNat).reverse:=by unfold zcQ;rw [hL];exact zdB
   rw [g4] at hf;obtain ⟨_,hC⟩:=hf.top;have hp:=(zcm hc (hC.used.lt hc) hC.live).2;rw [qaI ha] at hp;refine ⟨r,hf.root,hh,?_⟩;rw [hp,qal];exact hC.from_
 obtain ⟨r,g5,g1,g9⟩:=g3 t ht;obtain ⟨r',gb,g2,gc⟩:=g3 u hu;refine ⟨r,r',g5,gb,g9,gc,?_⟩;by_cases he:r=r'
 . subst he;refine .inr λhS=>?_;rcases hS with ⟨rfl,h0⟩ | ⟨hm,a,hO⟩
   . rcases qbG t with e | e
     . exact hR.oth u _ oo g2 h0
     exact hR.oth t _ e g1 h0
   rcases qbG t with e | e
   . subst e;exact hm (hR.zero _ g1)
   rcases qbG u with e2 | e2
   . subst e2;exact hm (hR.zero _ g2)
   exact g0 (hR.uniq r a t u hO e e2 g1 g2)
 exact .inl he
def zCw (h:zCr c p q):zCr c q p:=by
 obtain ⟨r,s,h1,h2,h3,h4,h5⟩:=h;refine ⟨s,r,h2,h1,h4,h3,?_⟩;rcases h5 with h5 | h5
 . exact .inl λe=>h5 e.symm
 by_cases e:s=r
 . subst e;exact .inr h5
 exact .inl e
def zxh {a b:DTouch} (h:zd4 a b):zd4 b a:=⟨h.1.symm,h.2.1.symm,h.2.2.2.1,h.2.2.1,by rw [qdg];exact h.2.2.2.2⟩
def zt6 {a b:DTouch} (h:a.global=b.global):zer a b=zer b a:=by
 unfold zer;rw [h,Int.min_comm,Int.max_comm]
theorem zlg {c:DCode} {a h h':Int} {i:DIns} {x:DTouch}:∀ {k:Nat},x∈zcG c a h i k->(⟨x.at_,x.global,x.write,h'⟩:DTouch)∈zcG c a h' i k
 | 0,hx=>by simp [zcG] at hx
 | k+1,hx=>by
   rw [zcG] at hx ⊢;rcases qae.1 hx with hx | hx
   . refine qaS _ ?_;rcases qae.1 hx with hx | hx
     . exact qaS _ (zlg hx)
     refine qba _ ?_;split at hx
     . rename_i hh;rw [qah hh];simp only [qaa,qad,qaq] at hx ⊢;rw [hx]
     cases hx
   refine qba _ ?_;split at hx
   . rename_i hh;rw [qah hh];simp only [qaa,qad,qaq] at hx ⊢;rw [hx]
   cases hx
def zsG {x:DTouch} (hc:CodeR c) (hI:RunI c s) (hx:x∈tA c s t):0<=zbg s t/\x.at_=zbg s t/\(⟨x.at_,x.global,x.write,((zaE (zg6 c) (zbg s t).toNat:Nat):Int)⟩:DTouch)∈zvN c:=by
 have g0:=(zFb hx).1;unfold tA at hx;split at hx
 . rename_i h0;refine ⟨h0,g0,?_⟩;have hm:=hI.at h0;refine qaJ.2 ⟨(zbg s t).toNat,zaI.2 ⟨hm.lt hc,hm⟩,?_⟩;unfold zD2;rw [qaI h0];unfold zc7 at hx ⊢;split at hx
   . rename_i ho;rw [qah ho];exact zlg hx
   cases hx
 cases hx
def zD3 {T:List DTouch} (hi:i<T.length) (hj:j<T.length) (hij:i<=j) (h:zd4 T[i] T[j]) (hb:zCr c (zas c T[i].at_).toNat (zas c T[j].at_).toNat):zer T[i] T[j]∈zkZ c T T.length:=by
 unfold zkZ;refine qaJ.2 ⟨i,qaG.2 hi,?_⟩;rw [zqy hi];refine qaJ.2 ⟨T[j],?_,?_⟩
 . have:T[j]=(T.drop i)[j-i]'(by rw [qa8];omega):=by
     simp only [List.getElem_drop];congr 1;omega
   rw [this];exact qac _
 unfold rc1;rw [qah ⟨h,hb⟩];simp
def zxi (hc:CodeR c) (hs:zaV c s) (hI:RunI c s) (hF:zxv c s) (hR:RootI c s):∀ x∈zgi c s,x∈rcs c:=by
 intro x hx;unfold zgi at hx;rw [zgE] at hx;unfold gT gA gL gB zkO at hx;obtain ⟨t,_,hx⟩:=qaJ.1 hx;obtain ⟨a,ha,hx⟩:=qaJ.1 hx;obtain ⟨_,gh,hx⟩:=qaJ.1 hx;obtain ⟨u,hu,rfl⟩:=qa3.1 gh;obtain ⟨b,hb,hx⟩:=qaJ.1 hx;have gi:t≠u:=by have:=qaG.1 hu;omega
 unfold clR at hx;split at hx
 . rename_i hcl;simp only [qaa,qad,qaq] at hx;obtain ⟨g0,g4,gc⟩:=zsG hc hI ha;obtain ⟨g1,g5,gd⟩:=zsG hc hI hb;have:=zep (zlB c) (zbg s t).toNat;have:=zep (zlB c) (zbg s u).toNat
   have g9:zaE (zg6 c) (zbg s t).toNat &&& zaE (zg6 c) (zbg s u).toNat=0:=by
     refine qbi λl=>?_;rw [qaX,qcj];cases h1:(zaE (zg6 c) (zbg s t).toNat).testBit l
     . rfl
     cases h2:(zaE (zg6 c) (zbg s u).toNat).testBit l
     . rfl
     exfalso;obtain ⟨_,_,_,gj⟩:=zAz hF g0;obtain ⟨_,_,_,gl⟩:=zAz hF g1;have e1:s.owner[l]?=some (t:Int):=zsx hc gj h1;have e2:s.owner[l]?=some (u:Int):=zsx hc gl h2;rw [e1] at e2;have:=qa0 e2;omega
   have gb:=zxg hc hs hF hR gi g0 g1;obtain ⟨a',g2⟩:∃ a':DTouch,a'=⟨a.at_,a.global,a.write,((zaE (zg6 c) (zbg s t).toNat:Nat):Int)⟩:=⟨_,rfl⟩;obtain ⟨b',g3⟩:∃ b':DTouch,b'=⟨b.at_,b.global,b.write,((zaE (zg6 c) (zbg s u).toNat:Nat):Int)⟩:=⟨_,rfl⟩;rw [<-g2] at gc;rw [<-g3] at gd
   have r:zd4 a' b':=by
     rw [g2,g3];refine ⟨hcl.1,hcl.2.1,⟨by simp only;omega,by simp only;omega⟩,⟨by simp only;omega,by simp only;omega⟩,?_⟩;simp only [qal];exact g9
   have gf:zCr c (zas c a'.at_).toNat (zas c b'.at_).toNat:=by rw [g2,g3];simp only;rw [g4,g5];exact gb
   have gg:x=zer a' b':=by rw [hx,g2,g3];rfl
   unfold rcs;rw [zgE];obtain ⟨i,hi,rfl⟩:=qbY gc;obtain ⟨j,hj,rfl⟩:=qbY gd;rcases Nat.le_total i j with h | h
   . rw [gg];exact zD3 hi hj h r gf
   rw [gg,zt6 r.1];exact zD3 hj hi h (zxh r) (zCw gf)
 cases hx
theorem zsH {c:DCode} {s:DState} (hc:CodeR c) (hs:zaV c s) (hI:RunI c s) {t:Int} (g0:0<=zaO c s t):∀ (n m:Nat) (u:Int),zhg c s t n m u≠0->∀ l,(zhg c s t n m u).testBit l=true ->
   m.testBit l=true\/((l=(zaO c s u).toNat\/RP (nxL c) (zaO c s u).toNat l)/\RP (nxL c) l (zaO c s t).toNat)
 | 0,m,u,h,_,_=>absurd rfl h
 | n+1,m,u,h,l,hl=>by
   rw [zhg] at h hl;split at h
   . exact absurd rfl h
   rename_i hw;rw [qab hw] at hl;have hw:0<=zaO c s u:=oo;have g1:=(zib hc hs u).2.2 hw;have g2:ow s ((zaO c s u).toNat:Int)=ow s (zaO c s u):=by rw [qaI hw]
   split at h
   . rename_i h2;rw [qah h2,qaV,qaR,qaN] at hl;rcases hl with hl | hl
     . exact .inl hl
     have:(zaO c s u).toNat=l:=by simpa using hl
     refine .inr ⟨.inl this.symm,?_⟩;rw [<-this];exact .one (zj8 hc hs hI g1.1 (by rw [g2];exact h2) g0)
   rename_i h2;rw [qab h2] at hl;obtain ⟨g4,_,hx,g5,g9⟩:=zkX hc hs hI t n _ _ h;have r:=zj8 hc hs hI g1.1 g2 g4;have g3:=zj8 hc hs hI g5 g9 g0
   have gb:RP (nxL c) (zaO c s (ow s (zaO c s u))).toNat (zaO c s t).toNat:=by
     rcases hx with rfl | hx
     . exact .one g3
     exact RP.trans hx (.one g3)
   rcases zsH hc hs hI g0 n _ _ h l hl with h3 | ⟨h3,h4⟩
   . rw [qaV,qaR,qaN] at h3;rcases h3 with h3 | h3
     . exact .inl h3
     have:(zaO c s u).toNat=l:=by simpa using h3
     exact .inr ⟨.inl this.symm,by rw [<-this];exact (RP.one r).trans gb⟩
   refine .inr ⟨.inr ?_,h4⟩;rcases h3 with rfl | h3
   . exact .one r
   exact (RP.one r).trans h3
def zxj (hc:CodeR c) (hs:zaV c s) (hI:RunI c s) (t:Int):ze2 ((zf5 c).map za5) (zby (ze9 c s t)):=by
 by_cases h0:ze9 c s t=0
 . exact .inl (by rw [h0];exact zwy)
 right;have g0:=zrL hc hs t;obtain ⟨hw,_,hx,g9,gb⟩:=zkX hc hs hI t _ _ _ h0;have g1:=zj8 hc hs hI g9 gb hw
 have g2:RP (nxL c) (zaO c s t).toNat (zaO c s t).toNat:=by
   rcases hx with rfl | hx
   . exact .one g1
   exact RP.trans hx (.one g1)
 have g3:=zsH hc hs hI hw _ _ _ h0;have:=(zib hc hs t).2.1;have hm:=zCh (c:=c) (i:=(zaO c s t).toNat) oo;unfold zGR at hm;obtain ⟨p,hp,g5⟩:=List.mem_flatten.1 hm;have gc:p∈zf5 c:=zoP.2 ⟨hp,_,g5,g2⟩;refine ⟨za5 p,qa3.2 ⟨p,gc,rfl⟩,λ_ hy=>?_⟩;obtain ⟨l,rfl,hl⟩:=(znk g0).1 hy;refine zBq.2 ⟨l,?_,rfl⟩;obtain ⟨i,_,rfl⟩:=zno p hp;have h2:=(zaI.1 g5).2;rcases g3 l hl with h3 | ⟨h3,h4⟩
 . simp at h3
 have g4:RP (nxL c) (zaO c s t).toNat l:=by
   rcases h3 with rfl | h3
   . exact g2
   exact h3
 refine zaI.2 ⟨(zHt (zGQ hc) g4).2,?_⟩;rcases h2 with h2 | ⟨h5,h6⟩
 . rw [h2] at g4 h4;exact .inr ⟨g4,h4⟩
 exact .inr ⟨h5.trans g4,h4.trans h6⟩
open Classical in
noncomputable def zsI (c:DCode):List DRace:=if CodeR c then zcX (zkZ c (zvN c) (zvN c).length) else []
def znU (h0:Is W0 v0 c) (e0:Ext W0 w) :
   CALL tp 13 [v0] w λr w'=>Ext w w'/\Own w.heap.size w' r (zsI c):=by
 refine co (g:=kf [] [] []) Tryz.func13 ?_;refine zbp h0 e0 λ_ g0 hA=>zab zbY hA (xrf _) λ_ h6=>?_;refine (zoQ h6 (xrf _)).mono ?_;rintro _ _ ⟨g1,hr⟩;have:=g0.size;have:=g1.size;rcases hr with ⟨hn,rfl⟩ | ⟨hc,_,rfl,hW⟩
 . refine zaN rfl ?_;refine zaN rfl<|za2<|zbX (λ_=>?_) (λh=>by cases h);refine ⟨g0.t g1,?_⟩;unfold zsI;rw [qab hn];exact ziz rfl
 refine zaN rfl<|zaN rfl<|za2<|zbX (λh=>by cases h) (λ_=>?_);refine (zCu hW (xrf _) hc).mono ?_;rintro _ _ ⟨g2,g3⟩;refine ⟨g0.t (g1.t g2),?_⟩;unfold zsI;rw [qah hc];exact g3.mono oo
end Go.Proofs.YtkgiigmcbgifdaaGreat
