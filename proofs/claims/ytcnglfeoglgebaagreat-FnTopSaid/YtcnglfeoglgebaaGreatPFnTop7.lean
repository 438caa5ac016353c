/-
  Parts of the proof, put together by program.
-/
import Derived.Test.YtcnglfeoglgebaaGreatPFnTop6
set_option maxRecDepth 20000
set_option linter.defProp false
set_option linter.unusedVariables false
set_option linter.unusedSimpArgs false
set_option linter.unusedSectionVars false
namespace Go.Proofs.YtcnglfeoglgebaaGreat
open Go Go.Sh Go.Proofs
open Rep (rep)
variable {W w:World} {g k:Nat} {v:Value}
def zyp {bs:List UInt8} (hk:k<(bs.take 4000).length) (h:Int):((bs.take 4000).take (k+1)).foldl (λh (b:UInt8)=>zuT (h*131+(b.toNat:Int)+7) 1073741823) h =
   zuT (((bs.take 4000).take k).foldl (λh (b:UInt8)=>zuT (h*131+(b.toNat:Int)+7) 1073741823) h*131+(((bs.take 4000)[k]).toNat:Int)+7) 1073741823:=by
 rw [tk hk,List.foldl_append];rfl
set_option maxRecDepth 100000 in
theorem zqU {bs:List UInt8} (h:Is W v bs) (e:Ext W w) (hl:bs.length<=1048576) :
    CALL tp 41 [v] w λr w'=>Ext w w'/\∃ g,r=.pointer (some ⟨g,0,none⟩)/\w.heap.size<=g/\CurAt w g bs (zqm bs) w':=by
  have fin:∀ {w1:World} {hh:Int},Ext w w1->hh=zE3 bs->I64 hh->RD tp (Instr.build 125 #[(0,v),(2,.int .i64 hh)]) w1 λg3=>OP tp (Instr.box 125 g3) w1 λg4 w2=>
      Ext w w2/\∃ g,g4=.pointer (some ⟨g,0,none⟩)/\w.heap.size<=g/\CurAt w g bs (zqm bs) w2:=by
    intro w1 hh C g5 hI;obtain ⟨a,cap,Fi,xs,rfl,_⟩:=zcT h;refine zaX (cells:=#[.slice a bs.length cap,.int .i64 0,.int .i64 hh]) kK<|zo0 λw2 g0 g1=>⟨C.t g0,_,rfl,C.size,.slice a bs.length cap,h.ext e,C.t g0,C.size,?_,z0 _,hl⟩;rw [g5] at g1;exact g1
  refine co (g:=kf [] [(3,268435224,[3,4])] []) Tryz.func41 ?_;refine zae u22 h<|zc1 (by unfold I64;omega) ?_
  refine zao (bs.take 4000).length (λk us w'=>∃ hh:Int,us=[.int .i64 hh,.int .i64 (k:Int)]/\Ext w w'/\k<=(bs.take 4000).length/\0<=hh/\hh<=1073741823/\hh=((bs.take 4000).take k).foldl (λh (b:UInt8)=>zuT (h*131+(b.toNat:Int)+7) 1073741823) (94701+(bs.length:Int))) 0 (z0 _)
    ⟨_,rfl,xrf w,z0 _,oo,oo,sS⟩ ?_
  rintro k m u w1 hkm ⟨hh,hu,C,hkl,h0,h1,hf⟩;obtain ⟨g9,gb⟩:=zcB hu;rw [g9,gb];have htl:(bs.take 4000).length=min 4000 bs.length:=qai
  have D:(bs.take 4000).length<=k->hh=zE3 bs:=λhk=>by
    rw [hf,qaf hk];rfl
  have g2:I64 hh:=by unfold I64;omega
  refine zae u22 h<|zag<|br (λhlt=>?_) (λgc=>fin C (D oo) g2);refine zag<|br (λgd=>?_) (λgc=>fin C (D oo) g2);have hk:k<(bs.take 4000).length:=oo
  have gf:k<bs.length:=oo
  refine znw (by unfold I64;omega)<|zad u22 ty5 (i:=k) h gf λb o hA=>ztI ty5 hA (e.trans C) ?_;have gg:=UInt8.toNat_lt (bs[k]);refine zwJ kK u3 oo<|zc1 (by unfold I64;omega)<|zc1 (by unfold I64;omega)<|zr1<|zau ?_;have hb:=zoB (hh*131+((bs[k]).toNat:Int)+7) (n:=1073741823) oo;refine ⟨m-1,oo,k+1,oo,_,rfl,C,oo,hb.1,hb.2,?_⟩;rw [zyp hk,<-hf,qcr]
def zjo (bs:List UInt8):DCode:=zcE (zeY bs (zqm bs)).1
def zvt (bs:List UInt8):CodeR (zjo bs)/\(zjo bs).ins.length<=436:=zj1 (zjT bs _)
set_option maxRecDepth 20000 in
theorem zvu {bs:List UInt8} {s:Cur} (hC:CurAt W g bs s w) :
    CALL tp 61 [.pointer (some ⟨g,0,none⟩)] w λr w'=>ChgI g (g+1) w w'/\OwnI w.heap.size w'.heap.size w' r (zcE (zeY bs s).1)/\CurAt W g bs (zeY bs s).2 w':=by
  have hgl:=hC.lt;refine co (g:=kf [] [] []) Tryz.func61 ?_;refine zb5 zCE λw1 g3 gb=>?_;have hs1:=g3.size;have hg1:=gb.lt;refine (zvf (hC.ext g3)).mono ?_;rintro v9 w2 ⟨g4,gf,o9⟩;have hs2:=g4.size;refine (zps o9.is (xrf _) (zjT bs s)).mono ?_;rintro _ w3 ⟨g1,a,rfl,C⟩;have hs3:=g1.size;refine zaY rfl<|zaY rfl<|zb5 zCE λw4 D gc=>?_;have hs4:=D.size;have hg4:=gc.lt;have C:=C.ext D
  have g0:∃ us:Array Value,a=.agg us:=by
    obtain ⟨F,⟨⟨cs,hr,hv⟩,_⟩,_⟩:=C;exact ⟨cs.toArray,by simpa [mkv,Rep.agg] using hv⟩
  obtain ⟨us,rfl⟩:=g0;have g5:Blk w.heap.size 36 w4 _:=((gb.chgI g4 oo).ext g1).ext D
  have gd:us.toList.length=5:=by
    obtain ⟨F,⟨⟨cs,hr,hv⟩,_⟩,_⟩:=C;have:us=cs.toArray:=by simpa [mkv,Rep.agg] using hv
    rw [this];exact Rep.len hr
  refine zcg zbq rfl gc rfl C λw5 I gg=>?_;have hs5:=I.size;have C:=C.chg I oo;refine zaV<|zbz (λhc=>by simp at hc) (λ_=>?_);refine ziq gg (by rw [gd];exact zbq) ?_;have g9:=g5.chgI I oo;refine zcg zbq rfl g9 rfl C λw6 g2 gh=>?_;have hs6:=g2.size;refine zeI gh (by rw [gd];exact zbq)<|⟨?_,(C.chg g2 oo).mono oo oo,?_⟩
  . exact ChgI.out (ChgI.out (((g3.toI.trans g4).trans g1.toI).trans D.toI) I oo) g2 oo
  exact (((gf.ext g1).ext D).chg I oo oo).chg g2 oo oo
def zsE {bs:List UInt8} (h:Is W v bs) (e:Ext W w) (hl:bs.length<=1048576) :
   CALL tp 21 [v] w λr w'=>Ext w w'/\Own w.heap.size w' r (zjo bs):=by
 refine co (g:=kf [] [] []) Tryz.func21 ?_;refine zb5 zCE λw1 g1 g4=>?_;have hs1:=g1.size;have hg1:=g4.lt;refine (zqU h (e.trans g1) hl).mono ?_;rintro _ w2 ⟨g2,g,rfl,hg,g5⟩;have hs2:=g2.size;have hg2:=g5.lt;refine (zvu g5).mono ?_;rintro v5 w3 ⟨g3,o5,-⟩;have hs3:=g3.size
 have g0:∃ us:Array Value,v5=.agg us:=by
   obtain ⟨F,⟨⟨cs,hr,hv⟩,_⟩,_⟩:=o5;exact ⟨cs.toArray,by simpa [mkv,Rep.agg] using hv⟩
 obtain ⟨us,rfl⟩:=g0
 have gb:us.toList.length=5:=by
   obtain ⟨F,⟨⟨cs,hr,hv⟩,_⟩,_⟩:=o5;have:us=cs.toArray:=by simpa [mkv,Rep.agg] using hv
   rw [this];exact Rep.len hr
 have gc:=(g4.ext g2).chgI g3 oo;refine zcg zbq rfl gc rfl o5 λw4 g9 gd=>zeI gd (by rw [gb];exact zbq)<|⟨Ext.chgI (Ext.chgI (g1.t g2) g3 oo) g9 oo,(o5.chg g9 oo).own.mono oo⟩
def zes (bs:List UInt8) (m:Int):Nat->Cur->List Int
 | 0,_=>[]
 | n+1,s=>zbN bs m s :: zes bs m n (zap bs m s)
theorem zkN (bs:List UInt8) (m:Int):∀ (n:Nat) (s:Cur),(zes bs m n s).length=n
 | 0,_=>rfl
 | n+1,s=>by rw [zes,qaj,zkN bs m n]
theorem zmt (bs:List UInt8) {m:Int} (hm:0<m):∀ (n:Nat) (s:Cur),∀ x∈zes bs m n s,0<=x/\x<m
 | 0,_,x,h=>by rw [zes] at h;cases h
 | n+1,s,x,h=>by
   rw [zes] at h;rcases qaa.1 h with rfl | h
   . exact zcM bs hm s
   exact zmt bs hm n _ x h
def zqV (bs:List UInt8):List Int:=zes bs 12 70 (zdV bs (zqm bs))
def zqW {bs:List UInt8} (h:Is W v bs) (e:Ext W w) (hl:bs.length<=1048576) :
   CALL tp 14 [v] w λr w'=>Ext w w'/\Own w.heap.size w' r (zqV bs):=by
 refine co (g:=kf [] [(5,1046576,[4,5])] []) Tryz.func14 ?_;refine (zqU h e hl).mono ?_;rintro _ w1 ⟨g4,g,rfl,hg,g5⟩;have hs1:=g4.size;have hgl:=g5.lt;refine (ze8 g5).mono ?_;rintro _ w2 ⟨g9,gc,rfl⟩;have hs2:=g9.size;refine zaK (α:=Int) u33 ty3 λv10 w3 g0 gd=>?_;have hs3:=g0.size
 refine zao 70 (λk us w'=>∃ v hi l s1,us=[v,.int .i64 (k:Int)]/\k<=70/\ChgI g (g+1) w2 w'/\CurAt w g bs s1 w'/\RowI w3.heap.size hi 3 w' v l/\w3.heap.size<=hi/\hi<=w'.heap.size/\l.length=k/\zqV bs=l++zes bs 12 (70-k) s1) 0 (z0 _)
   ⟨_,w3.heap.size,[],_,rfl,oo,g0.toI,gc.ext g0,gd,lr _,qas _,rfl,rfl⟩ ?_
 rintro k m u w4 hkm ⟨v4,hi,l,s1,hu,hkl,gb,gf,r4,hlo,hhi,gg,g1⟩;obtain ⟨gh,gi⟩:=zcB hu;rw [gh,gi];refine zag<|br (λhlt=>?_) (λhge=>?_)
 . have hk:k<70:=oo
   refine (zcW gf oo).mono ?_;rintro _ w5 ⟨g2,gj,rfl⟩;have hs5:=g2.size;have hb:=zcM bs (n:=12) oo s1;refine zbO (α:=Int) (lo2:=w5.heap.size) (hi2:=w5.heap.size) u33 ty3 z3 zc3 qd (r4.chg g2 oo) oo (Go.Sh.ownI_int (by unfold I64;omega)) oo oo (by rw [zal];omega) oo λgl w6 g3 r6=>?_;have hs6:=g3.size;refine zau<|⟨m-1,oo,k+1,oo,gl,w6.heap.size,_,_,rfl,oo,ChgI.out (gb.trans g2) g3 oo,gj.chg g3 oo oo,r6,oo,lr _,by simp [gg],?_⟩;rw [g1,show 70-k=(70-(k+1))+1 by omega,zes];simp
 have hk:k=70:=oo
 subst hk;rw [qc0,zes,qaC] at g1;rw [g1];exact ⟨Ext.chgI (Ext.chgI g4 g9 hg) gb hg,r4.own.own.mono oo⟩
theorem zFm {G L P:List ByteArray} {c:Scp} (hG:G=c.gl) (hL:L=c.lk) (hP:∀ x∈c.pr,x∈P):∀ (l:List DProc) (a:Nat),(∀ x∈l,zu6 c x.body)->∀ y∈emP G L P l a,wT y.term<=24
 | [],_,_,y,h=>by rw [emP] at h;cases h
 | x :: l,a,hb,y,h=>by
   have w0:wT term0<=24:=by decide
   rw [emP] at h;rcases qae.1 h with h | h
   . have:=((zE6 hG hL hP 2).2 x.body a (hb x sS).1).1 y h
     obtain ⟨_,_,_,q4,_⟩:=this;split at q4
     . exact q4.2.2
     rw [q4];exact w0
   rcases qaa.1 h with rfl | h
   . exact w0
   exact zFm hG hL hP l _ (λz hz=>hb z (by simp [hz])) y h
theorem zB1 {α:Type} {f:α->Nat} {b:Nat}:∀ {l:List α},(∀ x∈l,f x<=b)->sm f l<=l.length*b
 | [],_=>by simp [sm]
 | x :: l,h=>by
   have h1:=zB1 (l:=l) λy hy=>h y (qbN _ hy);have h2:=h x List.mem_cons_self;simp only [sm,qbC,qcT,qaj,qbi] at h1 ⊢;omega
def zEy {p:DProg} (hp:ProgR p):zu1 (zcE p)<=1048576:=by
 have hl:=(zj1 hp).2;obtain ⟨f1,f2,f3,f4⟩:=hp.facts;obtain ⟨k,hk,hn⟩:=hp.n
 have h1:zzn (zcE p).globals<=100:=by
   show zzn p.globals<=100;rcases hp.g with e | e<;>(rw [e];decide)
 have h2:zzn (zcE p).locks<=100:=by
   show zzn p.locks<=100;rcases hp.l with e | e | e<;>(rw [e];decide)
 have h3:zzn (zcE p).procs<=100:=by
   show zzn (p.procs.map DProc.name)<=100;rw [hn]
   match k,hk with
   | 0,_=>decide
   | 1,_=>decide
   | 2,_=>decide
   | 3,_=>decide
 have h4:(zcE p).entry.length<=4:=by
   have:(zcE p).entry.length=p.procs.length:=zlc _ _ _ _ _;omega
 have h5:zE1 (zcE p).ins<=20000:=by
   have:=zB1 (f:=λi:DIns=>wT i.term) (b:=24) (l:=(zcE p).ins) (zFm rfl rfl (λx hx=>qbI hx) _ _ hp.b);unfold zE1;omega
 unfold zu1;omega
def zvv (bs:List UInt8):zu1 (zjo bs)<=1048576:=zEy (zjT bs (zqm bs))
end Go.Proofs.YtcnglfeoglgebaaGreat
namespace Go.Proofs.YtcnglfeoglgebaaGreat
open Go.Shelf
def Tryz.sortRace_ren:Go.Shelf.Ren:=⟨fun | 6=>163 | 15=>219 | 14=>234 | 28=>270 | 29=>271 | 20=>289 | 21=>290 | 22=>291 | 23=>292 | 24=>293 | 25=>294 | 26=>295 | 27=>296 | 46=>328 | 47=>318 | 48=>319 | 49=>329 | 50=>330 | 57=>340 | n=>n,fun | 22=>39 | 24=>58 | 25=>185 | 3=>3 | 39=>105 | 0=>0 | 53=>272 | 55=>230 | 4=>4 | 46=>265 | 45=>264 | 50=>269 | 5=>5 | 9=>9 | 66=>298 | 70=>196 | 76=>311 | 77=>312 | n=>n,fun | n=>n⟩
def Tryz.sortRace:SlLaysF0.n6 tp Tryz.sortRace_ren:={
 mixed:=by kernel_rfl,
 f6:=⟨Tryz.f163.name,kK,Tryz.func163.trans (congrArg some kK)⟩,
 f14:=⟨Tryz.f234.name,kK,Tryz.func234.trans (congrArg some kK)⟩,
 f15:=Tryz.func219.trans (congrArg some kK),
 f20:=⟨Tryz.f289.name,kK,Tryz.func289.trans (congrArg some kK)⟩,
 f21:=⟨Tryz.f290.name,kK,Tryz.func290.trans (congrArg some kK)⟩,
 f22:=⟨Tryz.f291.name,kK,Tryz.func291.trans (congrArg some kK)⟩,
 f23:=⟨Tryz.f292.name,kK,Tryz.func292.trans (congrArg some kK)⟩,
 f24:=⟨Tryz.f293.name,kK,Tryz.func293.trans (congrArg some kK)⟩,
 f25:=⟨Tryz.f294.name,kK,Tryz.func294.trans (congrArg some kK)⟩,
 f26:=⟨Tryz.f295.name,kK,Tryz.func295.trans (congrArg some kK)⟩,
 f27:=⟨Tryz.f296.name,kK,Tryz.func296.trans (congrArg some kK)⟩,
 f28:=Tryz.func270.trans (congrArg some kK),
 f29:=Tryz.func271.trans (congrArg some kK),
 f46:=⟨Tryz.f328.name,kK,Tryz.func328.trans (congrArg some kK)⟩,
 f47:=Tryz.func318.trans (congrArg some kK),
 f48:=Tryz.func319.trans (congrArg some kK),
 f49:=⟨Tryz.f329.name,kK,Tryz.func329.trans (congrArg some kK)⟩,
 f50:=⟨Tryz.f330.name,kK,Tryz.func330.trans (congrArg some kK)⟩,
 f57:=⟨Tryz.f340.name,kK,Tryz.func340.trans (congrArg some kK)⟩,
 t0:=Tryz.underlying0,
 a0:=Tryz.isAgg0,
 z0:=Tryz.sizeOf0,
 v0:=Tryz.zeroValue0,
 t3:=Tryz.underlying3,
 a3:=Tryz.isAgg3,
 z3:=Tryz.sizeOf3,
 v3:=Tryz.zeroValue3,
 t4:=Tryz.underlying4,
 a4:=Tryz.isAgg4,
 z4:=Tryz.sizeOf4,
 v4:=Tryz.zeroValue4,
 t5:=Tryz.underlying5,
 a5:=Tryz.isAgg5,
 z5:=Tryz.sizeOf5,
 v5:=Tryz.zeroValue5,
 t9:=Tryz.underlying9,
 a9:=Tryz.isAgg9,
 z9:=Tryz.sizeOf9,
 v9:=Tryz.zeroValue9,
 t22:=Tryz.underlying39,
 a22:=Tryz.isAgg39,
 z22:=Tryz.sizeOf39,
 v22:=Tryz.zeroValue39,
 t25:=Tryz.underlying185,
 a25:=Tryz.isAgg185,
 z25:=Tryz.sizeOf185,
 v25:=Tryz.zeroValue185,
 t39:=Tryz.underlying105,
 a39:=Tryz.isAgg105,
 z39:=Tryz.sizeOf105,
 v39:=Tryz.zeroValue105,
 t45:=Tryz.underlying264,
 a45:=Tryz.isAgg264,
 z45:=Tryz.sizeOf264,
 v45:=Tryz.zeroValue264,
 t46:=Tryz.underlying265,
 a46:=Tryz.isAgg265,
 z46:=Tryz.sizeOf265,
 v46:=Tryz.zeroValue265,
 t50:=Tryz.underlying269,
 a50:=Tryz.isAgg269,
 z50:=Tryz.sizeOf269,
 v50:=Tryz.zeroValue269,
 t53:=Tryz.underlying272,
 a53:=Tryz.isAgg272,
 z53:=Tryz.sizeOf272,
 v53:=Tryz.zeroValue272,
 t55:=Tryz.underlying230,
 a55:=Tryz.isAgg230,
 z55:=Tryz.sizeOf230,
 v55:=Tryz.zeroValue230,
 t66:=Tryz.underlying298,
 a66:=Tryz.isAgg298,
 z66:=Tryz.sizeOf298,
 v66:=Tryz.zeroValue298,
 t70:=Tryz.underlying196,
 a70:=Tryz.isAgg196,
 z70:=Tryz.sizeOf196,
 v70:=Tryz.zeroValue196,
 t76:=Tryz.underlying311,
 a76:=Tryz.isAgg311,
 z76:=Tryz.sizeOf311,
 v76:=Tryz.zeroValue311,
 t77:=Tryz.underlying312,
 a77:=Tryz.isAgg312,
 z77:=Tryz.sizeOf312,
 v77:=Tryz.zeroValue312 }
def Tryz.sortOrder_ren:Go.Shelf.Ren:=⟨fun | 6=>213 | 15=>219 | 14=>260 | 28=>270 | 29=>271 | 20=>308 | 21=>309 | 22=>310 | 23=>311 | 24=>312 | 25=>313 | 26=>314 | 27=>315 | 46=>335 | 47=>318 | 48=>319 | 49=>336 | 50=>337 | 57=>343 | n=>n,fun | 22=>159 | 24=>222 | 25=>227 | 3=>3 | 39=>105 | 0=>0 | 53=>272 | 55=>230 | 4=>4 | 46=>265 | 45=>264 | 50=>269 | 5=>5 | 9=>9 | 66=>298 | 70=>196 | 76=>311 | 77=>312 | n=>n,fun | n=>n⟩
def Tryz.sortOrder:SlLaysF0.n6 tp Tryz.sortOrder_ren:={
 mixed:=by kernel_rfl,
 f6:=⟨Tryz.f213.name,kK,Tryz.func213.trans (congrArg some kK)⟩,
 f14:=⟨Tryz.f260.name,kK,Tryz.func260.trans (congrArg some kK)⟩,
 f15:=Tryz.func219.trans (congrArg some kK),
 f20:=⟨Tryz.f308.name,kK,Tryz.func308.trans (congrArg some kK)⟩,
 f21:=⟨Tryz.f309.name,kK,Tryz.func309.trans (congrArg some kK)⟩,
 f22:=⟨Tryz.f310.name,kK,Tryz.func310.trans (congrArg some kK)⟩,
 f23:=⟨Tryz.f311.name,kK,Tryz.func311.trans (congrArg some kK)⟩,
 f24:=⟨Tryz.f312.name,kK,Tryz.func312.trans (congrArg some kK)⟩,
 f25:=⟨Tryz.f313.name,kK,Tryz.func313.trans (congrArg some kK)⟩,
 f26:=⟨Tryz.f314.name,kK,Tryz.func314.trans (congrArg some kK)⟩,
 f27:=⟨Tryz.f315.name,kK,Tryz.func315.trans (congrArg some kK)⟩,
 f28:=Tryz.func270.trans (congrArg some kK),
 f29:=Tryz.func271.trans (congrArg some kK),
 f46:=⟨Tryz.f335.name,kK,Tryz.func335.trans (congrArg some kK)⟩,
 f47:=Tryz.func318.trans (congrArg some kK),
 f48:=Tryz.func319.trans (congrArg some kK),
 f49:=⟨Tryz.f336.name,kK,Tryz.func336.trans (congrArg some kK)⟩,
 f50:=⟨Tryz.f337.name,kK,Tryz.func337.trans (congrArg some kK)⟩,
 f57:=⟨Tryz.f343.name,kK,Tryz.func343.trans (congrArg some kK)⟩,
 t0:=Tryz.underlying0,
 a0:=Tryz.isAgg0,
 z0:=Tryz.sizeOf0,
 v0:=Tryz.zeroValue0,
 t3:=Tryz.underlying3,
 a3:=Tryz.isAgg3,
 z3:=Tryz.sizeOf3,
 v3:=Tryz.zeroValue3,
 t4:=Tryz.underlying4,
 a4:=Tryz.isAgg4,
 z4:=Tryz.sizeOf4,
 v4:=Tryz.zeroValue4,
 t5:=Tryz.underlying5,
 a5:=Tryz.isAgg5,
 z5:=Tryz.sizeOf5,
 v5:=Tryz.zeroValue5,
 t9:=Tryz.underlying9,
 a9:=Tryz.isAgg9,
 z9:=Tryz.sizeOf9,
 v9:=Tryz.zeroValue9,
 t22:=Tryz.underlying159,
 a22:=Tryz.isAgg159,
 z22:=Tryz.sizeOf159,
 v22:=Tryz.zeroValue159,
 t25:=Tryz.underlying227,
 a25:=Tryz.isAgg227,
 z25:=Tryz.sizeOf227,
 v25:=Tryz.zeroValue227,
 t39:=Tryz.underlying105,
 a39:=Tryz.isAgg105,
 z39:=Tryz.sizeOf105,
 v39:=Tryz.zeroValue105,
 t45:=Tryz.underlying264,
 a45:=Tryz.isAgg264,
 z45:=Tryz.sizeOf264,
 v45:=Tryz.zeroValue264,
 t46:=Tryz.underlying265,
 a46:=Tryz.isAgg265,
 z46:=Tryz.sizeOf265,
 v46:=Tryz.zeroValue265,
 t50:=Tryz.underlying269,
 a50:=Tryz.isAgg269,
 z50:=Tryz.sizeOf269,
 v50:=Tryz.zeroValue269,
 t53:=Tryz.underlying272,
 a53:=Tryz.isAgg272,
 z53:=Tryz.sizeOf272,
 v53:=Tryz.zeroValue272,
 t55:=Tryz.underlying230,
 a55:=Tryz.isAgg230,
 z55:=Tryz.sizeOf230,
 v55:=Tryz.zeroValue230,
 t66:=Tryz.underlying298,
 a66:=Tryz.isAgg298,
 z66:=Tryz.sizeOf298,
 v66:=Tryz.zeroValue298,
 t70:=Tryz.underlying196,
 a70:=Tryz.isAgg196,
 z70:=Tryz.sizeOf196,
 v70:=Tryz.zeroValue196,
 t76:=Tryz.underlying311,
 a76:=Tryz.isAgg311,
 z76:=Tryz.sizeOf311,
 v76:=Tryz.zeroValue311,
 t77:=Tryz.underlying312,
 a77:=Tryz.isAgg312,
 z77:=Tryz.sizeOf312,
 v77:=Tryz.zeroValue312 }
def Tryz.sortInts_ren:Go.Shelf.Ren:=⟨fun | 6=>136 | 15=>219 | 14=>218 | 28=>270 | 29=>271 | 20=>262 | 21=>263 | 22=>264 | 23=>265 | 24=>266 | 25=>267 | 26=>268 | 27=>269 | 46=>317 | 47=>318 | 48=>319 | 49=>320 | 50=>321 | 57=>338 | n=>n,fun | 22=>44 | 24=>33 | 25=>164 | 3=>3 | 39=>105 | 0=>0 | 53=>272 | 55=>230 | 4=>4 | 46=>265 | 45=>264 | 50=>269 | 5=>5 | 9=>9 | 66=>298 | 70=>196 | 76=>311 | 77=>312 | n=>n,fun | n=>n⟩
def Tryz.sortInts:SlLaysF.n6 tp Tryz.sortInts_ren:={
 mixed:=by kernel_rfl,
 f6:=⟨Tryz.f136.name,kK,Tryz.func136.trans (congrArg some kK)⟩,
 f14:=⟨Tryz.f218.name,kK,Tryz.func218.trans (congrArg some kK)⟩,
 f15:=Tryz.func219.trans (congrArg some kK),
 f20:=⟨Tryz.f262.name,kK,Tryz.func262.trans (congrArg some kK)⟩,
 f21:=⟨Tryz.f263.name,kK,Tryz.func263.trans (congrArg some kK)⟩,
 f22:=⟨Tryz.f264.name,kK,Tryz.func264.trans (congrArg some kK)⟩,
 f23:=⟨Tryz.f265.name,kK,Tryz.func265.trans (congrArg some kK)⟩,
 f24:=⟨Tryz.f266.name,kK,Tryz.func266.trans (congrArg some kK)⟩,
 f25:=⟨Tryz.f267.name,kK,Tryz.func267.trans (congrArg some kK)⟩,
 f26:=⟨Tryz.f268.name,kK,Tryz.func268.trans (congrArg some kK)⟩,
 f27:=⟨Tryz.f269.name,kK,Tryz.func269.trans (congrArg some kK)⟩,
 f28:=Tryz.func270.trans (congrArg some kK),
 f29:=Tryz.func271.trans (congrArg some kK),
 f46:=⟨Tryz.f317.name,kK,Tryz.func317.trans (congrArg some kK)⟩,
 f47:=Tryz.func318.trans (congrArg some kK),
 f48:=Tryz.func319.trans (congrArg some kK),
 f49:=⟨Tryz.f320.name,kK,Tryz.func320.trans (congrArg some kK)⟩,
 f50:=⟨Tryz.f321.name,kK,Tryz.func321.trans (congrArg some kK)⟩,
 f57:=⟨Tryz.f338.name,kK,Tryz.func338.trans (congrArg some kK)⟩,
 t0:=Tryz.underlying0,
 a0:=Tryz.isAgg0,
 z0:=Tryz.sizeOf0,
 v0:=Tryz.zeroValue0,
 t3:=Tryz.underlying3,
 a3:=Tryz.isAgg3,
 z3:=Tryz.sizeOf3,
 v3:=Tryz.zeroValue3,
 t4:=Tryz.underlying4,
 a4:=Tryz.isAgg4,
 z4:=Tryz.sizeOf4,
 v4:=Tryz.zeroValue4,
 t5:=Tryz.underlying5,
 a5:=Tryz.isAgg5,
 z5:=Tryz.sizeOf5,
 v5:=Tryz.zeroValue5,
 t9:=Tryz.underlying9,
 a9:=Tryz.isAgg9,
 z9:=Tryz.sizeOf9,
 v9:=Tryz.zeroValue9,
 t22:=Tryz.underlying44,
 a22:=Tryz.isAgg44,
 z22:=Tryz.sizeOf44,
 v22:=Tryz.zeroValue44,
 a24:=Tryz.isAgg33,
 z24:=Tryz.sizeOf33,
 t25:=Tryz.underlying164,
 a25:=Tryz.isAgg164,
 z25:=Tryz.sizeOf164,
 v25:=Tryz.zeroValue164,
 t39:=Tryz.underlying105,
 a39:=Tryz.isAgg105,
 z39:=Tryz.sizeOf105,
 v39:=Tryz.zeroValue105,
 t45:=Tryz.underlying264,
 a45:=Tryz.isAgg264,
 z45:=Tryz.sizeOf264,
 v45:=Tryz.zeroValue264,
 t46:=Tryz.underlying265,
 a46:=Tryz.isAgg265,
 z46:=Tryz.sizeOf265,
 v46:=Tryz.zeroValue265,
 t50:=Tryz.underlying269,
 a50:=Tryz.isAgg269,
 z50:=Tryz.sizeOf269,
 v50:=Tryz.zeroValue269,
 t53:=Tryz.underlying272,
 a53:=Tryz.isAgg272,
 z53:=Tryz.sizeOf272,
 v53:=Tryz.zeroValue272,
 t55:=Tryz.underlying230,
 a55:=Tryz.isAgg230,
 z55:=Tryz.sizeOf230,
 v55:=Tryz.zeroValue230,
 t66:=Tryz.underlying298,
 a66:=Tryz.isAgg298,
 z66:=Tryz.sizeOf298,
 v66:=Tryz.zeroValue298,
 t70:=Tryz.underlying196,
 a70:=Tryz.isAgg196,
 z70:=Tryz.sizeOf196,
 v70:=Tryz.zeroValue196,
 t76:=Tryz.underlying311,
 a76:=Tryz.isAgg311,
 z76:=Tryz.sizeOf311,
 v76:=Tryz.zeroValue311,
 t77:=Tryz.underlying312,
 a77:=Tryz.isAgg312,
 z77:=Tryz.sizeOf312,
 v77:=Tryz.zeroValue312 }
end Go.Proofs.YtcnglfeoglgebaaGreat
namespace Go.Proofs.YtcnglfeoglgebaaGreat
open Go Go.Sh Go.Proofs
open Rep (rep)
variable {K:Value->Prop} {P:Program} {k:Nat} {w:World} {x:Int}
def zER:zcz tp 3=some [.int .i64 0]:=by kernel_rfl
def zue (x y:Int):Int:=if x<y then -1 else if y<x then 1 else 0
def zyq:List Int->List Int->Int
 | [],[]=>0
 | [],_ :: _=>-1
 | _ :: _,[]=>1
 | x :: l,y :: m=>if zue x y≠0 then zue x y else zyq l m
def isNaN_ok:CALL tp 316 [.int .i64 x] w λr w'=>w'=w/\r=.bool false:=by
 refine co (g:=kf [] [] []) Tryz.func316 ?_;exact zaP ⟨rfl,sS⟩
def compareI_ok {x y:Int}:CALL tp 261 [.int .i64 x,.int .i64 y] w λr w'=>w'=w/\r=.int .i64 (zue x y):=by
 refine co (g:=kf [] [] []) Tryz.func261 ?_;refine isNaN_ok.mono ?_;rintro _ _ ⟨rfl,rfl⟩;refine isNaN_ok.mono ?_;rintro _ _ ⟨rfl,rfl⟩;refine zbz (λh=>by cases h) (λ_=>?_);refine zbz (λh=>by cases h) (λ_=>?_);refine zag<|br (λh=>⟨rfl,by rw [zue,if_pos h]⟩) (λh=>?_);refine zcK<|br (λh2=>⟨rfl,by rw [zue,if_neg h,if_pos h2]⟩) (λh2=>⟨rfl,by rw [zue,if_neg h,if_neg h2]⟩)
def zmu {t ty e:TypeId} {a:Option Addr} {n c:Nat} (ht:P.underlying t=some (.slice e)) (k:K (.int .i64 (n:Int))) :
   RD P (Builtin.len_ #[t] ty [Value.slice a n c].toArray) w K:=zbb (λw' _=>by simp [Builtin.len_,run_underlying ht];rfl) k
def vI (l:List Int):List Value:=l.map λx=>.int .i64 x
def zB2 {l:List Int} (h:k<l.length):(vI l)[k]?=some (.int .i64 l[k]):=by simp [vI,h]
def zyr {l m:List Int} (h1:k<l.length) (h2:k<m.length):zyq (l.drop k) (m.drop k)=if zue l[k] m[k]≠0 then zue l[k] m[k] else zyq (l.drop (k+1)) (m.drop (k+1)):=by
 rw [qau h1,qau h2,zyq]
def zmv {g1 g2 e1 e2 c1 c2:Nat} {l m:List Int} (h1:Blk g1 e1 w (vI l)) (h2:Blk g2 e2 w (vI m)) (hl:l.length<=1000) (hm:m.length<=1000) :
   CALL tp 215 [.slice (some ⟨g1,0,none⟩) l.length c1,.slice (some ⟨g2,0,none⟩) m.length c2] w λr w'=>w'=w/\r=.int .i64 (zyq l m):=by
 refine co (g:=kf [] [(2,2147482096,[11])] []) Tryz.func215 ?_;refine zmu u33<|zao l.length (λk us w'=>us=[.int .i64 (k:Int)]/\w'=w/\k<=m.length/\zyq l m=zyq (l.drop k) (m.drop k)) 0 (z0 _) ⟨rfl,rfl,z0 _,rfl⟩ ?_;rintro k mk u w2 hkm ⟨hu,rfl,hkl,hc⟩;try replace hu:=zbt hu
 rw [hu];refine zag<|br (λhlt=>?_) (λg9=>?_)
 . have g0:k<l.length:=oo
   refine ziP u33 ty3 g0 ?_;rw [qcs];refine zax ty3 h1 (zB2 g0)<|zmu u33<|zcb<|br (λg9=>?_) (λg3=>?_)
   . refine ⟨rfl,?_⟩
     have e0:m.drop k=[]:=qbZ oo;rw [hc,qau g0,e0];rfl
   have g4:k<m.length:=oo
   refine ziP u33 ty3 g4 ?_;rw [qcs];refine zax ty3 h2 (zB2 g4)<|compareI_ok.mono ?_;rintro _ _ ⟨rfl,rfl⟩;have g5:=zyr g0 g4;refine zaP<|br (λgb=>?_) (λgc=>?_)
   . exact ⟨rfl,by rw [hc,g5,if_pos gb]⟩
   refine zau<|⟨mk-1,oo,k+1,oo,rfl,rfl,oo,by rw [hc,g5,if_neg gc]⟩
 have hk:k=l.length:=oo
 subst hk;refine zmu u33<|zmu u33<|zag ?_;rw [qbo] at hc;refine br (λg3=>⟨rfl,?_⟩) (λgd=>⟨rfl,?_⟩)
 . rw [hc,qau oo];rfl
 rw [hc,qbZ oo];rfl
section
variable {P:Program} {w:World} {K:VW}
def zpt {t:TypeId} {cs:Array Value} (k:K (.pointer (some ⟨w.heap.size,0,none⟩)) (w.alloc (.cells cs t))):OP P (Instr.box t (.agg cs)) w K:=
 ⟨_,w.alloc (.cells cs t),by simp [Instr.box,newVar,newRow,Value.cells],k⟩
theorem zhX {t e:TypeId} {by_:Nat} {x y z:Int} (ht:P.underlying t=some (.slice e)) (he:tyI P e=some (1,by_,false)) (hz:zcz P e=some [.int .i64 0])
   (k:K (.slice (some ⟨w.heap.size,0,none⟩) 3 3) (w.alloc (.cells (vI [x,y,z]).toArray e))):OP P (Instr.buildSlice t 3 #[(0,.int .i64 x),(1,.int .i64 y),(2,.int .i64 z)]) w K:=by
 unfold zcz at hz;cases hi:P.info? e with
 | none=>simp [hi] at hz
 | some i=>
   simp only [hi] at hz;obtain ⟨v,hv,g1⟩:=qaU.1 hz;refine ⟨_,w.alloc (.cells (vI [x,y,z]).toArray e),?_,k⟩;have g0:v.cells=#[.int .i64 0]:=qce (by simpa using g1);have e1:∀ n:Int,(Value.int .i64 n).cells=#[.int .i64 n]:=λ_=>rfl;simp only [Instr.buildSlice,Sem.run_bind,run_underlying ht,Result.andThen_ok,zaS he];have e2:Array.range 3=#[0,1,2]:=by decide
   simp [zeroValue,typeInfo,hi,hv,newRow,Instr.fill,g0,vI,e1,e2]
end
def i3 (a b c:Int):Array Value:=#[.int .i64 a,.int .i64 b,.int .i64 c]
def ziz (w w':World):Prop:=∃ q os,w'=Go.Sort.grow (w.drewN q) os
def zkO (o1 o2 o3 o4:Obj):ziz w ((((w.alloc o1).alloc o2).alloc o3).alloc o4):=
 ⟨0,#[o1]++#[o2]++#[o3]++#[o4],by
   rw [Go.Sort.alloc_eq_grow,Go.Sort.alloc_eq_grow,Go.Sort.alloc_eq_grow,Go.Sort.alloc_eq_grow,Go.Sort.grow_grow,Go.Sort.grow_grow,Go.Sort.grow_grow];rfl⟩
def zmw (x:DRace):List Int:=[x.g,x.a,x.b]
def zAf (x y:DRace):Int:=zyq (zmw x) (zmw y)
def zmx {x y:DRace}:CALL tp 164 [.agg (i3 x.g x.a x.b),.agg (i3 y.g y.a y.b)] w λr w'=>r=.int .i64 (zAf x y)/\ziz w w':=by
 refine co (g:=kf [] [] []) Tryz.func164 ?_;refine zpt ?_;have g0:Blk w.heap.size 58 (w.alloc (.cells (i3 x.g x.a x.b) 58)) (vI (zmw x)):=heap_alloc_new w _;refine zpt ?_;generalize hw1:w.alloc (.cells (i3 x.g x.a x.b) 58)=w1 at *;have g1:Blk w1.heap.size 58 (w1.alloc (.cells (i3 y.g y.a y.b) 58)) (vI (zmw y)):=heap_alloc_new w1 _;have g2:=za6 w1 (.cells (i3 y.g y.a y.b) 58);generalize hw2:w1.alloc (.cells (i3 y.g y.a y.b) 58)=w2 at *;have C:=g0.ext g2;refine zab znD<|zax ty3 C rfl<|zab znE<|zax ty3 C rfl<|zab ztu<|zax ty3 C rfl<|zhX u33 ty3 zER ?_;have g3:=za6 w2 (.cells (vI [x.g,x.a,x.b]).toArray 3);have g4:Blk w2.heap.size 3 (w2.alloc (.cells (vI [x.g,x.a,x.b]).toArray 3)) (vI (zmw x)):=heap_alloc_new w2 _;generalize hw3:w2.alloc (.cells (vI [x.g,x.a,x.b]).toArray 3)=w3 at *;have D:=g1.ext g3;refine zab znD<|zax ty3 D rfl<|zab znE<|zax ty3 D rfl<|zab ztu<|zax ty3 D rfl<|zhX u33 ty3 zER ?_;have g5:=za6 w3 (.cells (vI [y.g,y.a,y.b]).toArray 3);have g9:Blk w3.heap.size 3 (w3.alloc (.cells (vI [y.g,y.a,y.b]).toArray 3)) (vI (zmw y)):=heap_alloc_new w3 _;have hg:ziz w (w3.alloc (.cells (vI [y.g,y.a,y.b]).toArray 3)):=by rw [<-hw3,<-hw2,<-hw1];exact zkO _ _ _ _
 refine (zmv (l:=zmw x) (m:=zmw y) (g4.ext g5) g9 (by simp [zmw]) (by simp [zmw])).mono ?_;rintro _ _ ⟨rfl,rfl⟩;exact ⟨rfl,hg⟩
def ltR (x y:DRace):Prop:=x.g<y.g\/(x.g=y.g/\(x.a<y.a\/(x.a=y.a/\x.b<y.b)))
def zkf {x y:Int} (h:x<y):zue x y=-1:=by rw [zue,if_pos h]
def zkg {x y:Int} (h:y<x):zue x y=1:=by rw [zue,if_neg oo,if_pos h]
def zkh {x y:Int} (h:x=y):zue x y=0:=by rw [zue,if_neg oo,if_neg oo]
def zC3 {x y:DRace}:zAf x y<0↔ltR x y:=by
 unfold zAf zmw ltR;simp only [zyq];rcases qbP x.g y.g with h | h | h
 . rw [zkf h];simp;omega
 . rw [zkh h]
   rcases qbP x.a y.a with h2 | h2 | h2
   . rw [zkf h2];simp;omega
   . rw [zkh h2]
     rcases qbP x.b y.b with h3 | h3 | h3
     . rw [zkf h3];simp;omega
     . rw [zkh h3];simp;omega
     rw [zkg h3];simp;omega
   rw [zkg h2];simp;omega
 rw [zkg h];simp;omega
end Go.Proofs.YtcnglfeoglgebaaGreat
namespace Go.Proofs.YtcnglfeoglgebaaGreat
open Go Go.Sh Go.Proofs Go.Sort
open Rep (rep)
variable {W0 W1 w:World} {a:Int} {b hi lo o:Nat} {c:DCode} {v v0 v1:Value} {y:DRace}
structure DOrder where
 fr:Int
 to:Int
 at_:Int
def DOrder.ext_iff {x y:DOrder}:x=y↔(x.fr=y.fr/\x.to=y.to/\x.at_=y.at_):=⟨λh=>by rw [h];exact ⟨rfl,rfl,rfl⟩,λh=>by obtain ⟨h0,h1,h2⟩:=h;cases x;cases y;simp only at h0 h1 h2;simp only [h0,h1,h2]⟩
instance:DecidableEq DOrder:=λx y=>decidable_of_iff (x.fr=y.fr/\x.to=y.to/\x.at_=y.at_) DOrder.ext_iff.symm
instance:Rep DOrder:=Rep.via λx=>(x.fr,x.to,x.at_)
def zmy {x:DOrder} (h:At w b o x):At w b (o+0) x.fr:=zcG (α:=Int) (β:=Int×Int) (p:=(x.fr,x.to,x.at_)) h
def zmz {x:DOrder} (h:At w b o x):At w b (o+1) x.to:=zcG (α:=Int) (β:=Int) (p:=(x.to,x.at_)) (zbh (α:=Int) (β:=Int×Int) (p:=(x.fr,x.to,x.at_)) h)
instance:RepZ DOrder:=⟨⟨(RepZ.zv:Int),(RepZ.zv:Int),(RepZ.zv:Int)⟩,RepZ.zc (Int×Int×Int),λw=>RepZ.zr (α:=Int×Int×Int) w⟩
instance:Flat DOrder:=⟨λh=>Flat.flat (α:=Int×Int×Int) h⟩
def zys (x:DOrder):List Int:=[x.fr,x.to,x.at_]
def zAg (x y:DOrder):Int:=zyq (zys x) (zys y)
def zyt {x y:DOrder}:CALL tp 214 [.agg (i3 x.fr x.to x.at_),.agg (i3 y.fr y.to y.at_)] w λr w'=>r=.int .i64 (zAg x y)/\ziz w w':=by
 refine co (g:=kf [] [] []) Tryz.func214 ?_;refine zpt ?_;have g0:Blk w.heap.size 222 (w.alloc (.cells (i3 x.fr x.to x.at_) 222)) (vI (zys x)):=heap_alloc_new w _;refine zpt ?_;generalize hw1:w.alloc (.cells (i3 x.fr x.to x.at_) 222)=w1 at *;have g1:Blk w1.heap.size 222 (w1.alloc (.cells (i3 y.fr y.to y.at_) 222)) (vI (zys y)):=heap_alloc_new w1 _;have g2:=za6 w1 (.cells (i3 y.fr y.to y.at_) 222);generalize hw2:w1.alloc (.cells (i3 y.fr y.to y.at_) 222)=w2 at *;have C:=g0.ext g2;refine zab zoF<|zax ty3 C rfl<|zab zoG<|zax ty3 C rfl<|zab zxh<|zax ty3 C rfl<|zhX u33 ty3 zER ?_;have g3:=za6 w2 (.cells (vI [x.fr,x.to,x.at_]).toArray 3);have g4:Blk w2.heap.size 3 (w2.alloc (.cells (vI [x.fr,x.to,x.at_]).toArray 3)) (vI (zys x)):=heap_alloc_new w2 _;generalize hw3:w2.alloc (.cells (vI [x.fr,x.to,x.at_]).toArray 3)=w3 at *;have D:=g1.ext g3;refine zab zoF<|zax ty3 D rfl<|zab zoG<|zax ty3 D rfl<|zab zxh<|zax ty3 D rfl<|zhX u33 ty3 zER ?_;have g5:=za6 w3 (.cells (vI [y.fr,y.to,y.at_]).toArray 3);have g9:Blk w3.heap.size 3 (w3.alloc (.cells (vI [y.fr,y.to,y.at_]).toArray 3)) (vI (zys y)):=heap_alloc_new w3 _;have hg:ziz w (w3.alloc (.cells (vI [y.fr,y.to,y.at_]).toArray 3)):=by rw [<-hw3,<-hw2,<-hw1];exact zkO _ _ _ _
 refine (zmv (l:=zys x) (m:=zys y) (g4.ext g5) g9 (by simp [zys]) (by simp [zys])).mono ?_;rintro _ _ ⟨rfl,rfl⟩;exact ⟨rfl,hg⟩
def ltO (x y:DOrder):Prop:=x.fr<y.fr\/(x.fr=y.fr/\(x.to<y.to\/(x.to=y.to/\x.at_<y.at_)))
def zC4 {x y:DOrder}:zAg x y<0↔ltO x y:=by
 unfold zAg zys ltO;simp only [zyq];rcases qbP x.fr y.fr with h | h | h
 . rw [zkf h];simp;omega
 . rw [zkh h]
   rcases qbP x.to y.to with h2 | h2 | h2
   . rw [zkf h2];simp;omega
   . rw [zkh h2]
     rcases qbP x.at_ y.at_ with h3 | h3 | h3
     . rw [zkf h3];simp;omega
     . rw [zkh h3];simp;omega
     rw [zkg h3];simp;omega
   rw [zkg h2];simp;omega
 rw [zkg h];simp;omega
instance (x y:DOrder):Decidable (ltO x y):=by unfold ltO;infer_instance
def zhY (x:DOrder):¬ltO x x:=by unfold ltO;omega
def zqX {x y z:DOrder} (h:ltO x y) (k:ltO y z):ltO x z:=by unfold ltO at *;omega
def zqY {x y:DOrder} (h:¬ltO x y) (k:¬ltO y x):x=y:=by
 unfold ltO at *;exact DOrder.ext_iff.2 ⟨oo,oo,oo⟩
theorem zmA:∀ {l m:List DOrder},l.Pairwise ltO->m.Pairwise ltO->(∀ x,x∈l↔x∈m)->l=m
 | [],[],_,_,_=>rfl
 | [],y :: m,_,_,h=>by have:=(h y).2 sS;cases this
 | x :: l,[],_,_,h=>by have:=(h x).1 sS;cases this
 | x :: l,y :: m,h1,h2,h=>by
   rw [qaS] at h1 h2
   have hxy:x=y:=by
     rcases qaa.1 ((h x).1 sS) with e | hm
     . exact e
     rcases qaa.1 ((h y).2 sS) with e | hl
     . exact e.symm
     exact absurd (zqX (h1.1 y hl) (h2.1 x hm)) (zhY x)
   subst hxy;congr 1;refine zmA h1.2 h2.2 λz=>⟨λhz=>?_,λhz=>?_⟩
   . rcases qaa.1 ((h z).1 (by simp [hz])) with rfl | h'
     . exact absurd (h1.1 z hz) (zhY z)
     exact h'
   rcases qaa.1 ((h z).2 (by simp [hz])) with rfl | h'
   . exact absurd (h2.1 z hz) (zhY z)
   exact h'
instance:Inhabited DOrder:=⟨⟨0,0,0⟩⟩
def zDH (x:DOrder):List Value:=[.int .i64 x.fr,.int .i64 x.to,.int .i64 x.at_]
def zAh:∀ {F:List Nat} {w:World} {cs:List Value} {x:DOrder},Rep.rep F w cs x->cs=zDH x:=by
 intro F w cs x h;obtain ⟨F1,F2,c1,c2,rfl,rfl,⟨rfl,rfl,_⟩,⟨F3,F4,c3,c4,rfl,rfl,⟨rfl,rfl,_⟩,⟨rfl,rfl,_⟩⟩⟩:=h;rfl
def zfv {x y:DOrder}:ltOf zAg x y=decide (ltO x y):=by
 unfold ltOf;rw [decide_eq_decide];exact zC4
def zC5:SWO (ltOf zAg):=by
 refine ⟨λx=>?_,λx y z h k=>?_,λx y z h k=>?_⟩
 . rw [zfv,decide_eq_false_iff_not];exact zhY x
 . rw [zfv,decide_eq_true_eq] at *;exact zqX h k
 rw [zfv,decide_eq_false_iff_not] at *;intro hc;unfold ltO at *;omega
def zC6 (l:List DOrder):List DOrder:=l.mergeSort λx y=>!(ltOf zAg) y x
def zmB (l:List DOrder):(zC6 l).Perm l:=qcz l _
def zAi (l:List DOrder):(zC6 l).length=l.length:=(zmB l).length_eq
def zC7 (l:List DOrder):(zC6 l).Pairwise λx y=>¬ltO y x:=by
 have:=qcm (le:=λx y=>!(ltOf zAg) y x) (λa b c h1 h2=>by
   simp only [zfv,qaR,decide_eq_false_iff_not] at *;unfold ltO at *;omega) (λa b=>by
   simp only [zfv,qaK,qaR,decide_eq_false_iff_not];unfold ltO;omega) l
 exact this.imp λh=>by simpa [zfv] using h
def zAj {l:List DOrder} (h:OwnI lo hi w v l) (hn:l.length<=1073741824) :
   CALL tp 213 [v,.func (.func 214) #[] #[]] w λr w'=>ChgI lo hi w w'/\OwnI lo hi w' v (zC6 l):=by
 obtain ⟨F,hM,hF⟩:=h;by_cases hne:l=[]
 . subst hne
   obtain ⟨a,cap,hv⟩:∃ a cap,v=.slice a 0 cap:=by
     obtain ⟨cs,⟨a,cap,G,xs,h,_⟩,hv⟩:=hM.own;exact ⟨a,cap,by rw [hv,h];rfl⟩
   subst hv;refine ⟨(AnyF.slices_SortFunc_none Tryz.sortOrder a cap _ w).mono ?_⟩;rintro e w' ⟨he,rfl⟩;refine ⟨_,he,ChgI.refl _,F,?_,hF⟩;have:zC6 []=[]:=qam (by rw [zAi];rfl);rw [this];exact hM
 obtain ⟨b,o,cap,xs,rfl,rfl,h1,h2,g4,g5,g9⟩:=zdL hM hne;have g0:=@zAh;have hk:∀ x,(zDH x).length=Rep.size DOrder:=λ_=>rfl;obtain ⟨c,e,g1⟩:=g9;have hb:b<w.heap.size:=(Array.getElem?_eq_some_iff.1 g1).1
 have g2:CmpLays tp 214 #[] zDH 3 zAg b o l.toArray.size w:=λm os dk _ x y=>by
   have:=zyt (w:=sortWorldK zDH 3 w b o m dk os) (x:=x) (y:=y);obtain ⟨h⟩:=this;refine h.mono ?_;rintro e w' ⟨v,he,hv,q,gb,g3⟩;exact ⟨by rw [he,hv],q,gb,g3⟩
 refine ⟨(AnyQ.slices_SortFunc_total Tryz.sortOrder 3 Tryz.isAgg222 Tryz.sizeOf222 zDH (λ_=>rfl) (λx v hv=>by
     simp only [zDH,qaa,qac,or_false] at hv;rcases hv with rfl | rfl | rfl<;>rfl) zAg zC5 214 #[] b o cap l.toArray w (zev (ent 214 qd kK)) g2 (zl7 g0 hk ⟨c,e,g1⟩ g4 g5) hb (by simp;omega) (λx y h k=>by
     rw [zfv,decide_eq_false_iff_not] at *;exact zqY h k)).mono ?_⟩
 rintro ex w' ⟨he,n,os,g3⟩;have hs:=zl8 g0 hk (cap:=cap) g3 ⟨c,e,g1⟩ g4 g5 h1 h2 sS (λx hx=>by simpa [List.mem_mergeSort] using hx);refine ⟨_,he,?_,[b],?_,hF⟩
 . exact hs.1.toI (λi hi=>hF i hi)
 exact hs.2
def zjp {x:DTouch} (h1:I64 x.at_) (h2:I64 x.global) (h3:I64 x.held):OwnI lo hi w (.agg #[.int .i64 x.at_,.int .i64 x.global,.bool x.write,.int .i64 x.held]) x:=
 ⟨[],zwA h1 h2 h3,sS⟩
def zct (c:DCode) (a:Int) (held:Int) (i:DIns):Nat->List DTouch
 | 0=>[]
 | k+1=>zct c a held i k++(if c.globals.getD k ByteArray.empty∈zbT i.term then [⟨a,k,false,held⟩] else [])++(if i.op=1/\i.arg=k then [⟨a,k,true,held⟩] else [])
def zdx (c:DCode) (a:Int) (held:Int):List DTouch:=
 if (zam c a.toNat).op=1\/(zam c a.toNat).op=2 then zct c a held (zam c a.toNat) c.globals.length else []
theorem zgW (c:DCode) (a held:Int) (i:DIns):∀ k,(zct c a held i k).length<=2*k
 | 0=>by simp [zct]
 | k+1=>by
   have:=zgW c a held i k;rw [zct,qag,qag];split<;>split<;>simp<;>omega
def zmC (c:DCode) (a held:Int):(zdx c a held).length<=2*c.globals.length:=by
 unfold zdx;split
 . exact zgW _ _ _ _ _
 simp
def zkP {held:Int}  (h0:Is W0 v0 c) (e0:Ext W0 w) (hc:CodeR c) (ha:0<=a) (ha2:a<c.ins.length) (hh:I64 held) :
   CALL tp 146 [v0,.int .i64 a,.int .i64 held] w λr w'=>Ext w w'/\(Own w.heap.size w' r (zdx c a held)):=by
 refine co (g:=kf [(4,33423424,[]),(11,70300024701440,[9])] [(7,9223372034707295744,[9,31])] []) Tryz.func146 ?_;have hil:=hc.f.ins;have hg6:c.globals.length<=6:=by have h1:=hc.1.1;simp only [qap,decide_eq_true_eq] at h1;omega
 have σe0:=e0.size;refine zat zbq rfl h0 e0 λg0 y1 g3 hV3=>?_;have σ1:=y1.size;refine zab zaM<|zaa zcQ (zak g3) (xrf g0) λv13 gh=>zaL u34 zcL gh oo oo λb15 o15 g1=>?_;rw [zaz] at g1;obtain ⟨i,hi⟩:∃ i,i=zam c a.toNat:=⟨_,rfl⟩;rw [<-hi] at g1;refine zaa zcL g1 (xrf g0) λv16 gi=>zck zqd rfl zcL rfl gi (xrf g0) λU y2 V gj=>?_;have σ2:=y2.size;have hg7:=gj.lt;refine JOIN.mk (λus w'=>us=[]/\Ext U w'/\(i.op=1\/i.op=2)) ?_ ?_
 . refine zab zbp ?_
   refine zac ty3 (zaw V) (xrf U) λgl=>zaP<|br (λc1=>?_) (λc1=>?_)
   . refine zab zbp ?_
     refine zac ty3 (zaw V) (xrf U) λgp=>zaP<|br (λc2=>?_) (λc2=>?_)
     . refine ⟨(y1.t y2),?_⟩
       unfold zdx;rw [<-hi,if_neg oo];exact zfP rfl
     refine ⟨sS,xrf U,?_⟩;omega
   refine ⟨sS,xrf U,?_⟩;omega
 rintro uj4 w3_ ⟨hu,y3,gq⟩;have σ3:=y3.size;try replace hu:=zbt hu
 clear hu;refine zab zeP<|zaa zdj (zcd V) y3 λv26 gr=>?_;refine (zfS gr y3).mono ?_;rintro r27 X ⟨y4,gs⟩;have σ4:=y4.size;refine zab zdI<|zaa zcv (zbm g3) (y2.t (y3.t y4)) λv29 g2=>?_;have g4:=zaj g2;refine zae u24 g2<|zao (c.globals.length) (λk us w'=>∃ v:Value,us=[v,.int .i64 (k:Int)]/\Ext X w'/\(RowI X.heap.size w'.heap.size 138 w' v (zct c a held i k))) (0) oo ⟨_,rfl,xrf X,zb6 _ _ _ _⟩ ?_;rintro k m7 uu7 w5_ hk7 ⟨v9,hu,y5,I⟩;have σ5:=y5.size;obtain ⟨g5,g9⟩:=zcB hu;clear hu;try rw [g5]
 try rw [g9]
 try clear g5 g9
 have hrl:=zgW c a held i k;refine zag<|br (λc3=>?_) (λc3=>?_)
 . refine zad u24 ty9 g2 oo λb34 o34 gt=>?_
   refine zaB ty9 gt (y2.t (y3.t (y4.t y5))) λgx=>JOIN.mk (λus w'=>∃ v:Value,us=[v]/\Ext X w'/\(RowI X.heap.size w'.heap.size 138 w' v (zct c a held i k++(if c.globals.getD k ByteArray.empty∈zbT i.term then [⟨a,k,false,held⟩] else [])))) ?_ ?_
   . have gb:c.globals[k]'(by omega)=c.globals.getD k ByteArray.empty:=by rw [List.getD_eq_getElem?_getD,List.getElem?_eq_getElem oo];rfl
     refine (zc8 gs y5).mono ?_;rintro _ Y ⟨y7,rfl⟩;have σ7:=y7.size;refine br (λc4=>?_) (λc4=>?_)
     . refine zaX (cells:=#[.int .i64 a,.int .i64 (k:Int),.bool false,.int .i64 held]) kK ?_
       have gc:OwnI Y.heap.size Y.heap.size Y (.agg #[.int .i64 a,.int .i64 (k:Int),.bool false,.int .i64 held]) (⟨a,k,false,held⟩:DTouch):=zjp (x:=⟨a,k,false,held⟩) (by show I64 a;unfold I64;omega) (by show I64 (k:Int);unfold I64;omega) hh;refine zbO (α:=DTouch) zm8 zdc zEO zuV qd (I.ext y7) oo (gc.ext (xrf Y)) oo oo (by rw [zal];omega) oo λv45 w8_ M gy=>?_;have gd:=M.size;have o43_c8:=(gc.ext (xrf Y)).chg M oo;refine ⟨_,rfl,(Ext.chgI (y5.t y7) M oo),?_⟩;rw [if_pos (by rw [<-gb];exact c4)];exact gy
     refine ⟨_,rfl,(y5.t y7),?_⟩;rw [if_neg (by rw [<-gb];exact c4),qaC];exact (I.ext y7).mono oo oo
   rintro gz D ⟨v11,hu,y8,C⟩;have σ8:=y8.size;try replace hu:=zbt hu
   try rw [hu]
   try clear hu
   refine zab zbp<|zac ty3 (zaw V) (y3.t (y4.t y8)) λgC=>zai<|br (λc5=>?_) (λc5=>?_)
   . refine zab za8 ?_
     refine zac ty3 (zaq V) (y3.t (y4.t y8)) λgD=>zai<|br (λc6=>?_) (λc6=>?_)
     . refine zaX (cells:=#[.int .i64 a,.int .i64 (k:Int),.bool true,.int .i64 held]) kK ?_
       have gf:OwnI D.heap.size D.heap.size D (.agg #[.int .i64 a,.int .i64 (k:Int),.bool true,.int .i64 held]) (⟨a,k,true,held⟩:DTouch):=zjp (x:=⟨a,k,true,held⟩) (by show I64 a;unfold I64;omega) (by show I64 (k:Int);unfold I64;omega) hh;refine zbO (α:=DTouch) zm8 zdc zEO zuV qd (C.ext (xrf D)) oo (gf.ext (xrf D)) oo oo (by rw [zal,qag];split<;>simp<;>omega) (by rw [qag];split<;>simp<;>omega) λv61 w9_ O gE=>?_;have gg:=O.size;have o59_c9:=(gf.ext (xrf D)).chg O oo;refine zau<|⟨m7-1,oo,k+1,oo,_,rfl,(Ext.chgI y8 O oo),?_⟩;rw [zct,if_pos (c:=i.op=1/\i.arg=k) ⟨oo,oo⟩];exact gE
     refine zau<|⟨m7-1,oo,k+1,oo,_,rfl,y8,?_⟩;rw [zct,if_neg (c:=i.op=1/\i.arg=k) (λh=>c6 h.2),qaC];exact (C.ext (xrf D)).mono oo oo
   refine zau<|⟨m7-1,oo,k+1,oo,_,rfl,y8,?_⟩;rw [zct,if_neg (c:=i.op=1/\i.arg=k) (λh=>c5 h.1),qaC];exact (C.ext (xrf D)).mono oo oo
 refine ⟨(y1.t (y2.t (y3.t (y4.t y5)))),?_⟩;unfold zdx;rw [<-hi,if_pos gq,<-show k=c.globals.length by omega];exact I.own.own.mono oo
def zAk {held:Int}  (h0:Is W0 v0 c) (e0:Ext W0 w) (hc:CodeR c) (ha:0<=a) (ha2:a<c.ins.length) (hh:I64 held) :
   CALL tp 169 [v0,.int .i64 a,.int .i64 held] w λr w'=>Ext w w'/\(Own w.heap.size w' r (zdx c a held)):=by
 refine co (g:=kf [(5,66977856,[]),(11,1125831187366016,[7])] [(7,73786976294301336704,[7,10])] []) Tryz.func169 ?_;have hil:=hc.f.ins;have hg6:c.globals.length<=6:=by have h1:=hc.1.1;simp only [qap,decide_eq_true_eq] at h1;omega
 have σe0:=e0.size;refine zat zbq rfl h0 e0 λw1_ y1 g0 hV3=>?_;have σ1:=y1.size;refine zaK (α:=DTouch) zm8 zdc λgh w2_ y2 g1=>?_;have σ2:=y2.size;refine zab zaM<|zaa zcQ (zak g0) y2 λv13 gi=>zaL u34 zcL gi oo oo λb15 o15 g2=>?_;rw [zaz] at g2;obtain ⟨i,hi⟩:∃ i,i=zam c a.toNat:=⟨_,rfl⟩;rw [<-hi] at g2;refine zaa zcL g2 y2 λv16 gj=>zck zqd rfl zcL rfl gj y2 λU y3 V gl=>?_;have σ3:=y3.size;have hg8:=gl.lt;refine JOIN.mk (λus w'=>us=[]/\Ext U w'/\(i.op=1\/i.op=2)) ?_ ?_
 . refine zab zbp ?_
   refine zac ty3 (zaw V) (xrf U) λgp=>zaP<|br (λc1=>?_) (λc1=>?_)
   . refine zab zbp ?_
     refine zac ty3 (zaw V) (xrf U) λgq=>zaP<|br (λc2=>?_) (λc2=>?_)
     . refine ⟨(y1.t (y2.t y3)),?_⟩
       unfold zdx;rw [<-hi,if_neg oo];exact (g1.ext y3).own.own.mono oo
     refine ⟨sS,xrf U,?_⟩;omega
   refine ⟨sS,xrf U,?_⟩;omega
 rintro uj5 w4_ ⟨hu,y4,gr⟩;have σ4:=y4.size;try replace hu:=zbt hu
 clear hu;refine zab zeP<|zaa zdj (zcd V) y4 λv27 gs=>?_;refine (zeo gs y4).mono ?_;rintro r28 X ⟨y5,gt⟩;have σ5:=y5.size;refine zao (c.globals.length) (λk us w'=>∃ v:Value,us=[v,.int .i64 (k:Int)]/\Ext X w'/\(RowI X.heap.size w'.heap.size 138 w' v (zct c a held i k))) (0) oo ⟨_,rfl,xrf X,zcx _ _ _ _ _⟩ ?_;rintro k m7 uu7 w6_ hk7 ⟨v7,hu,y6,O⟩;have σ6:=y6.size;obtain ⟨g4,g5⟩:=zcB hu;clear hu;try rw [g4]
 try rw [g5]
 try clear g4 g5
 have hrl:=zgW c a held i k;refine zab zdI<|zaa zcv (zbm g0) (y2.t (y3.t (y4.t (y5.t y6)))) λv31 g9=>?_;have gb:=zaj g9;refine zae u24 g9<|zag<|br (λc3=>?_) (λc3=>?_)
 . refine JOIN.mk (λus w'=>∃ v:Value,us=[v]/\Ext X w'/\(RowI X.heap.size w'.heap.size 138 w' v (zct c a held i k++(if c.globals.getD k ByteArray.empty∈zbT i.term then [⟨a,k,false,held⟩] else [])))) ?_ ?_
   . refine zab zdI ?_
     refine zaa zcv (zbm g0) (y2.t (y3.t (y4.t (y5.t y6)))) λv38 gx=>zad u24 ty9 gx oo λb40 o40 gy=>zaB ty9 gy (y2.t (y3.t (y4.t (y5.t y6)))) λgz=>?_;have gc:c.globals[k]'(by omega)=c.globals.getD k ByteArray.empty:=by rw [List.getD_eq_getElem?_getD,List.getElem?_eq_getElem oo];rfl
     refine (zlM gt y6).mono ?_;rintro _ Y ⟨y8,rfl⟩;have σ8:=y8.size;refine br (λc4=>?_) (λc4=>?_)
     . refine zaX (cells:=#[.int .i64 a,.int .i64 (k:Int),.bool false,.int .i64 held]) kK ?_
       have gd:OwnI Y.heap.size Y.heap.size Y (.agg #[.int .i64 a,.int .i64 (k:Int),.bool false,.int .i64 held]) (⟨a,k,false,held⟩:DTouch):=zjp (x:=⟨a,k,false,held⟩) (by show I64 a;unfold I64;omega) (by show I64 (k:Int);unfold I64;omega) hh;refine zbO (α:=DTouch) zm8 zdc zEO zuV qd (O.ext y8) oo (gd.ext (xrf Y)) oo oo (by rw [zal];omega) oo λv49 w9_ I gC=>?_;have gf:=I.size;have o11_c9:=(g1.ext (y3.t (y4.t (y5.t (y6.t y8))))).chg I oo;have o47_c9:=(gd.ext (xrf Y)).chg I oo;refine ⟨_,rfl,(Ext.chgI (y6.t y8) I oo),?_⟩;rw [if_pos (by rw [<-gc];exact c4)];exact gC
     refine ⟨_,rfl,(y6.t y8),?_⟩;rw [if_neg (by rw [<-gc];exact c4),qaC];exact (O.ext y8).mono oo oo
   rintro gD M ⟨gh,hu,y9,D⟩;have σ9:=y9.size;try replace hu:=zbt hu
   try rw [hu]
   try clear hu
   refine zab zbp<|zac ty3 (zaw V) (y4.t (y5.t y9)) λgE=>zai<|br (λc5=>?_) (λc5=>?_)
   . refine zab za8 ?_
     refine zac ty3 (zaq V) (y4.t (y5.t y9)) λgF=>zai<|br (λc6=>?_) (λc6=>?_)
     . refine zaX (cells:=#[.int .i64 a,.int .i64 (k:Int),.bool true,.int .i64 held]) kK ?_
       have gg:OwnI M.heap.size M.heap.size M (.agg #[.int .i64 a,.int .i64 (k:Int),.bool true,.int .i64 held]) (⟨a,k,true,held⟩:DTouch):=zjp (x:=⟨a,k,true,held⟩) (by show I64 a;unfold I64;omega) (by show I64 (k:Int);unfold I64;omega) hh;refine zbO (α:=DTouch) zm8 zdc zEO zuV qd (D.ext (xrf M)) oo (gg.ext (xrf M)) oo oo (by rw [zal,qag];split<;>simp<;>omega) (by rw [qag];split<;>simp<;>omega) λv65 gG C gH=>?_;have g3:=C.size;have o11_c10:=(g1.ext (y3.t (y4.t (y5.t y9)))).chg C oo;have o63_c10:=(gg.ext (xrf M)).chg C oo;refine zau<|⟨m7-1,oo,k+1,oo,_,rfl,(Ext.chgI y9 C oo),?_⟩;rw [zct,if_pos (c:=i.op=1/\i.arg=k) ⟨oo,oo⟩];exact gH
     refine zau<|⟨m7-1,oo,k+1,oo,_,rfl,y9,?_⟩;rw [zct,if_neg (c:=i.op=1/\i.arg=k) (λh=>c6 h.2),qaC];exact (D.ext (xrf M)).mono oo oo
   refine zau<|⟨m7-1,oo,k+1,oo,_,rfl,y9,?_⟩;rw [zct,if_neg (c:=i.op=1/\i.arg=k) (λh=>c5 h.1),qaC];exact (D.ext (xrf M)).mono oo oo
 refine ⟨(y1.t (y2.t (y3.t (y4.t (y5.t y6))))),?_⟩;unfold zdx;rw [<-hi,if_pos gr,<-show k=c.globals.length by omega];exact O.own.own.mono oo
def zuf {n:Int}    :
   CALL tp 187 [.int .i64 n] w λr w'=>Ext w w'/\(r=.bool (decide (0<=n/\n<=63))):=by
 refine co (g:=kf [] [] []) Tryz.func187 ?_;refine zcb<|br (λc1=>?_) (λc1=>?_)
 . refine zdT ?_
   refine ⟨xrf w,?_⟩;simp [c1]
 refine ⟨xrf w,?_⟩;simp [c1]
def zdO (a b:DTouch):Prop:=a.global=b.global/\(a.write=true\/b.write=true)/\(0<=a.held/\a.held<=63)/\(0<=b.held/\b.held<=63)/\a.held.toNat &&& b.held.toNat=0
instance (a b:DTouch):Decidable (zdO a b):=by unfold zdO;infer_instance
def zug {a:DTouch} {b:DTouch}  (h0:Is W0 v0 a) (e0:Ext W0 w) (h1:Is W1 v1 b) (e1:Ext W1 w)  :
   CALL tp 107 [v0,v1] w λr w'=>Ext w w'/\(r=.bool (decide (zdO a b))):=by
 refine co (g:=kf [(3,1048560,[])] [] []) Tryz.func107 ?_;refine zat zdc rfl h0 e0 λw1_ y1 g0 hV2=>zat zdc rfl h1 (e1.trans y1) λC y2 g1 hV3=>JOIN.mk (λus w'=>us=[]/\Ext C w'/\(a.global=b.global/\(a.write=true\/b.write=true))) ?_ ?_
 . refine zab zjI ?_
   refine zac ty3 (zef g0) y2 λhI6=>zab zjI<|zac ty3 (zef g1) (xrf C) λhI8=>zaP<|br (λc1=>?_) (λc1=>?_)
   . refine ⟨(y1.t y2),?_⟩
     have:¬zdO a b:=λh=>c1 h.1;simp only [this,decide_false]
   refine zab zoE<|zaG ty4 (zgB g0) y2<|zaV<|zzz (λc2=>?_) (λc2=>?_)
   . refine zab zoE ?_
     refine zaG ty4 (zgB g1) (xrf C)<|zaV<|zbz (λc3=>?_) (λc3=>?_)
     . refine ⟨(y1.t y2),?_⟩
       have:¬zdO a b:=λh=>by rcases h.2.1 with h | h<;>simp_all
       simp only [this,decide_false]
     refine ⟨sS,xrf C,?_⟩;exact ⟨oo,.inr (by simpa using c3)⟩
   refine ⟨sS,xrf C,?_⟩;exact ⟨oo,.inl (by simpa using c2)⟩
 rintro uj3 w3_ ⟨hu,y3,g2,g3⟩;try replace hu:=zbt hu
 clear hu;refine zab zjJ<|zac ty3 (zeg g0) (y2.t y3) λg4=>?_;refine (zuf ).mono ?_;rintro _ w4_ ⟨y4,rfl⟩;refine br (λc4=>?_) (λc4=>?_)
 . refine zab zjJ ?_
   refine zac ty3 (zeg g1) (y3.t y4) λg5=>?_;refine (zuf ).mono ?_;rintro _ w5_ ⟨y5,rfl⟩;refine br (λc5=>?_) (λc5=>?_)
   . refine zab zjJ ?_
     refine zac ty3 (zeg g0) (y2.t (y3.t (y4.t y5))) λg9=>zab zjJ<|zac ty3 (zeg g1) (y3.t (y4.t y5)) λgb=>?_;obtain ⟨m,hm⟩:=qbU c4.1;obtain ⟨n,hn⟩:=qbU c5.1;rw [hm,hn];refine zeA oo oo<|zai<|⟨(y1.t (y2.t (y3.t (y4.t y5)))),?_⟩
     have:zdO a b↔m &&& n=0:=by
       have e1:a.held.toNat=m:=oo
       have e2:b.held.toNat=n:=oo
       unfold zdO;rw [e1,e2];exact ⟨λh=>h.2.2.2.2,λh=>⟨g2,g3,c4,c5,h⟩⟩
     congr 1;rw [decide_eq_decide,this];omega
   refine ⟨(y1.t (y2.t (y3.t (y4.t y5)))),?_⟩;have:¬zdO a b:=λh=>c5 h.2.2.2.1;simp only [this,decide_false]
 refine ⟨(y1.t (y2.t (y3.t y4))),?_⟩;have:¬zdO a b:=λh=>c4 h.2.2.1;simp only [this,decide_false]
def zd2 (a b:DTouch):DRace:=⟨a.global,min a.at_ b.at_,max a.at_ b.at_⟩
def zqZ {a b:DTouch} (h0:Is W0 v0 a) (e0:Ext W0 w) (h1:Is W1 v1 b) (e1:Ext W1 w) :
   CALL tp 109 [v0,v1] w λr w'=>Ext w w'/\∀ lo hi,OwnI lo hi w' r (zd2 a b):=by
 refine co (g:=kf [] [] []) Tryz.func109 ?_;refine za9 h0 e0 λw1 g1 hA=>za9 h1 (e1.trans g1) λw2 g2 hB=>zee (α:=DRace) zEW λw3 g0 hv=>?_;have hs1:=g1.size;have hs2:=g2.size;have hs3:=g0.size;have C:=g2.t g0;refine zab zjI<|zac ty3 (zef hA) C λg4=>zab zfQ<|zac ty3 (zcA hA) C λhI8=>zab zfQ<|zac ty3 (zcA hB) g0 λg5=>zEj<|zab zfQ<|zac ty3 (zcA hA) C λ_=>zab zfQ<|zac ty3 (zcA hB) g0 λ_=>zBL ?_;have hm:∀ (w:World) lo hi,OwnI lo hi w (.agg #[.int .i64 a.global,.int .i64 (min a.at_ b.at_),.int .i64 (max a.at_ b.at_)]) (zd2 a b):=λw lo hi=>⟨[],zwv (x:=zd2 a b) g4 (by unfold I64 zd2 at *;simp only;omega) (by unfold I64 zd2 at *;simp only;omega),sS⟩;refine zaX (cells:=#[.int .i64 a.global,.int .i64 (min a.at_ b.at_),.int .i64 (max a.at_ b.at_)]) kK ?_;have hg:=hv.lt;refine zbn (lo:=w3.heap.size) (hi:=w3.heap.size) zd9 hv (hm w3 _ _) oo λw4 g3 g9=>?_;have hs4:=g3.size;refine zce zd9 g9 (xrf _) λr hr=>⟨Ext.chgI (g1.t C) g3 oo,λlo hi=>?_⟩;obtain ⟨F,hM,_⟩:=hr;obtain ⟨cs,h,_⟩:=hM.own;have hF:=Flat.flat h;subst hF;exact ⟨[],hM,sS⟩
instance (x y:DRace):Decidable (ltR x y):=by unfold ltR;infer_instance
def zsF {x:DRace}  (h0:Is W0 v0 x) (e0:Ext W0 w) (h1:Is W1 v1 y) (e1:Ext W1 w)  :
   CALL tp 170 [v0,v1] w λr w'=>Ext w w'/\(r=.bool (decide (ltR x y))):=by
 refine co (g:=kf [] [] []) Tryz.func170 ?_;refine zat zd9 rfl h0 e0 λw1_ y1 C hV2=>zat zd9 rfl h1 (e1.trans y1) λD y2 I hV3=>zab znD<|zac ty3 (zhD C) y2 λhI6=>zab znD<|zac ty3 (zhD I) (xrf D) λhI8=>zaP<|br (λc1=>?_) (λc1=>?_)
 . refine zab znD ?_
   refine zac ty3 (zhD C) y2 λg0=>zab znD<|zac ty3 (zhD I) (xrf D) λg1=>zag<|⟨(y1.t y2),?_⟩;congr 1;rw [decide_eq_decide];unfold ltR;omega
 refine zab znE<|zac ty3 (zhE C) y2 λg2=>zab znE<|zac ty3 (zhE I) (xrf D) λg3=>zaP<|br (λc2=>?_) (λc2=>?_)
 . refine zab znE ?_
   refine zac ty3 (zhE C) y2 λg4=>zab znE<|zac ty3 (zhE I) (xrf D) λg5=>zag<|⟨(y1.t y2),?_⟩;congr 1;rw [decide_eq_decide];unfold ltR;omega
 refine zab ztu<|zac ty3 (znx C) y2 λg9=>zab ztu<|zac ty3 (znx I) (xrf D) λgb=>zag<|⟨(y1.t y2),?_⟩;congr 1;rw [decide_eq_decide];unfold ltR;omega
def zhZ (x:DRace):¬ltR x x:=by unfold ltR;omega
def zjq {x y z:DRace} (h:ltR x y) (k:ltR y z):ltR x z:=by unfold ltR at *;omega
def zmD {x y:DRace} (h:¬ltR x y) (k:¬ltR y x):x=y:=by
 unfold ltR at *;exact DRace.ext_iff.2 ⟨oo,oo,oo⟩
def znY (r:DRace):List DRace->List DRace
 | []=>[r]
 | x :: l=>if ltR x r then x :: znY r l else if x=r then x :: l else r :: x :: l
def ahd (r:DRace):List DRace->Nat
 | []=>0
 | x :: l=>if ltR x r then ahd r l+1 else 0
theorem zuh (r:DRace):∀ l,znY r l=if h:ahd r l<l.length then (if l[ahd r l]=r then l else l.take (ahd r l)++(r :: l.drop (ahd r l))) else l++[r]
 | []=>rfl
 | x :: l=>by
   rw [znY];by_cases h:ltR x r
   . have e:ahd r (x :: l)=ahd r l+1:=by rw [ahd,if_pos h]
     rw [if_pos h,zuh r l];by_cases h2:ahd r l<l.length
     . rw [dif_pos h2,dif_pos (by rw [e];simpa using h2)]
       have e2:(x :: l)[ahd r (x :: l)]'(by rw [e];simpa using h2)=l[ahd r l]:=by simp [e]
       rw [e2];split
       . rfl
       simp [e]
     rw [dif_neg h2,dif_neg (by rw [e];simpa using h2)];rfl
   have e:ahd r (x :: l)=0:=by rw [ahd,if_neg h]
   rw [if_neg h,dif_pos (by rw [e];simp)];have e2:(x :: l)[ahd r (x :: l)]'(by rw [e];simp)=x:=by simp [e]
   rw [e2];split
   . rfl
   simp [e]
theorem zyu {r:DRace}:∀ {l:List DRace} {k:Nat} (hk:k<=l.length),(∀ j (h:j<k),ltR (l[j]'(by omega)) r)->(∀ h:k<l.length,¬ltR l[k] r)->ahd r l=k
 | [],0,_,_,_=>rfl
 | x :: l,0,_,_,h=>by
   have h':¬ltR x r:=h sS;rw [ahd,if_neg h']
 | x :: l,k+1,hk,h1,h2=>by
   have e:ltR x r:=h1 0 oo;rw [ahd,if_pos e,zyu (k:=k) (by simpa using hk) (λj hj=>h1 (j+1) oo) λh=>h2 (by simpa using h)]
theorem zpu {r x:DRace}:∀ {l:List DRace},x∈znY r l↔x=r\/x∈l
 | []=>by simp [znY]
 | y :: l=>by
   rw [znY];split
   . rw [qaa,zpu,qaa];exact ⟨λh=>by rcases h with h | h | h<;>simp [h],λh=>by rcases h with h | h | h<;>simp [h]⟩
   split
   . rename_i h;subst h;simp
   simp
theorem zmE {r:DRace}:∀ {l:List DRace},l.Pairwise ltR->(znY r l).Pairwise ltR
 | [],_=>by simp [znY]
 | y :: l,h=>by
   rw [qaS] at h;rw [znY];split
   . rename_i hy
     refine qaS.2 ⟨λz hz=>?_,zmE h.2⟩;rcases zpu.1 hz with rfl | hz
     . exact hy
     exact h.1 z hz
   rename_i hy
   split
   . exact qaS.2 h
   rename_i hne
   have hry:ltR r y:=qbb λhc=>hne (zmD hy hc);refine qaS.2 ⟨λz hz=>?_,qaS.2 h⟩;rcases qaa.1 hz with rfl | hz
   . exact hry
   exact zjq hry (h.1 z hz)
theorem znZ:∀ {l m:List DRace},l.Pairwise ltR->m.Pairwise ltR->(∀ x,x∈l↔x∈m)->l=m
 | [],[],_,_,_=>rfl
 | [],y :: m,_,_,h=>by have:=(h y).2 sS;cases this
 | x :: l,[],_,_,h=>by have:=(h x).1 sS;cases this
 | x :: l,y :: m,h1,h2,h=>by
   rw [qaS] at h1 h2
   have hxy:x=y:=by
     rcases qaa.1 ((h x).1 sS) with e | hm
     . exact e
     rcases qaa.1 ((h y).2 sS) with e | hl
     . exact e.symm
     exact absurd (zjq (h1.1 y hl) (h2.1 x hm)) (zhZ x)
   subst hxy;congr 1;refine znZ h1.2 h2.2 λz=>⟨λhz=>?_,λhz=>?_⟩
   . rcases qaa.1 ((h z).1 (by simp [hz])) with rfl | h'
     . exact absurd (h1.1 z hz) (zhZ z)
     exact h'
   rcases qaa.1 ((h z).2 (by simp [hz])) with rfl | h'
   . exact absurd (h2.1 z hz) (zhZ z)
   exact h'
end Go.Proofs.YtcnglfeoglgebaaGreat
namespace Go.Proofs.YtcnglfeoglgebaaGreat
open Go Go.Sh Go.Proofs Go.Sort
open Rep (rep)
variable {c:DCode} {fr hi i k lo m to:Nat} {v:Value} {w w0:World}
instance:Inhabited DRace:=⟨⟨0,0,0⟩⟩
def zDI (x:DRace):List Value:=[.int .i64 x.g,.int .i64 x.a,.int .i64 x.b]
def zAl:∀ {F:List Nat} {w:World} {cs:List Value} {x:DRace},Rep.rep F w cs x->cs=zDI x:=by
 intro F w cs x h;obtain ⟨F1,F2,c1,c2,rfl,rfl,⟨rfl,rfl,_⟩,⟨F3,F4,c3,c4,rfl,rfl,⟨rfl,rfl,_⟩,⟨rfl,rfl,_⟩⟩⟩:=h;rfl
def zfw {x y:DRace}:ltOf zAf x y=decide (ltR x y):=by
 unfold ltOf;rw [decide_eq_decide];exact zC3
def zC8:SWO (ltOf zAf):=by
 refine ⟨λx=>?_,λx y z h k=>?_,λx y z h k=>?_⟩
 . rw [zfw,decide_eq_false_iff_not];exact zhZ x
 . rw [zfw,decide_eq_true_eq] at *;exact zjq h k
 rw [zfw,decide_eq_false_iff_not] at *;intro hc;unfold ltR at *;omega
def srt (l:List DRace):List DRace:=l.mergeSort λx y=>!(ltOf zAf) y x
def zui (l:List DRace):(srt l).Perm l:=qcz l _
def zsG (l:List DRace):(srt l).length=l.length:=(zui l).length_eq
def zEz (l:List DRace):(srt l).Pairwise λx y=>¬ltR y x:=by
 have:=qcm (le:=λx y=>!(ltOf zAf) y x) (λa b c h1 h2=>by
   simp only [zfw,qaR,decide_eq_false_iff_not] at *;unfold ltR at *;omega) (λa b=>by
   simp only [zfw,qaK,qaR,decide_eq_false_iff_not];unfold ltR;omega) l
 exact this.imp λh=>by simpa [zfw] using h
def zuj {l:List DRace} (h:OwnI lo hi w v l) (hn:l.length<=1073741824) :
   CALL tp 163 [v,.func (.func 164) #[] #[]] w λr w'=>ChgI lo hi w w'/\OwnI lo hi w' v (srt l):=by
 obtain ⟨F,hM,hF⟩:=h;by_cases hne:l=[]
 . subst hne
   obtain ⟨a,cap,hv⟩:∃ a cap,v=.slice a 0 cap:=by
     obtain ⟨cs,⟨a,cap,G,xs,h,_⟩,hv⟩:=hM.own;exact ⟨a,cap,by rw [hv,h];rfl⟩
   subst hv;refine ⟨(AnyF.slices_SortFunc_none Tryz.sortRace a cap _ w).mono ?_⟩;rintro e w' ⟨he,rfl⟩;refine ⟨_,he,ChgI.refl _,F,?_,hF⟩;have:srt []=[]:=qam (by rw [zsG];rfl);rw [this];exact hM
 obtain ⟨b,o,cap,xs,rfl,rfl,h1,h2,g4,g5,g9⟩:=zdL hM hne;have g0:=@zAl;have hk:∀ x,(zDI x).length=Rep.size DRace:=λ_=>rfl;obtain ⟨c,e,g1⟩:=g9;have hb:b<w.heap.size:=(Array.getElem?_eq_some_iff.1 g1).1
 have g2:CmpLays tp 164 #[] zDI 3 zAf b o l.toArray.size w:=λm os dk _ x y=>by
   have:=zmx (w:=sortWorldK zDI 3 w b o m dk os) (x:=x) (y:=y);obtain ⟨h⟩:=this;refine h.mono ?_;rintro e w' ⟨v,he,hv,q,gb,g3⟩;exact ⟨by rw [he,hv],q,gb,g3⟩
 refine ⟨(AnyQ.slices_SortFunc_total Tryz.sortRace 3 Tryz.isAgg58 Tryz.sizeOf58 zDI (λ_=>rfl) (λx v hv=>by
     simp only [zDI,qaa,qac,or_false] at hv;rcases hv with rfl | rfl | rfl<;>rfl) zAf zC8 164 #[] b o cap l.toArray w (zev (ent 164 qd kK)) g2 (zl7 g0 hk ⟨c,e,g1⟩ g4 g5) hb (by simp;omega) (λx y h k=>by
     rw [zfw,decide_eq_false_iff_not] at *;exact zmD h k)).mono ?_⟩
 rintro ex w' ⟨he,n,os,g3⟩;have hs:=zl8 g0 hk (cap:=cap) g3 ⟨c,e,g1⟩ g4 g5 h1 h2 sS (λx hx=>by simpa [List.mem_mergeSort] using hx);refine ⟨_,he,?_,[b],?_,hF⟩
 . exact hs.1.toI (λi hi=>hF i hi)
 exact hs.2
def zfL {α:Type} [Rep α] [Flat α] {w:World} {lo hi:Nat} {v:Value} {x:α} (h:Is w v x):OwnI lo hi w v x:=by
 obtain ⟨F,cs,hr,hv⟩:=h;have hF:=Flat.flat hr;subst hF;exact ⟨[],⟨⟨cs,hr,hv⟩,qaq,Wr.nil w⟩,sS⟩
theorem zsH {z:DRace}:∀ {l:List DRace} {x:DRace},z∈x :: ddg x l↔z∈x :: l
 | [],x=>Iff.rfl
 | y :: l,x=>by
   rw [ddg];split
   . rename_i h
     subst h;rw [zsH (l:=l)];simp
   rw [qaa,zsH (l:=l),qaa (a:=z) (b:=x)]
theorem zyv:∀ {l:List DRace} {x:DRace},(x :: l).Pairwise (λa b=>¬ltR b a)->(x :: ddg x l).Pairwise ltR
 | [],x,_=>by simp [ddg]
 | y :: l,x,h=>by
   rw [ddg];rw [qaS] at h;have hy:=h.2;rw [qaS] at hy;split
   . rename_i e
     subst e;exact zyv h.2
   rename_i hne
   have ih:=zyv h.2;have hxy:ltR x y:=qbb λhc=>hne (zmD (h.1 y sS) hc);refine qaS.2 ⟨λz hz=>?_,ih⟩;rcases qaa.1 hz with rfl | hz
   . exact hxy
   exact zjq hxy ((qaS.1 ih).1 z hz)
theorem zC9 {l:List DRace} {z:DRace}:z∈ddp l↔z∈l:=by
 cases l with
 | nil=>exact Iff.rfl
 | cons x l=>exact zsH
theorem zEA {l:List DRace} (h:l.Pairwise (λa b=>¬ltR b a)):(ddp l).Pairwise ltR:=by
 cases l with
 | nil=>exact List.Pairwise.nil
 | cons x l=>exact zyv h
def zfX (l:List DRace):List DRace:=l.foldl (λacc r=>znY r acc) []
def zvw (l:List DRace) (r:DRace):zfX (l++[r])=znY r (zfX l):=by simp [zfX]
theorem zn0 {x:DRace}:∀ {l acc:List DRace},x∈l.foldl (λacc r=>znY r acc) acc↔x∈acc\/x∈l
 | [],acc=>by simp
 | y :: l,acc=>by
   rw [qbw,zn0,zpu,qaa];constructor
   . rintro ((h | h) | h)<;>simp [h]
   rintro (h | h | h)<;>simp [h]
def zmF {x:DRace} {l:List DRace}:x∈zfX l↔x∈l:=by unfold zfX;rw [zn0];simp
theorem zq0:∀ {l acc:List DRace},acc.Pairwise ltR->(l.foldl (λacc r=>znY r acc) acc).Pairwise ltR
 | [],acc,h=>h
 | y :: l,acc,h=>by
   rw [qbw];exact zq0 (zmE h)
def zAm (l:List DRace):(zfX l).Pairwise ltR:=zq0 List.Pairwise.nil
theorem zuk (r:DRace):∀ l:List DRace,(znY r l).length<=l.length+1
 | []=>by simp [znY]
 | x :: l=>by
   have:=zuk r l;rw [znY];split
   . simpa using this
   split<;>simp
theorem zn1:∀ (l acc:List DRace),(l.foldl (λacc r=>znY r acc) acc).length<=acc.length+l.length
 | [],acc=>by simp
 | y :: l,acc=>by
   have h1:=zn1 l (znY y acc);have h2:=zuk y acc;rw [qbw,qaj];omega
def zq1 (l:List DRace):(zfX l).length<=l.length:=by have:=zn1 l [];simpa [zfX] using this
def zyw (l:List DRace):ddp (srt l)=zfX l:=znZ (zEA (zEz l)) (zAm l) λx=>by rw [zC9,zmF,(zui l).mem_iff]
def clR (a b:DTouch):List DRace:=if zdO a b then [zd2 a b] else []
def gB (a:DTouch) (bs:List DTouch):List DRace:=bs.flatMap (clR a)
def gL (Ls:List (List DTouch)) (a:DTouch):List DRace:=Ls.flatMap (gB a)
def gA (Ls:List (List DTouch)) (xs:List DTouch):List DRace:=xs.flatMap (gL Ls)
def zkQ (T:Nat->List DTouch) (t:Nat):List (List DTouch):=(List.range t).map T
def gT (T:Nat->List DTouch) (n:Nat):List DRace:=(List.range n).flatMap λt=>gA (zkQ T t) (T t)
def hA (bs xs:List DTouch):List DRace:=xs.flatMap λa=>gB a bs
def hU (T:Nat->List DTouch) (xs:List DTouch) (t:Nat):List DRace:=(List.range t).flatMap λu=>hA (T u) xs
def hT (T:Nat->List DTouch) (n:Nat):List DRace:=(List.range n).flatMap λt=>hU T (T t) t
theorem zgn {α β:Type} {f:α->List β} {k:Nat}:∀ {l:List α},(∀ x∈l,(f x).length<=k)->(l.flatMap f).length<=l.length*k
 | [],_=>by simp
 | x :: l,h=>by
   have h1:=h x sS;have h2:=zgn (l:=l) λy hy=>h y (by simp [hy]);rw [qbs,qag,qaj,qbi];omega
def zcS {α β:Type} {f:α->List β} {l:List α} (h:k<l.length):(l.take (k+1)).flatMap f=(l.take k).flatMap f++f l[k]:=by
 rw [tk h,qa4];simp
def zgo {β:Type} {f:Nat->List β} (n:Nat):(List.range (n+1)).flatMap f=(List.range n).flatMap f++f n:=by
 rw [qbz,qa4];simp
def zDa (a b:DTouch):(clR a b).length<=1:=by unfold clR;split<;>simp
def zB3 (a:DTouch) {bs:List DTouch} (h:bs.length<=12):(gB a bs).length<=12:=by
 have:=zgn (f:=clR a) (l:=bs) (k:=1) λx _=>zDa a x;unfold gB;omega
def zB4 {Ls:List (List DTouch)} (a:DTouch) (h:Ls.length<=6) (h2:∀ L∈Ls,L.length<=12):(gL Ls a).length<=72:=by
 have:=zgn (f:=gB a) (l:=Ls) (k:=12) λx hx=>zB3 a (h2 x hx);unfold gL;omega
def zB5 {Ls:List (List DTouch)} {xs:List DTouch} (h:Ls.length<=6) (h2:∀ L∈Ls,L.length<=12) (h3:xs.length<=12):(gA Ls xs).length<=864:=by
 have:=zgn (f:=gL Ls) (l:=xs) (k:=72) λx hx=>zB4 x h h2;unfold gA;omega
def zyx {T:Nat->List DTouch} (h:∀ t,(T t).length<=12) {n:Nat} (hn:n<=6):(gT T n).length<=5184:=by
 have:=zgn (f:=λt=>gA (zkQ T t) (T t)) (l:=List.range n) (k:=864) λt ht=>by
   have ht':=qaw.1 ht
   exact zB5 (by simp [zkQ];omega) (λL hL=>by
     simp only [zkQ,qaZ] at hL;obtain ⟨u,_,rfl⟩:=hL;exact h u) (h t)
 unfold gT;rw [qbr] at this;omega
def tA (c:DCode) (s:DState) (t:Nat):List DTouch:=if 0<=zbu s t then zdx c (zbu s t) 0 else []
theorem zn2 {c:DCode} {a held:Int} {i:DIns} {x:DTouch}:∀ {k:Nat},x∈zct c a held i k->x.at_=a/\x.held=held
 | 0,h=>by simp [zct] at h
 | k+1,h=>by
   rw [zct,qae,qae] at h;rcases h with (h | h) | h
   . exact zn2 h
   . split at h
     . simp only [qaa,qac,or_false] at h;subst h;exact ⟨rfl,rfl⟩
     simp at h
   split at h
   . simp only [qaa,qac,or_false] at h;subst h;exact ⟨rfl,rfl⟩
   simp at h
def zfd {a held:Int} {x:DTouch} (h:x∈zdx c a held):x.at_=a/\x.held=held:=by
 unfold zdx at h;split at h
 . exact zn2 h
 simp at h
def zEB {c:DCode} {s:DState} {t:Nat} {x:DTouch} (h:x∈tA c s t):x.at_=zbu s t/\x.held=0:=by
 unfold tA at h;split at h
 . exact zfd h
 simp at h
def zB6 (s:DState) (hc:CodeR c) (t:Nat):(tA c s t).length<=12:=by
 unfold tA;split
 . have h1:=zmC c (zbu s t) 0
   have h2:=hc.1.1;simp only [qap,decide_eq_true_eq] at h2;omega
 simp
def zfY (c:DCode) (s:DState):List DRace:=zfX (gT (tA c s) s.stacks.length)
def zq2 (c:DCode) (s:DState):List DRace:=if CodeR c/\zaE c s then zfY c s else []
def zq3 (s:DState) (hc:CodeR c) (hs:zaE c s):(zfY c s).length<=5184:=
 qan (zq1 _) (zyx (zB6 s hc) hs.2.2.1.2)
def zvx {l:List DRace} (h:Is w0 v l) (hx:Ext w0 w) (hn:l.length<=1000000) :
   CALL tp 85 [v] w λr w'=>Ext w w'/\Own w.heap.size w' r (zfX l):=by
 refine co (g:=kf [] [] []) Tryz.func85 ?_;refine (zqH h hx oo).mono ?_;rintro v1 w1 ⟨g1,g2⟩;refine (zuj g2.toI oo).mono ?_;rintro _ w2 ⟨g3,g4⟩;refine (znQ g4 (by rw [zsG];omega)).mono ?_;rintro v3 w3 ⟨g5,g9⟩;refine (ztT g9).mono ?_;rintro v4 w4 ⟨gb,g0⟩;rw [zyw] at g0;exact ⟨((g1.chgI g3 (lr _)).chgI g5 (lr _)).trans gb,g0.own⟩
def OrdP (c:DCode) (fr to i:Nat):Prop:=MetP c i/\(zam c i).op=6/\agN c i=to/\MayP c i fr
def mkO (fr to i:Nat):DOrder:=⟨fr,to,i⟩
theorem MayP.locks (hc:CodeR c) {i l:Nat} (h:MayP c i l):l<c.locks.length:=by
 induction h with
 | lock hm ho ha hj=>subst ha;exact (zcY hc (hm.lt hc) (.inl ho)).2.1
 | pass _ _ _ _ _ ih=>exact ih
 | call _ _ _ ih=>exact ih
 | back _ _ _ _ _ ih=>exact ih
open Classical in
noncomputable def zg8 (c:DCode) (fr to i:Nat):List DOrder:=if OrdP c fr to i then [mkO fr to i] else []
noncomputable def zmG (c:DCode) (fr to:Nat):List DOrder:=(List.range c.ins.length).flatMap (zg8 c fr to)
noncomputable def zjr (c:DCode) (fr:Nat):List DOrder:=(List.range c.locks.length).flatMap (zmG c fr)
noncomputable def ze3 (c:DCode):List DOrder:=(List.range c.locks.length).flatMap (zjr c)
def zht {x:DOrder}:x∈zg8 c fr to i↔OrdP c fr to i/\x=mkO fr to i:=by
 unfold zg8;split
 . rename_i h;simp [h]
 rename_i h;simp [h]
def zll (hc:CodeR c) {x:DOrder}:x∈ze3 c↔∃ fr to i,OrdP c fr to i/\x=mkO fr to i:=by
 unfold ze3 zjr zmG;simp only [qaE,qaw,zht];constructor
 . rintro ⟨fr,_,to,_,i,_,h⟩;exact ⟨fr,to,i,h⟩
 rintro ⟨fr,to,i,h,e⟩;have hi:=h.1.lt hc;exact ⟨fr,h.2.2.2.locks hc,to,h.2.2.1▸(zcY hc hi (.inl h.2.1)).2.1,i,hi,h,e⟩
theorem zki {α β:Type} {f:α->List β} {B:Nat}:∀ {l:List α},(∀ a∈l,(f a).length<=B)->(l.flatMap f).length<=l.length*B
 | [],_=>by simp
 | a :: l,h=>by
   have h1:=h a sS;have h2:=zki (l:=l) λb hb=>h b (by simp [hb]);simp only [qbs,qag,qaj,qbi];omega
def zyy (c:DCode) (fr to i:Nat):(zg8 c fr to i).length<=1:=by unfold zg8;split<;>simp
def zq4 (c:DCode) (fr to k:Nat):((List.range k).flatMap (zg8 c fr to)).length<=k:=by
 have:=zki (l:=List.range k) λa _=>zyy c fr to a;simpa using this
def zq5 (hn:c.ins.length<=1500) (fr k:Nat):((List.range k).flatMap (zmG c fr)).length<=k*1500:=by
 have:=zki (l:=List.range k) (f:=zmG c fr) (B:=1500) λa _=>qan (zq4 c fr a _) hn;rw [qbr] at this;exact this
def zq6 (hn:c.ins.length<=1500) (hl:c.locks.length<=6) (k:Nat):((List.range k).flatMap (zjr c)).length<=k*9000:=by
 have:=zki (l:=List.range k) (f:=zjr c) (B:=9000) λa _=>by
   have:=zq5 hn a c.locks.length;unfold zjr;omega
 rw [qbr] at this;exact this
def zul (hc:CodeR c):(ze3 c).length<=54000:=by
 have h6:=hc.1.locks6;exact qan (zq6 hc.f.ins h6 _) oo
def zsI (c:DCode):(ze3 c).Pairwise ltO:=by
 unfold ze3 zjr zmG;have hr:∀ n,(List.range n).Pairwise (λa b=>a<b):=λn=>qcn;refine qbF.2 ⟨λfr _=>qbF.2 ⟨λto _=>qbF.2 ⟨λi _=>?_,(hr _).imp ?_⟩,(hr _).imp ?_⟩,(hr _).imp ?_⟩
 . unfold zg8;split<;>simp
 . intro a b r x hx y hy
   obtain ⟨_,rfl⟩:=zht.1 hx;obtain ⟨_,rfl⟩:=zht.1 hy;exact .inr ⟨rfl,.inr ⟨rfl,qc3.2 r⟩⟩
 . intro a b r x hx y hy
   simp only [qaE,zht] at hx hy;obtain ⟨_,_,_,rfl⟩:=hx;obtain ⟨_,_,_,rfl⟩:=hy;exact .inr ⟨rfl,.inl (qc3.2 r)⟩
 intro a b r x hx y hy;simp only [qaE,zht] at hx hy;obtain ⟨_,_,_,_,_,rfl⟩:=hx;obtain ⟨_,_,_,_,_,rfl⟩:=hy;exact .inl (qc3.2 r)
def zB7 (c:DCode) (i:Nat) (l:Int):DOrder:=⟨l,agN c i,i⟩
open Classical in
noncomputable def zwh (c:DCode) (i:Nat):List DOrder:=if MetP c i/\(zam c i).op=6 then (zbJ (zay (zpl c) i)).map (zB7 c i) else []
noncomputable def zrJ (c:DCode) (k:Nat):List DOrder:=(List.range k).flatMap (zwh c)
def zmH (hm:m<64) {x:Int}:x∈zbJ m↔∃ i:Nat,x=(i:Int)/\m.testBit i=true:=by
 unfold zbJ;rw [zdN];constructor
 . rintro ⟨i,_,h⟩;exact ⟨i,h⟩
 rintro ⟨i,h,hb⟩;exact ⟨i,by have:=zgS hm hb;omega,h,hb⟩
theorem zmI (m:Nat):∀ k,(zdM m k).Pairwise (λa b=>a<b)
 | 0=>by simp [zdM]
 | k+1=>by
   rw [zdM];split
   . refine qb7.2 ⟨zmI m k,sS,λa ha b hb=>?_⟩
     obtain ⟨i,hi,rfl,_⟩:=zdN.1 ha;simp only [qax] at hb;omega
   exact zmI m k
def zum {x:DOrder} (hi:i<c.ins.length):x∈zwh c i↔∃ fr to,OrdP c fr to i/\fr<6/\x=mkO fr to i:=by
 unfold zwh;split
 . rename_i h
   rw [zpm hi];simp only [qaZ,zmH zmm,zgj];constructor
   . rintro ⟨_,⟨l,rfl,h6,hm⟩,rfl⟩;exact ⟨l,agN c i,⟨h.1,h.2,rfl,hm⟩,h6,rfl⟩
   rintro ⟨fr,to,hp,h6,rfl⟩;refine ⟨fr,⟨fr,rfl,h6,hp.2.2.2⟩,?_⟩;unfold zB7 mkO;rw [hp.2.2.1]
 rename_i h
 constructor
 . intro h;cases h
 rintro ⟨fr,to,hp,_⟩;exact absurd ⟨hp.1,hp.2.1⟩ h
def zAn:(zwh c i).length<=64:=by
 unfold zwh;split
 . rw [qav];exact zgg _ 64
 simp
def zAo (c:DCode) (k:Nat):(zrJ c k).length<=k*64:=by
 have:=zki (l:=List.range k) λa _=>zAn (c:=c) (i:=a);rw [qbr] at this;exact this
def zvy (x y:DOrder):ltO x y\/x=y\/ltO y x:=by
 by_cases h1:ltO x y
 . exact .inl h1
 by_cases h2:ltO y x
 . exact .inr (.inr h2)
 exact .inr (.inl (zqY h1 h2))
def zyz (hc:CodeR c):zC6 (zrJ c c.ins.length)=ze3 c:=by
 have g0:∀ x,x∈zrJ c c.ins.length↔x∈ze3 c:=λx=>by
   rw [zll hc];unfold zrJ;simp only [qaE,qaw];constructor
   . rintro ⟨i,hi,hx⟩
     obtain ⟨fr,to,h,_,e⟩:=(zum hi).1 hx;exact ⟨fr,to,i,h,e⟩
   rintro ⟨fr,to,i,h,e⟩;have hi:=h.1.lt hc;have:=h.2.2.2.locks hc;have h6:=hc.1.locks6;exact ⟨i,hi,(zum hi).2 ⟨fr,to,h,oo,e⟩⟩
 have g1:(zrJ c c.ins.length).Pairwise (λx y=>x≠y):=by
   unfold zrJ;refine qbF.2 ⟨λi _=>?_,List.pairwise_lt_range.imp ?_⟩
   . unfold zwh;split
     . refine qbB.2 ((zmI _ _).imp λ{a b} h e=>?_)
       have:=congrArg DOrder.fr e;unfold zB7 at this;simp only at this;omega
     simp
   intro a b hab x hx y hy e
   have h1:∀ {i:Nat} {x:DOrder},x∈zwh c i->x.at_=i:=λ{i x} hx=>by
     unfold zwh at hx;split at hx
     . obtain ⟨l,_,rfl⟩:=qaZ.1 hx;rfl
     cases hx
   have:=h1 hx;have h2:=h1 hy;rw [e,h2] at this;omega
 refine zmA ?_ (zsI c) λx=>(zmB _).mem_iff.trans (g0 x);have h1:=zC7 (zrJ c c.ins.length);have h2:(zC6 (zrJ c c.ins.length)).Pairwise (λx y=>x≠y):=(zmB _).symm.pairwise g1 (λh e=>h e.symm);refine (qc4.2 ⟨h1,h2⟩).imp λ{x y} h=>?_;rcases zvy x y with h3 | h3 | h3
 . exact h3
 . exact absurd h3 h.2
 exact absurd h3 h.1
end Go.Proofs.YtcnglfeoglgebaaGreat
namespace Go.Sh
variable {i n:Nat}
def FWy (nx:Nat->List Nat):Nat->Nat->Nat->Prop
 | 0,i,j=>j∈nx i
 | m+1,i,j=>FWy nx m i j\/(FWy nx m i m/\FWy nx m m j)
section
variable {nx:Nat->List Nat} {n m i j k:Nat}
theorem FWy.rp:∀ {m i j:Nat},FWy nx m i j->RP nx i j
 | 0,_,_,h=>.one h
 | m+1,_,_,h=>by
   rcases h with h | ⟨h1,h2⟩
   . exact FWy.rp h
   exact (FWy.rp h1).trans (FWy.rp h2)
theorem FWy.up (h:j∈nx i):∀ m,FWy nx m i j
 | 0=>h
 | m+1=>.inl (FWy.up h m)
def FWy.old {m i:Nat} (h:FWy nx (m+1) i m):FWy nx m i m:=by
 rcases h with h | ⟨h,_⟩<;>exact h
def FWy.old' {m j:Nat} (h:FWy nx (m+1) m j):FWy nx m m j:=by
 rcases h with h | ⟨_,h⟩<;>exact h
theorem FWy.cat:∀ {m i j k:Nat},j<m->FWy nx m i j->FWy nx m j k->FWy nx m i k
 | m+1,i,j,k,hj,h1,h2=>by
   rcases qa2 (qbg.1 hj) with hl | rfl
   . rcases h1 with a | ⟨a,b⟩
     . rcases h2 with c | ⟨c,d⟩
       . exact .inl (FWy.cat hl a c)
       exact .inr ⟨FWy.cat hl a c,d⟩
     rcases h2 with c | ⟨c,d⟩
     . exact .inr ⟨a,FWy.cat hl b c⟩
     exact .inr ⟨a,d⟩
   exact .inr ⟨h1.old,h2.old'⟩
theorem FWy.iff (hn:∀ i j,j∈nx i->i<n/\j<n):FWy nx n i j↔RP nx i j:=by
 refine ⟨FWy.rp,λh=>?_⟩
 induction h with
 | one h=>exact FWy.up h n
 | more _ h2 ih=>exact FWy.cat (hn _ _ h2).1 ih (FWy.up h2 n)
theorem zE9 (hn:∀ i j,j∈nx i->i<n/\j<n) (h:RP nx i j):i<n/\j<n:=by
 induction h with
 | one h=>exact hn _ _ h
 | more _ h2 ih=>exact ⟨ih.1,(hn _ _ h2).2⟩
end
theorem zmJ {p q:Nat->Prop}:∀ n,(zbd n p).length=(zbd n λi=>p i/\q i).length+(zbd n λi=>p i/\¬q i).length
 | 0=>rfl
 | n+1=>by
   have ih:=zmJ (p:=p) (q:=q) n;by_cases hp:p n
   . by_cases hq:q n
     . rw [zdf hp,zdf (p:=λi=>p i/\q i) ⟨hp,hq⟩,zdw (p:=λi=>p i/\¬q i) λh=>h.2 hq]
       simp only [qag,qcv];omega
     rw [zdf hp,zdw (p:=λi=>p i/\q i) λh=>hq h.2,zdf (p:=λi=>p i/\¬q i) ⟨hp,hq⟩];simp only [qag,qcv];omega
   rw [zdw hp,zdw (p:=λi=>p i/\q i) λh=>hp h.1,zdw (p:=λi=>p i/\¬q i) λh=>hp h.1];exact ih
def zjs {p:Nat->Prop} (hi:i<n) (hp:p i):0<(zbd n p).length:=qbY (zaH.2 ⟨hi,hp⟩)
def zq7 {n x:Nat} {p q:Nat->Prop} (h:∀ i,i<n->p i->q i) (hx:x<n) (hq:q x) (hp:¬p x):(zbd n p).length<(zbd n q).length:=by
 have h1:=zmJ (p:=q) (q:=p) n;have h2:(zbd n λi=>q i/\p i)=zbd n p:=zhS λi hi=>⟨λh=>h.2,λk=>⟨h i hi k,k⟩⟩;have h3:=zjs (p:=λi=>q i/\¬p i) hx ⟨hq,hp⟩;rw [h2] at h1;omega
section
variable (n:Nat) (way:Nat->Nat->Prop)
def zco (i j:Nat):Prop:=j=i\/(way i j/\way j i)
def OkC (told:Nat->Prop) (i:Nat):Prop:=i<n/\¬told i/\∀ j,j<n->way i j->way j i\/told j
open Classical in
noncomputable def zgX (told:Nat->Prop):Option Nat:=(List.range n).find? λi=>decide (OkC n way told i)
def ziA (told:Nat->Prop) (i j:Nat):Prop:=told j\/zco way i j
noncomputable def zeb:Nat->(Nat->Prop)->List (List Nat)
 | 0,_=>[]
 | f+1,told=>match zgX n way told with
   | none=>[]
   | some i=>zbd n (zco way i) :: zeb f (ziA way told i)
noncomputable def zd6 (told:Nat->Prop):Nat:=(zbd n λi=>¬told i).length
noncomputable def zq8:List (List Nat):=zeb n way n λ_=>False
def Whole (told:Nat->Prop):Prop:=∀ i j,told j->way i j->way j i->told i
end
section
variable {n:Nat} {way:Nat->Nat->Prop} {told:Nat->Prop} {i f:Nat}
def zh0:zgX n way told=none↔∀ i,¬OkC n way told i:=by
 unfold zgX;rw [List.find?_eq_none];simp only [qaw,decide_eq_true_eq];exact ⟨λh i hi=>h i hi.1 hi,λh i _=>h i⟩
def zh1 (h:zgX n way told=some i):OkC n way told i:=by
 unfold zgX at h;simpa using List.find?_some h
theorem zkj (h:OkC n way told i) (hm:∀ j,j<i->¬OkC n way told j):zgX n way told=some i:=by
 cases e:zgX n way told with
 | none=>exact absurd h (zh0.1 e i)
 | some k=>
   have hk:=zh1 e;unfold zgX at e;rw [List.find?_eq_some_iff_append] at e;obtain ⟨_,l1,l2,hr,ha⟩:=e;rcases qb5 i k with hl | rfl | hl
   . exfalso
     have h1:(List.range n)[l1.length]?=some k:=by rw [hr];simp
     have h2:l1.length=k:=by
       obtain ⟨h3,h4⟩:=List.getElem?_eq_some_iff.1 h1;simpa using h4
     have h3:i∈l1:=by
       have h4:(List.range n)[i]?=some i:=by simp [h.1]
       rw [hr,List.getElem?_append_left oo] at h4;exact List.mem_of_getElem? h4
     simpa [h] using ha i h3
   . rfl
   exact absurd hk (hm k hl)
def zvz (hi:i<n) (h:¬told i):zd6 n (ziA way told i)<zd6 n told:=
 zq7 (λj _ hj=>λhj'=>hj (.inl hj')) hi h λhj=>hj (.inr (.inl rfl))
theorem ziB (h:zgX n way told=none):zeb n way f told=[]:=by
 cases f with
 | zero=>rfl
 | succ f=>simp only [zeb,h]
theorem ziC (hf:zd6 n told<=f) (h:zgX n way told=some i):∃ f',zeb n way f told=zbd n (zco way i) :: zeb n way f' (ziA way told i)/\zd6 n (ziA way told i)<=f'/\f=f'+1:=by
 have ho:=zh1 h;have h1:=zvz (way:=way) ho.1 ho.2.1;cases f with
 | zero=>omega
 | succ f=>exact ⟨f,by simp only [zeb,h],oo,rfl⟩
def zlm:zd6 n told<=n:=zbg
def zvA (h:zd6 n told=0):zgX n way told=none:=zh0.2 λi hi=>by
 have:=zjs (p:=λi=>¬told i) hi.1 hi.2.1;unfold zd6 at h;omega
def Whole.start:Whole way λ_=>False:=λ_ _ h _ _=>h
def Whole.more (ht:∀ i j k,way i j->way j k->way i k) (h:Whole way told):Whole way (ziA way told i):=λa b hb h1 h2=>by
 rcases hb with hb | rfl | ⟨h3,h4⟩
 . exact .inl (h a b hb h1 h2)
 . exact .inr (.inr ⟨h2,h1⟩)
 exact .inr (.inr ⟨ht _ _ _ h3 h2,ht _ _ _ h1 h4⟩)
def zun (h:Whole way told) (hi:¬told i):zd6 n told=zd6 n (ziA way told i)+(zbd n (zco way i)).length:=by
 have h1:=zmJ (p:=λj=>¬told j) (q:=zco way i) n
 have h2:(zbd n λj=>¬told j/\zco way i j)=zbd n (zco way i):=zhS λj _=>⟨λh=>h.2,λhp=>⟨λhj=>by
   rcases hp with rfl | ⟨h3,h4⟩
   . exact hi hj
   exact hi (h i j hj h3 h4),hp⟩⟩
 have h3:(zbd n λj=>¬told j/\¬zco way i j)=zbd n λj=>¬ziA way told i j:=zhS λj _=>by
   unfold ziA;exact not_or.symm
 rw [h2,h3] at h1;unfold zd6;omega
theorem zq9 (ht:∀ i j k,way i j->way j k->way i k):∀ (m i:Nat),(zbd n λj=>j=i\/way i j).length<=m->i<n->¬told i->∃ j,OkC n way told j
 | 0,i,hm,hi,hti=>by have:=zjs (p:=λj=>j=i\/way i j) hi (.inl rfl);omega
 | m+1,i,hm,hi,hti=>by
   by_cases ho:OkC n way told i
   . exact ⟨i,ho⟩
   have:∃ j,j<n/\way i j/\¬way j i/\¬told j:=by
     refine qaV λg0=>ho ⟨hi,hti,λj hj hw=>?_⟩;refine qaV λhx=>g0 ⟨j,hj,hw,λh=>hx (.inl h),λh=>hx (.inr h)⟩
   obtain ⟨j,hj,hw,hb,g1⟩:=this
   have hlt:(zbd n λk=>k=j\/way j k).length<(zbd n λk=>k=i\/way i k).length:=by
     refine zq7 (x:=i) (λk _ hk=>?_) hi (.inl rfl) ?_
     . rcases hk with rfl | hk
       . exact .inr hw
       exact .inr (ht _ _ _ hw hk)
     rintro (rfl | h)
     . exact hb hw
     exact hb h
   exact zq9 ht m j oo hj g1
theorem zn3 (ht:∀ i j k,way i j->way j k->way i k) (h:0<zd6 n told):∃ i,zgX n way told=some i:=by
 unfold zd6 at h;obtain ⟨i,hi⟩:=List.exists_mem_of_length_pos h;obtain ⟨h1,h2⟩:=zaH.1 hi;obtain ⟨j,hj⟩:=zq9 ht _ i (lr _) h1 h2;cases e:zgX n way told with
 | none=>exact absurd hj (zh0.1 e j)
 | some k=>exact ⟨k,rfl⟩
theorem zkk:∀ {f:Nat} {told:Nat->Prop},Whole way told->(ht:∀ i j k,way i j->way j k->way i k)->∀ p∈zeb n way f told,∃ i,i<n/\¬told i/\p=zbd n (zco way i)
 | 0,_,_,_,p,hp=>by cases hp
 | f+1,told,hw,ht,p,hp=>by
   simp only [zeb] at hp;cases e:zgX n way told with
   | none=>rw [e] at hp;cases hp
   | some i=>
     rw [e] at hp;have ho:=zh1 e;rcases qaa.1 hp with rfl | hp
     . exact ⟨i,ho.1,ho.2.1,rfl⟩
     obtain ⟨j,h1,h2,h3⟩:=zkk (hw.more ht) ht p hp;exact ⟨j,h1,λh=>h2 (.inl h),h3⟩
theorem zra:∀ {f:Nat} {told:Nat->Prop},Whole way told->(ht:∀ i j k,way i j->way j k->way i k)->(zeb n way f told).Pairwise λa b=>∀ x∈a,x∉b
 | 0,_,_,_=>.nil
 | f+1,told,hw,ht=>by
   simp only [zeb];cases e:zgX n way told with
   | none=>exact .nil
   | some i=>
     refine qaS.2 ⟨λp hp x hx hxp=>?_,zra (hw.more ht) ht⟩;obtain ⟨j,h1,h2,rfl⟩:=zkk (hw.more ht) ht p hp;have h3:=(zaH.1 hx).2;have h4:=(zaH.1 hxp).2;rcases h4 with rfl | ⟨h5,h6⟩
     . exact h2 (.inr h3)
     exact h2 ((hw.more (i:=i) ht) j x (.inr h3) h5 h6)
theorem zn4:∀ {f:Nat} {told:Nat->Prop},(zeb n way f told).length<=f
 | 0,_=>qas _
 | f+1,told=>by
   simp only [zeb];cases zgX n way told with
   | none=>simp
   | some i=>simp only [qaj];have:=zn4 (f:=f) (told:=ziA way told i);omega
def zDb (h:i<n):zbd n (zco way i)≠[]:=List.ne_nil_of_mem (zaH.2 ⟨h,.inl rfl⟩)
end
end Go.Sh
namespace Go.Proofs.YtcnglfeoglgebaaGreat
open Go Go.Sh Go.Proofs
open Rep (rep)
variable {b n o:Nat} {w:World}
structure DArc where
 fr:Int
 to:Int
def DArc.ext_iff {x y:DArc}:x=y↔(x.fr=y.fr/\x.to=y.to):=⟨λh=>by rw [h];exact ⟨rfl,rfl⟩,λh=>by obtain ⟨h0,h1⟩:=h;cases x;cases y;simp only at h0 h1;simp only [h0,h1]⟩
instance:DecidableEq DArc:=λx y=>decidable_of_iff (x.fr=y.fr/\x.to=y.to) DArc.ext_iff.symm
instance:Rep DArc:=Rep.via λx=>(x.fr,x.to)
def zhu {x:DArc} (h:At w b o x):At w b (o+0) x.fr:=zcG (α:=Int) (β:=Int) (p:=(x.fr,x.to)) h
def zhv {x:DArc} (h:At w b o x):At w b (o+1) x.to:=zbh (α:=Int) (β:=Int) (p:=(x.fr,x.to)) h
instance:RepZ DArc:=⟨⟨(RepZ.zv:Int),(RepZ.zv:Int)⟩,RepZ.zc (Int×Int),λw=>RepZ.zr (α:=Int×Int) w⟩
instance:Flat DArc:=⟨λh=>Flat.flat (α:=Int×Int) h⟩
noncomputable def nxA (n:Nat) (A:List DArc) (i:Nat):List Nat:=zbd n λj=>i<n/\(⟨i,j⟩:DArc)∈A
def zB8 {A:List DArc}:∀ i j,j∈nxA n A i->i<n/\j<n:=λi j h=>by
 obtain ⟨h1,h2⟩:=zaH.1 h;exact ⟨h2.1,h1⟩
def zuo (nx:Nat->List Nat) (p:List Nat):Prop:=∃ x∈p,RP nx x x
end Go.Proofs.YtcnglfeoglgebaaGreat
namespace Go.Proofs.YtcnglfeoglgebaaGreat
open Go Go.Sh Go.Proofs Go.Sort
open Rep (rep)
variable {N b h0 hi i k lo m n:Nat} {P:Program} {W0 W1 w:World} {c:DCode} {v v1:Value}
def hd0 (l:List Int):Int:=l.headD 0
theorem ziD {w:World}:∀ {l:List (List Int)} {F:List Nat} {xs:List Value},Cells F w xs l->∃ Z:List (List Nat×Value×List Int),F=Z.flatMap (·.1)/\xs=Z.map (·.2.1)/\l=Z.map (·.2.2)/\∀ z∈Z,rep z.1 w [z.2.1] z.2.2
 | [],_,_,⟨h1,h2⟩=>⟨[],h1,h2,rfl,sS⟩
 | y :: ys,_,_,⟨F1,F2,c1,c2,hF,hx,h1,h2⟩=>by
   obtain ⟨Z,e1,e2,e3,e4⟩:=ziD h2;obtain ⟨v,rfl⟩:∃ v,c1=[v]:=qbe.1 (Rep.len h1);refine ⟨(F1,v,y) :: Z,by simp [hF,e1],by simp [hx,e2],by simp [e3],λz hz=>?_⟩;rcases qaa.1 hz with rfl | hz
   . exact h1
   exact e4 z hz
theorem zmK {w:World}:∀ {Z:List (List Nat×Value×List Int)},(∀ z∈Z,rep z.1 w [z.2.1] z.2.2)->Cells (Z.flatMap (·.1)) w (Z.map (·.2.1)) (Z.map (·.2.2))
 | [],_=>⟨rfl,rfl⟩
 | z :: Z,h=>⟨z.1,Z.flatMap (·.1),[z.2.1],Z.map (·.2.1),sS,sS,h z sS,zmK λy hy=>h y (by simp [hy])⟩
theorem zsJ {l:List Int} (h:l≠[]):hd0 l=l[0]'(qaN.2 h):=by
 cases l with
 | nil=>exact absurd rfl h
 | cons x l=>rfl
def zrb {x y:Value} {a b:List Int} (hx:Is w x a) (hy:Is w y b) (ha:a≠[]) (hb:b≠[]) (h1:0<=hd0 a/\hd0 a<1000) (h2:0<=hd0 b/\hd0 b<1000) :
   CALL tp 137 [x,y] w λr w'=>r=.int .i64 (hd0 a-hd0 b)/\ziz w w':=by
 refine co (g:=kf [] [] [(1,[0,1,2,3,4,5,6,7],0)]) Tryz.func137 ?_;have hg:ziz w (World.drew1 w):=⟨1,#[],by simp only [Go.Sort.grow,World.drewN,World.drew1,Array.append_empty]⟩;have g0:=zah w;generalize World.drew1 w=w1 at *;have e1:=zsJ ha;have e2:=zsJ hb;refine zad (i:=0) u33 ty3 hx (qaN.2 ha) λb1 o1 g1=>zac ty3 g1 g0 λ_=>zad (i:=0) u33 ty3 hy (qaN.2 hb) λb2 o2 g2=>zac ty3 g2 g0 λ_=>?_;rw [<-e1,<-e2];refine zbc (by unfold I64;omega)<|⟨rfl,hg⟩
set_option maxHeartbeats 4000000 in
theorem zAp {cs:List (List Int)} (h:OwnI lo hi w v cs) (hn:cs.length<=1000) (U:∀ c∈cs,c≠[]) (hb:∀ c∈cs,0<=hd0 c/\hd0 c<1000) (hd:cs.Pairwise λa b=>hd0 a≠hd0 b) :
    CALL tp 136 [v,.func (.func 137) #[] #[]] w λr w'=>ChgI lo hi w w'/\∃ cs':List (List Int),OwnI lo hi w' v cs'/\cs'.Perm cs/\cs'.Pairwise λa b=>hd0 a<hd0 b:=by
  obtain ⟨F,hM,hF⟩:=h;by_cases hne0:cs=[]
  . subst hne0
    obtain ⟨a,cap,hv⟩:∃ a cap,v=.slice a 0 cap:=by
      obtain ⟨cs,⟨a,cap,G,xs,h,_⟩,hv⟩:=hM.own;exact ⟨a,cap,by rw [hv,h];rfl⟩
    subst hv;refine ⟨(AnyF.slices_SortFunc_none { Tryz.sortInts with } a cap _ w).mono ?_⟩;rintro e w' ⟨he,rfl⟩;exact ⟨_,he,ChgI.refl _,[],⟨F,hM,hF⟩,.refl _,.nil⟩
  obtain ⟨⟨c0,⟨a,cap,Fi,xs,rfl,h1,h2,hc,h4⟩,rfl⟩,g1,hw⟩:=hM;rcases h4 with ⟨h4,_⟩ | ⟨b,o,rfl,rfl,hr,hbl⟩
  . exact absurd h4 hne0
  obtain ⟨Z,rfl,rfl,rfl,hZ⟩:=ziD hc;obtain ⟨c,e,g4⟩:=hw b sS;have gp:∀ z∈Z,b∉z.1:=λz hz hm=>(qaM.1 g1).1 (qaE.2 ⟨z,hz,hm⟩);have hnZ:Z.length<=1000:=by simpa using hn
  have gx:0<Z.length:=by
    rcases qbx Z.length with h | h
    . exact absurd (by rw [qam h];rfl) hne0
    exact h
  haveI:Inhabited (Fin Z.length):=⟨⟨0,gx⟩⟩
  obtain ⟨enc,C⟩:∃ enc:Fin Z.length->Value,enc=λi=>Z[i].2.1:=⟨_,rfl⟩;obtain ⟨cf,gq⟩:∃ cf:Fin Z.length->Fin Z.length->Int,cf=λi j=>hd0 Z[i].2.2-hd0 Z[j].2.2:=⟨_,rfl⟩;obtain ⟨d,g5⟩:∃ d:Array (Fin Z.length),d=(List.finRange Z.length).toArray:=⟨_,rfl⟩;have X:d.size=Z.length:=by rw [g5];simp
  have g9:(List.finRange Z.length).map (λi=>Z[i])=Z:=qaO sS λi h1 h2=>by simp
  have gy:∀ j (hj:j<Z.length),d[j]! = ⟨j,hj⟩:=λj hj=>by
    rw [getElem!_pos d j (by rw [X];exact hj)];simp [g5]
  have gb:OneCell enc:=λi=>by
    have h:=Rep.one (hZ _ (qab i.2)) Z[i.1].2.1 sS;rw [C];exact h
  have gr:Holds enc w b o d:=λj hj=>by
    rw [X] at hj;rw [gy j hj];refine ⟨hr j _ ?_,?_⟩
    . rw [C,List.getElem?_map,List.getElem?_eq_getElem hj];rfl
    simp [World.frozen?,g4]
  have D:∀ i:Fin Z.length,Z[i].2.2∈Z.map (·.2.2):=λi=>qaZ.2 ⟨_,qab _,rfl⟩
  have gc:∀ i j:Fin Z.length,hd0 Z[i].2.2=hd0 Z[j].2.2->i=j:=λi j gs=>by
    rw [qbB,qbM] at hd;rcases qb5 i.1 j.1 with h | h | h
    . exact absurd gs (hd i.1 j.1 i.2 j.2 h)
    . exact Fin.ext h
    exact absurd gs.symm (hd j.1 i.1 j.2 i.2 h)
  have M:∀ i j,ltOf cf i j=decide (hd0 Z[i].2.2<hd0 Z[j].2.2):=λi j=>by
    unfold ltOf;rw [gq,decide_eq_decide];show hd0 Z[i].2.2-hd0 Z[j].2.2<0↔_;omega
  have gd:SWO (ltOf cf):=by
    refine ⟨λx=>?_,λx y z h k=>?_,λx y z h k=>?_⟩
    . rw [M,decide_eq_false_iff_not];omega
    . rw [M,decide_eq_true_eq] at *;omega
    rw [M,decide_eq_false_iff_not] at *;omega
  have gf:b<w.heap.size:=(Array.getElem?_eq_some_iff.1 g4).1
  have O:∀ (m:Nat) (dk:Array (Fin Z.length)) (os:Array Obj) i,i<w.heap.size->i≠b->(sortWorld enc w b o m dk os).heap[i]?=w.heap[i]?:=λm dk os i hi U=>by
    unfold sortWorld;rw [heap_grow_old _ _ (by simpa [putRow,mapBlock,Sort.ahead] using hi)];simp [putRow,mapBlock,Sort.ahead,Array.getElem?_modify,U.symm]
  have g0:∀ (m:Nat) (dk:Array (Fin Z.length)) (os:Array Obj),∀ z∈Z,rep z.1 (sortWorld enc w b o m dk os) [z.2.1] z.2.2:=λm dk os z hz=>
    Rep.keep (hZ z hz) λi hi=>O m dk os i (Rep.lt (hZ z hz) i hi) λe=>gp z hz (e▸hi)
  have gg:CmpLays1 tp 137 #[] enc cf b o d.size w:=λm os dk _ i j=>by
    have hI:∀ k:Fin Z.length,Is (sortWorld enc w b o m dk os) (enc k) Z[k].2.2:=λk=>⟨_,_,g0 m dk os _ (qab k.2),by rw [C];rfl⟩;obtain ⟨h⟩:=zrb (hI i) (hI j) (U _ (D i)) (U _ (D j)) (hb _ (D i)) (hb _ (D j));refine h.mono ?_;rintro e w' ⟨v,he,hv,q,gz,g2⟩;exact ⟨by rw [he,hv,gq],q,gz,g2⟩
  have gh:(Z.map (·.2.2)).length=d.size:=by rw [X,qav]
  show CALL tp 136 [.slice (some ⟨b,o,none⟩) (Z.map (·.2.2)).length cap,_] w _;rw [gh]
  refine ⟨(Any.slices_SortFunc_total Tryz.sortInts enc gb cf gd 137 #[] b o cap d w (zev (ent 137 qd kK)) gg gr gf oo (λx y h k=>by
      rw [M,decide_eq_false_iff_not] at *;exact gc x y oo)).mono ?_⟩
  rintro ex w' ⟨he,n,os,g2⟩;generalize hd':(d.toList.mergeSort λx y=>!(ltOf cf) y x)=d' at g2
  have I:d'.Perm (List.finRange Z.length):=by
    rw [<-hd',g5];exact qcz _ _
  have gi:d'.Pairwise λi j=>¬hd0 Z[j].2.2<hd0 Z[i].2.2:=by
    rw [<-hd']
    have:=qcm (le:=λx y=>!(ltOf cf) y x) (λa b c h1 h2=>by
      simp only [M,qaR,decide_eq_false_iff_not] at *;omega) (λa b=>by
      simp only [M,qaK,qaR,decide_eq_false_iff_not];omega) d.toList
    exact this.imp λh=>by simpa [M] using h
  have V:(d'.map λi=>Z[i]).Perm Z:=by
    have:=I.map λi=>Z[i]
    rwa [g9] at this
  have gC:d'.length=Z.length:=by rw [I.length_eq];simp
  subst g2
  have gj:w.heap.size<=(sortWorld enc w b o n d'.toArray os).heap.size:=by
    unfold sortWorld Go.Sort.grow;rw [Array.size_append];simp [putRow,mapBlock,Sort.ahead]
  have gD:∃ c',(sortWorld enc w b o n d'.toArray os).heap[b]?=some (.cells c' e (0,0)):=by
    unfold sortWorld;rw [heap_grow_old _ _ (by simpa [putRow,mapBlock,Sort.ahead] using gf)];exact ⟨_,by simp [putRow,mapBlock,Sort.ahead,Array.getElem?_modify,g4,onCells];rfl⟩
  have gl:Chg [b] w (sortWorld enc w b o n d'.toArray os):=⟨rfl,rfl,rfl,gj,λi hi hm=>O _ _ _ i hi λe=>hm (by simp [e])⟩;generalize hZ':(d'.map λi=>Z[i])=Z' at *;have gE:∀ z∈Z',z∈Z:=λz hz=>V.mem_iff.1 hz;have g3:(Z'.flatMap (·.1)).Perm (Z.flatMap (·.1)):=V.flatMap_right _;have gF:Z'.map (·.2.1)=d'.map enc:=by rw [<-hZ',C,List.map_map];rfl
  refine ⟨_,he,?_,Z'.map (·.2.2),⟨b :: Z'.flatMap (·.1),⟨⟨_,⟨some ⟨b,o,none⟩,cap,Z'.flatMap (·.1),Z'.map (·.2.1),rfl,?_,h2,zmK λz hz=>g0 _ _ _ z (gE z hz),.inr ⟨b,o,rfl,rfl,?_,oo⟩⟩,?_⟩,?_,?_⟩,?_⟩,V.map _,?_⟩
  . exact gl.toI λi hi=>hF i (by simp only [qaa,qac,or_false] at hi;simp [hi])
  . have:=V.length_eq;simp only [qav] at h1 ⊢;omega
  . rw [gF]
    intro j v hv
    have hj:j<d'.length:=by
      have:=(List.getElem?_eq_some_iff.1 hv).1;simpa using this
    have:=cell?_putRow enc (Sort.ahead w n) b o d d'.toArray gr (by simp [X,gC]) j (by simpa using hj);unfold sortWorld;rw [cell?_grow _ _ _ (by simpa [putRow,mapBlock,Sort.ahead] using gf),this];rw [List.getElem?_map,List.getElem?_eq_getElem hj] at hv;rw [getElem!_pos d'.toArray j (by simpa using hj)];simpa using hv
  . have:=V.length_eq
    simp only [mkv,Rep.agg,cond_false,qbk,qav,X,this]
  . rw [qaM] at g1 ⊢
    exact ⟨λh=>g1.1 (g3.mem_iff.1 h),(g3.nodup_iff).2 g1.2⟩
  . intro i hi
    rcases qaa.1 hi with rfl | hi
    . obtain ⟨c',gG⟩:=gD;exact ⟨c',e,gG⟩
    have gt:=g3.mem_iff.1 hi;obtain ⟨z,hz,gH⟩:=qaE.1 gt;have U:i≠b:=λe=>gp z hz (e▸gH);obtain ⟨c',e',h'⟩:=hw i (by simp [gt]);exact ⟨c',e',by rw [O _ _ _ i (Array.getElem?_eq_some_iff.1 h').1 U];exact h'⟩
  . intro i hi
    rcases qaa.1 hi with rfl | hi
    . exact hF _ sS
    exact hF i (by simp [g3.mem_iff.1 hi])
  have gI:Z'.Pairwise λx y=>¬hd0 y.2.2<hd0 x.2.2:=by
    rw [<-hZ',qbB];exact gi
  have gJ:Z'.Pairwise λx y=>hd0 x.2.2≠hd0 y.2.2:=by
    rw [qbB] at hd;exact V.symm.pairwise hd λh e=>h e.symm
  rw [qbB];exact (qc4.2 ⟨gI,gJ⟩).imp λh=>by have:=h.1;have:=h.2;omega
def zh8 (x:DOrder):DArc:=⟨x.fr,x.to⟩
def ltA (a b:DArc):Prop:=a.fr<b.fr\/(a.fr=b.fr/\a.to<b.to)
structure AInv (L:List DOrder) (A:List DArc):Prop where
 mem:∀ a,a∈A↔∃ x∈L,a=zh8 x
 pw:A.Pairwise ltA
section
variable {L:List DOrder} {A:List DArc} {x:DOrder}
def AInv.start:AInv [] []:=⟨sS,.nil⟩
def AInv.le (h:AInv L A) (hs:(L++[x]).Pairwise ltO):∀ a∈A,a=zh8 x\/ltA a (zh8 x):=λa ha=>by
 obtain ⟨y,hy,rfl⟩:=(h.mem a).1 ha;have:=(qb7.1 hs).2.2 y hy x sS;unfold ltO at this;unfold ltA zh8;rcases this with h1 | ⟨h1,h2 | ⟨h2,_⟩⟩
 . exact .inr (.inl h1)
 . exact .inr (.inr ⟨h1,h2⟩)
 exact .inl (DArc.ext_iff.2 ⟨h1,h2⟩)
def AInv.old (h:AInv L A) (hm:zh8 x∈A):AInv (L++[x]) A:=⟨λa=>by
 rw [h.mem];constructor
 . rintro ⟨y,hy,e⟩;exact ⟨y,by simp [hy],e⟩
 rintro ⟨y,hy,rfl⟩;rcases qae.1 hy with hy | hy
 . exact ⟨y,hy,rfl⟩
 simp only [qax] at hy;subst hy;exact (h.mem _).1 hm,h.pw⟩
def AInv.new (h:AInv L A) (hs:(L++[x]).Pairwise ltO) (hm:zh8 x∉A):AInv (L++[x]) (A++[zh8 x]):=⟨λa=>by
 simp only [qae,qax,h.mem];constructor
 . rintro (⟨y,hy,e⟩ | rfl)
   . exact ⟨y,.inl hy,e⟩
   exact ⟨x,.inr rfl,rfl⟩
 . rintro ⟨y,hy | rfl,rfl⟩
   . exact .inl ⟨y,hy,rfl⟩
   exact .inr rfl,qb7.2 ⟨h.pw,sS,λa ha b hb=>by
 simp only [qax] at hb;subst hb;rcases h.le hs a ha with rfl | h1
 . exact absurd ha hm
 exact h1⟩⟩
def zvB (a:DArc):¬ltA a a:=by unfold ltA;omega
def zyA {a b:DArc} (h:ltA a b) (k:ltA b a):False:=by unfold ltA at *;omega
def AInv.last (h:AInv L A) (hs:(L++[x]).Pairwise ltO) (hA:0<A.length):A[A.length-1]'(by omega)=zh8 x↔zh8 x∈A:=by
 constructor
 . intro e;rw [<-e];exact qab _
 intro hm;obtain ⟨i,hi,e⟩:=qcd hm;rcases h.le hs _ (qab (by omega:A.length-1<A.length)) with h1 | h1
 . exact h1
 exfalso;rcases qaA i (A.length-1) with hl | hl
 . have:=qbM.1 h.pw i (A.length-1) hi oo hl
   rw [e] at this;exact zyA this h1
 have:i=A.length-1:=oo
 subst this;rw [e] at h1;exact zvB _ h1
end
theorem zDc:∀ {l:List Nat},l.Pairwise (λa b=>a<b)->(∀ x∈l,x<N)->l.length<=N
 | l,h,hb=>by
   have h1:=qbM.1 h
   have:∀ i (hi:i<l.length),i<=l[i]:=λi=>by
     induction i with
     | zero=>intro _;exact qbJ _
     | succ i ih=>
       intro hi;have h2:=ih oo;have h3:=h1 i (i+1) oo hi oo;omega
   rcases qbx l.length with h0 | h0
   . omega
   have h2:=this (l.length-1) oo;have h3:=hb _ (qab (by omega:l.length-1<l.length));omega
def zpv {A:List DArc} (hn:n<=6) (hp:A.Pairwise ltA) (hb:∀ a∈A,(0<=a.fr/\a.fr<n)/\0<=a.to/\a.to<n):A.length<=36:=by
 have h1:(A.map λa=>(a.fr*6+a.to).toNat).Pairwise (λa b=>a<b):=by
   rw [qbB];refine hp.imp_of_mem λ{a b} ha g0 h=>?_;have h2:=hb a ha;have h3:=hb b g0;unfold ltA at h;omega
 have:=zDc (N:=36) h1 λx hx=>by
   obtain ⟨a,ha,rfl⟩:=qaZ.1 hx;have:=hb a ha;omega
 simpa using this
noncomputable def nxL (c:DCode) (i:Nat):List Nat:=zbd c.locks.length λj=>∃ k,OrdP c i j k
def OrdP.in (hc:CodeR c) {i j k:Nat} (h:OrdP c i j k):i<c.locks.length/\j<c.locks.length:=
 ⟨h.2.2.2.locks hc,h.2.2.1▸(zcY hc (h.1.lt hc) (.inl h.2.1)).2.1⟩
def zln (hc:CodeR c) {A:List DArc} (h:AInv (ze3 c) A):nxA c.locks.length A=nxL c:=by
 funext i;refine zhS λj hj=>?_;rw [h.mem];constructor
 . rintro ⟨_,x,hx,e⟩
   obtain ⟨fr,to,k,ho,rfl⟩:=(zll hc).1 hx;have e1:(i:Int)=fr:=congrArg DArc.fr e;have e2:(j:Int)=to:=congrArg DArc.to e;have e1:=qaY.1 e1;have e2:=qaY.1 e2;subst e1;subst e2;exact ⟨k,ho⟩
 rintro ⟨k,ho⟩;exact ⟨(ho.in hc).1,mkO i j k,(zll hc).2 ⟨i,j,k,ho,rfl⟩,rfl⟩
def zEC (hc:CodeR c):∀ i j,j∈nxL c i->i<c.locks.length/\j<c.locks.length:=λi j h=>by
 obtain ⟨h1,k,h2⟩:=zaH.1 h;exact ⟨(h2.in hc).1,h1⟩
def AInv.rng (hc:CodeR c) {k:Nat} {A:List DArc} (h:AInv ((ze3 c).take k) A):∀ a∈A,(0<=a.fr/\a.fr<c.locks.length)/\0<=a.to/\a.to<c.locks.length:=λa ha=>by
 obtain ⟨x,hx,rfl⟩:=(h.mem a).1 ha;obtain ⟨fr,to,i,ho,rfl⟩:=(zll hc).1 (qbc hx);have:=ho.in hc;show (0<=(fr:Int)/\(fr:Int)<_)/\0<=(to:Int)/\(to:Int)<_;omega
noncomputable def zb4 (c:DCode):List (List Nat):=zq8 c.locks.length (RP (nxL c))
open Classical in
noncomputable def zg5 (c:DCode):List (List Nat):=(List.range c.locks.length).flatMap λn=>(zb4 c).filter λp=>decide (p.head?=some n/\zuo (nxL c) p)
theorem zfM {p:List Nat}:p.head?=some n->hd0 (zaT p)=n:=by
 cases p with
 | nil=>intro h;cases h
 | cons x l=>intro h;cases h;rfl
theorem zmL:∀ {l m:List (List Int)},l.Pairwise (λa b=>hd0 a<hd0 b)->m.Pairwise (λa b=>hd0 a<hd0 b)->(∀ x,x∈l↔x∈m)->l=m
 | [],[],_,_,_=>rfl
 | [],y :: m,_,_,h=>by have:=(h y).2 sS;cases this
 | x :: l,[],_,_,h=>by have:=(h x).1 sS;cases this
 | x :: l,y :: m,h1,h2,h=>by
   rw [qaS] at h1 h2
   have hxy:x=y:=by
     rcases qaa.1 ((h x).1 sS) with e | hm
     . exact e
     rcases qaa.1 ((h y).2 sS) with e | hl
     . exact e.symm
     have:=h1.1 y hl;have:=h2.1 x hm;omega
   subst hxy;congr 1;refine zmL h1.2 h2.2 λz=>⟨λhz=>?_,λhz=>?_⟩
   . rcases qaa.1 ((h z).1 (by simp [hz])) with rfl | h'
     . have:=h1.1 z hz;omega
     exact h'
   rcases qaa.1 ((h z).2 (by simp [hz])) with rfl | h'
   . have:=h2.1 z hz;omega
   exact h'
def zmM:∀ p∈zb4 c,∃ i,i<c.locks.length/\p=zbd c.locks.length (zco (RP (nxL c)) i):=λp hp=>by
 obtain ⟨i,h1,_,h2⟩:=zkk (way:=RP (nxL c)) Whole.start (λ_ _ _=>RP.trans) p hp;exact ⟨i,h1,h2⟩
def zAq (c:DCode):(zb4 c).Pairwise λa b=>∀ x∈a,x∉b:=zra Whole.start λ_ _ _=>RP.trans
def zmN (c:DCode):(zb4 c).length<=c.locks.length:=zn4
theorem zh2 {p:List Nat} (hp:p∈zb4 c):∃ n,p.head?=some n/\n∈p/\n<c.locks.length:=by
 obtain ⟨i,hi,rfl⟩:=zmM p hp;have g0:=zDb (way:=RP (nxL c)) hi;cases e:zbd c.locks.length (zco (RP (nxL c)) i) with
 | nil=>exact absurd e g0
 | cons x l=>
   have hx:x∈zbd c.locks.length (zco (RP (nxL c)) i):=by rw [e];simp
   exact ⟨x,rfl,sS,(zaH.1 hx).1⟩
def zkl {p:List Nat} (hp:p∈zb4 c):p.length<=c.locks.length/\∀ x∈p,x<c.locks.length:=by
 obtain ⟨i,hi,rfl⟩:=zmM p hp;exact ⟨zbg,λx hx=>(zaH.1 hx).1⟩
def zrc (c:DCode):(zb4 c).Pairwise λa b=>hd0 (zaT a)≠hd0 (zaT b):=by
 refine (zAq c).imp_of_mem λ{a b} ha hb h e=>?_;obtain ⟨n,h1,h2,_⟩:=zh2 ha;obtain ⟨m,k1,k2,_⟩:=zh2 hb;rw [zfM h1,zfM k1] at e;have e:=qaY.1 e;subst e;exact h n h2 k2
def zn5 {p:List Nat}:p∈zg5 c↔p∈zb4 c/\zuo (nxL c) p:=by
 unfold zg5;simp only [qaE,qaw,qbQ,decide_eq_true_eq];constructor
 . rintro ⟨n,_,h1,_,h2⟩;exact ⟨h1,h2⟩
 rintro ⟨h1,h2⟩;obtain ⟨n,h3,_,h4⟩:=zh2 h1;exact ⟨n,h4,h1,h3,h2⟩
def zyB (c:DCode):(zg5 c).Pairwise λa b=>hd0 (zaT a)<hd0 (zaT b):=by
 unfold zg5;refine qbF.2 ⟨λn _=>?_,List.pairwise_lt_range.imp ?_⟩
 . refine ((zrc c).filter _).imp_of_mem λ{a b} ha hb h=>?_
   have h2:=(qbQ.1 ha).2;have h3:=(qbQ.1 hb).2;simp only [decide_eq_true_eq] at h2 h3;exact absurd (by rw [zfM h2.1,zfM h3.1]) h
 intro n m g0 a ha b hb;have h2:=(qbQ.1 ha).2;have h3:=(qbQ.1 hb).2;simp only [decide_eq_true_eq] at h2 h3;rw [zfM h2.1,zfM h3.1];exact qc3.2 g0
noncomputable def zED (c:DCode):List Nat:=(zb4 c).flatten
def zDd {t:TypeId} {K:VW} (h:v.cells=#[v]) (k:∀ w',Ext w w'->Blk w.heap.size t w' [v]->K (.pointer (some ⟨w.heap.size,0,none⟩)) w'):OP P (Instr.box t v) w K:=
 ⟨_,w.alloc (.cells #[v] t),by simp [Instr.box,newVar,newRow,h],k _ (za6 w _) (by unfold Blk;rw [heap_alloc_new w _])⟩
def AddR (c:DCode) (out:List Nat) (ag:Bool) (i m:Nat) (out':List Nat) (ag':Bool):Prop:=
 (MetP c i/\¬zha m (zay out i)/\out'=out.set i (zay out i ||| m)/\ag'=true)\/((MetP c i->zha m (zay out i))/\out'=out/\ag'=ag)
def AddR.hp {out0 out g0:List Nat} {ag g2:Bool} (h:AddR c out ag i m g0 g2) (hP:HP c out0 ag out k) (hi:i<c.ins.length) (hm:m<64) (g1:∀ l,l<6->m.testBit l=true->MayP c i l):HP c out0 g2 g0 k:=by
 rcases h with ⟨h1,h2,rfl,rfl⟩ | ⟨_,rfl,rfl⟩
 . exact hP.add hi hm h1 g1 h2
 exact hP
def AddR.sub {out g0:List Nat} {ag g1:Bool} (h:AddR c out ag i m g0 g1) (hi:i<out.length) (hm:MetP c i):zha m (zay g0 i):=by
 rcases h with ⟨h1,h2,rfl,rfl⟩ | ⟨h,rfl,rfl⟩
 . rw [zb9 hi,if_pos rfl];exact zBY
 exact h hm
def AddR.mono {out g0:List Nat} {ag g1:Bool} {i m x j:Nat} (h:AddR c out ag i m g0 g1) (hi:i<out.length) (hx:zha x (zay out j)):zha x (zay g0 j):=by
 rcases h with ⟨h1,h2,rfl,rfl⟩ | ⟨_,rfl,rfl⟩
 . rw [zb9 hi]
   split
   . rename_i e;subst e;exact zmr hx
   exact hx
 exact hx
def AddR.ag {out g0:List Nat} {ag g1:Bool} (h:AddR c out ag i m g0 g1) (e:g1=false):ag=false:=by
 rcases h with ⟨_,_,_,rfl⟩ | ⟨_,_,rfl⟩
 . cases e
 exact e
structure HW (w1 w:World) (gm go g ga n:Nat) (vm:Value) (out:List Nat) (ag:Bool):Prop where
 ext:Ext w1 w
 met:Blk gm 90 w [vm]
 var:Blk go 33 w [.slice (some ⟨g,0,none⟩) n n]
 mine:Mine [g] w (.slice (some ⟨g,0,none⟩) n n) (zaT out)
 agn:Blk ga 4 w [.bool ag]
 n0:gm≠g
 n01:gm≠ga
 n1:go≠g
 n2:go≠ga
 n3:g≠ga
 g0:w1.heap.size<=g
 g1:w1.heap.size<=go
 g2:w1.heap.size<=ga
section
variable {w1 w w':World} {gm go g ga n:Nat} {vm:Value} {out:List Nat} {ag:Bool}
def HW.step (h:HW w1 w gm go g ga n vm out ag) (hx:Ext w w'):HW w1 w' gm go g ga n vm out ag:=⟨h.ext.trans hx,h.met.ext hx,h.var.ext hx,h.mine.ext hx,h.agn.ext hx,h.n0,h.n01,h.n1,h.n2,h.n3,h.g0,h.g1,h.g2⟩
def HW.set {i v:Nat} (h:HW w1 w gm go g ga n vm out ag) (hc:Chg [g] w w') (hm:Mine [g] w' (.slice (some ⟨g,0,none⟩) n n) ((zaT out).set i (v:Int))):HW w1 w' gm go g ga n vm (out.set i v) ag:=
 ⟨h.ext.chgF hc (by simp [h.g0]),h.met.chgF hc (by simp [h.n0]),h.var.chgF hc (by simp [h.n1]),by rw [zgT];exact hm,h.agn.chgF hc (by simp [Ne.symm h.n3]),h.n0,h.n01,h.n1,h.n2,h.n3,h.g0,h.g1,h.g2⟩
def HW.agains {ag':Bool} (h:HW w1 w gm go g ga n vm out ag) (hc:Chg [ga] w w') (hB:Blk ga 4 w' [.bool ag']):HW w1 w' gm go g ga n vm out ag':=
 ⟨h.ext.chgF hc (by simp [h.g2]),h.met.chgF hc (by simp [h.n01]),h.var.chgF hc (by simp [h.n2]),h.mine.keep λb hb=>by
   simp only [qaa,qac,or_false] at hb;subst hb;exact hc.block b (h.mine.lt b sS) (by simp [h.n3]),hB,h.n0,h.n01,h.n1,h.n2,h.n3,h.g0,h.g1,h.g2⟩
def HW.cell {ga':Nat} {ag':Bool} (h:HW w1 w gm go g ga n vm out ag) (hx:Ext w w') (hB:Blk ga' 4 w' [.bool ag']) (hg:w.heap.size<=ga'):HW w1 w' gm go g ga' n vm out ag':=
 ⟨h.ext.trans hx,h.met.ext hx,h.var.ext hx,h.mine.ext hx,hB,h.n0,by have:=h.met.lt;omega,h.n1,by have:=h.var.lt;omega,by have:=h.mine.lt g sS;omega,h.g0,h.g1,by have:=h.ext.size;omega⟩
def zyC {W1:World} {c:DCode} {i m:Nat} (h:HW w1 w gm go g ga n vm out ag) (hv:Is W1 vm (zg9 c)) (e1:Ext W1 w) (hn:c.ins.length=n) (hi:i<n) (hl:out.length=n) (gf:∀ x∈out,x<64) (hm:m<64) :
   CALL tp 152 [.int .i64 (i:Int),.int .i64 (m:Int),.pointer (some ⟨gm,0,none⟩),.pointer (some ⟨go,0,none⟩),.pointer (some ⟨ga,0,none⟩)] w λr w'=>r=.tuple #[]/\∃ out' ag',HW w1 w' gm go g ga n vm out' ag'/\Chg [g,ga] w w'/\AddR c out ag i m out' ag':=by
 refine co (g:=kf [] [] []) Tryz.func152 ?_;have g2:(zg9 c).length=n:=by unfold zg9;rw [zan,hn]
 refine zax zgt h.met rfl<|zad u90 ty4 hv (by rw [g2];exact hi) λb1 o1 gb=>zaG ty4 gb e1 ?_;have gc:=za5 (ms:=zg9 c) (i:=i) (by rw [g2];exact hi);have gd:=zaU (n:=c.ins.length) (p:=MetP c) (i:=i)
 have g0:(zg9 c)[i]=true↔MetP c i:=by
   rw [<-gc];unfold zg9;rw [gd];exact ⟨λh=>h.2,λh=>⟨oo,h⟩⟩
 have C:=zcZ gf i;refine zbz (λhf=>?_) (λhf=>?_)
 . have g1:=g0.1 hf
   refine zax za4 h.var rfl<|zad u33 ty3 (i:=i) h.mine.is (by rw [zaf,hl];exact hi) λb2 o2 g3=>?_;rw [zaR] at g3;refine zac ty3 g3 (xrf _) λ_=>zft (m:=m) (n:=zay out i) oo oo<|zaP<|br (λgg=>?_) (λgh=>?_)
   . have gi:¬zha m (zay out i):=λhs=>gg (by rw [(zgm hm C).2 hs];rfl)
     refine zax za4 h.var rfl<|zad u33 ty3 (i:=i) h.mine.is (by rw [zaf,hl];exact hi) λb3 o3 g4=>?_;rw [zaR] at g4;refine zac ty3 g4 (xrf _) λ_=>zgz (m:=zay out i) (n:=m) oo oo ?_;have ho:=zpq hm C;refine zb8 (α:=Int) rfl u33 ty3 hi<|zbr (α:=Int) rfl ty3 h.mine (by rw [zaf,hl]) hi (zbY (v:=zay out i ||| m) oo) λw2 g5 gj=>?_;have h2:=h.set (v:=zay out i ||| m) g5 gj;refine zbW (α:=Raw) (lo:=0) (hi:=0) ty4 rfl rfl h2.agn sS (zdi rfl) λw3 g9 gl=>⟨rfl,_,true,h2.agains g9.one gl,(g5.mono sS).trans (g9.one.mono sS),.inl ⟨g1,gi,rfl,rfl⟩⟩
   have hs:zha m (zay out i):=(zgm hm C).1 (qaY.1 (qad.1 gh));exact ⟨rfl,out,ag,h,Chg.refl _ _,.inr ⟨λ_=>hs,rfl,rfl⟩⟩
 exact ⟨rfl,out,ag,h,Chg.refl _ _,.inr ⟨λhm=>(by rw [g0.2 hm] at hf;cases hf),rfl,rfl⟩⟩
end
def CR (c:DCode) (out0:List Nat) (k h0 m:Nat) (ag:Bool):Prop:=ag=false->h0=zay out0 k/\((zam c k).op=4->m=zay out0 (zN c (agN c k)))/\(¬(zam c k).op=4->m=aft c [] k (zay out0 k))
def HP.close {out0 out:List Nat} {ag:Bool} (hP:HP c out0 ag out k) (hC:CR c out0 k h0 m ag) (h1:(zam c k).op=4->zha h0 (zay out (eN c (agN c k)))) (h2:∀ j∈zaA c k,MetP c j->zha m (zay out j)):HP c out0 ag out (k+1):=
 hP.next λe hk=>by
   obtain ⟨c1,c2,c3⟩:=hC e;have ho:=(hP.no e).1;rw [<-ho] at c1 c2 c3;refine ⟨λh4=>⟨c1▸h1 h4,λhz j hj=>?_⟩,λh4 j hj=>?_⟩
   . rw [<-c2 h4];exact h2 j hj (.back hk h4 hz hj)
   rw [<-c3 h4];exact h2 j hj (.next hk h4 hj)
def zB9 (hW:WAt W0 b c) (e0:Ext W0 w) (hv:Is W1 v1 (zg9 c)) (e1:Ext W1 w) (hc:CodeR c) :
   CALL tp 69 [.pointer (some ⟨b,0,none⟩),v1] w λr w'=>Ext w w'/\Own w.heap.size w' r (zaT (zpl c)):=by
 refine co (g:=kf [(19,38685626227663735544087552,[10])] [(3,1267650600228229401496702162880,[6]),(7,633825300114114700748083173120,[28]),(20,316293680037414660236726243328,[89])] [(17,[0,1,2,3,4,5,6,7,8,9,10,11],0),(18,[0,1,2,3,4,5,6,7,8,9,10,11],128)]) Tryz.func69 ?_;have h8:=hc.1.procs8;have j4:=hc.f.ins;have D:=hW.wl.code
 have gh:v1.cells=#[v1]:=by
   obtain ⟨aa,cc,FF,xx,hh,_⟩:=zcT hv;rw [hh];rfl
 refine zDd gh λwm gN hI=>?_;have hsm:=gN.size;have j5:=e0.t gN;refine NIL.mk rfl<|zab zbM<|zab zaM<|zaa zcQ (zak D) j5 λv17 j6=>zae u34 j6 ?_;have hz0:=(zeE hc h8.2).2.2;have hJ:=HP.start (c:=c);have hn:c.ins.length=c.ins.length:=rfl;generalize hnn:c.ins.length=n at hn;rw [hnn] at j4 hJ;refine zd1 oo oo λw1 gO hK=>?_;have hs1:=gO.size;have hg1:=hK.lt _ (qax.2 rfl);have hmg:w.heap.size<wm.heap.size:=hI.lt;generalize hgm:w.heap.size=gm at *;generalize hg:wm.heap.size=g at *;refine zke zFH za4 rfl λw2 gG hL=>?_;have hs2:=gG.size;have j7:=hK.ext gG;have gP:=hI.ext (gO.t gG);generalize gH:w1.heap.size=go at *;have j8:=hL.lt;refine zke zDF ty4 rfl λw5 gI j9=>?_;have ja:HW w w5 gm go g w2.heap.size n v1 (List.replicate n 0) true:=⟨gN.t (gO.t (gG.t gI)),gP.ext gI,hL.ext gI,j7.ext gI,j9,oo,oo,oo,oo,oo,oo,oo,oo⟩;generalize w2.heap.size=ga at *;generalize List.replicate n 0=out at *;refine LOOPI.mk (λm us w'=>∃ (ga:Nat) (out:List Nat) (ag:Bool),us=[.pointer (some ⟨ga,0,none⟩)]/\m=(n*63-out.sum)+(if ag then 1 else 0)/\HW w w' gm go g ga n v1 out ag/\HP c out false out 0/\(ag=false->out=zpl c)) (n*63-out.sum+1) ⟨ga,out,true,rfl,rfl,ja,hJ,λe=>by cases e⟩ ?_;rintro m u w6 ⟨ga,out,ag,hu,hm,gg,hM,gQ⟩;try replace hu:=zbt hu
 rw [hu];have jb:=hM.sum_le;rw [hnn] at jb;refine zax ty4 gg.agn rfl<|zbz (λgR=>?_) (λgR=>?_)
 case refine_2=>refine zax za4 gg.var rfl ?_;rw [<-gQ gR];exact ⟨gg.ext,[g],gg.mine,λb hb=>by simp only [qaa,qac,or_false] at hb;omega⟩
 rw [gR,if_pos rfl] at hm;refine zbW (α:=Raw) (lo:=0) (hi:=0) ty4 rfl rfl gg.agn sS (zdi rfl) λw7 jc jd=>?_;have hN:=gg.agains jc.one jd;refine zbb (v:=.func (.func 152) #[] #[.pointer (some ⟨gm,0,none⟩),.pointer (some ⟨go,0,none⟩),.pointer (some ⟨ga,0,none⟩)]) (λw' _=>by simp [Instr.makeFunc])<|NIL.mk rfl<|zab zbM<|zab zaM<|zaa zcQ (zak D) (e0.t hN.ext) λv26 hO=>zae u34 hO ?_;rw [hnn];refine zao n (λk us w'=>∃ (out':List Nat) (ag':Bool),us=[.int .i64 (k:Int)]/\k<=n/\HW w w' gm go g ga n v1 out' ag'/\HP c out ag' out' k) 0 (z0 _) ⟨out,false,rfl,z0 _,hN,hM⟩ ?_;rintro k mk u w8 hkm ⟨C,g4,hu,hkl,g5,I⟩;try replace hu:=zbt hu
 rw [hu];refine zag<|br (λje=>?_) (λjf=>?_)
 case refine_2=>
   have jg:k=n:=oo
   rw [jg] at I;refine zax ty4 g5.agn rfl<|zke zDF ty4 rfl λw9 gS jh=>?_;have gU:=I.sum_le;rw [hnn] at gU;refine ⟨(n*63-C.sum)+(if g4 then 1 else 0),?_,_,C,g4,rfl,rfl,g5.cell gS jh (lr _),I.again,λe=>?_⟩
   . cases g4 with
     | true=>have:=I.yes rfl;simp;omega
     | false=>rw [(I.no rfl).1];simp;omega
   rw [e,<-hnn] at I;exact I.fin hc
 have hk:k<n:=oo
 have g9:k<c.ins.length:=oo
 have gV:C.length=n:=by rw [I.len,hnn]
 refine zad u34 zcL hO g9 λb3 o3 hQ=>?_;rw [zaz] at hQ;refine zaa zcL hQ (e0.t g5.ext) λv32 hR=>zck zqd rfl zcL rfl hR (e0.t g5.ext) λw9 gS gJ hS=>?_;have g0:=g5.step gS;have gW:=zgF hR hS rfl;have hV:(zg9 c).length=n:=by unfold zg9;rw [zan,hnn]
 have ji:=zaU (n:=c.ins.length) (p:=MetP c) (i:=k);have jj:=za5 (ms:=zg9 c) (i:=k) (by rw [hV];exact hk)
 have gi:(zg9 c)[k]=true↔MetP c k:=by
   rw [<-jj];unfold zg9;rw [ji];exact ⟨λh=>h.2,λh=>⟨oo,h⟩⟩
 refine zax zgt g0.met rfl<|zad u90 ty4 (i:=k) hv (by rw [hV];exact hk) λb4 o4 jk=>zaG ty4 jk (e1.trans g0.ext)<|zaV<|zbz (λhf=>?_) (λhf=>?_)
 . have jl:¬MetP c k:=λh=>by rw [gi.2 h] at hf;cases hf
   refine zau<|⟨mk-1,oo,k+1,oo,C,g4,rfl,oo,g0,I.next λ_ h=>absurd h jl⟩
 have gK:MetP c k:=gi.1 (by simpa using hf);have M:=I.lt0 k;refine zax za4 g0.var rfl<|zad u33 ty3 (i:=k) g0.mine.is (by rw [zaf,gV];exact hk) λb5 o5 gj=>?_;rw [zaR] at gj;refine zac ty3 gj (xrf _) λ_=>?_;have gX:g4=false->zay C k=zay out k:=λe=>by rw [(I.no e).1]
 have gl:∀ l,l<6->(zay C k).testBit l=true->MayP c k l:=λl hl hb=>(I.snd k l g9 hb).1;generalize hh0:zay C k=h0 at *;refine JOIN.mk (λus w'=>∃ (m:Nat) (out':List Nat) (ag':Bool),us=[.int .i64 (m:Int)]/\HW w w' gm go g ga n v1 out' ag'/\HP c out ag' out' k/\m<64/\CR c out k h0 m ag'/\((zam c k).op=4->zha h0 (zay out' (eN c (agN c k))))/\∀ l,l<6->m.testBit l=true->∀ j∈zaA c k,MayP c j l) ?_ ?_
 . have O:aft c [] k h0=if (zam c k).op=6 then h0 ||| 2^agN c k else if (zam c k).op=7 then zlg h0 (2^agN c k) else if (zam c k).op=4 then (h0 &&& (tbl [] (agN c k)).1) ||| (tbl [] (agN c k)).2 else h0:=rfl
   have gH:¬(zam c k).op=4->∀ w',HW w w' gm go g ga n v1 C g4->aft c [] k h0<64->∃ (m:Nat) (out':List Nat) (ag':Bool),[Value.int .i64 (aft c [] k h0:Nat)]=[.int .i64 (m:Int)]/\HW w w' gm go g ga n v1 out' ag'/\HP c out ag' out' k/\m<64/\CR c out k h0 m ag'/\((zam c k).op=4->zha h0 (zay out' (eN c (agN c k))))/\∀ l,l<6->m.testBit l=true->∀ j∈zaA c k,MayP c j l:=λh4 w' jm gY=>
     ⟨_,C,g4,rfl,jm,I,gY,λe=>⟨gX e,λh=>absurd h h4,λ_=>by rw [gX e]⟩,λh=>absurd h h4,λl hl hb j hj=>zyi h4 gK hj (gl l hl) hb⟩
   refine zab zbp<|zac ty3 (zaw gJ) (xrf _) λ_=>zai<|br (λc6=>?_) (λc6=>?_)
   . obtain ⟨ha,_,hq⟩:=zcY hc g9 (.inl c6)
     have hp:=zfV hq;rw [if_pos c6] at O;refine zab za8<|zac ty3 (zaq gJ) (xrf _) λ_=>?_;rw [ha];refine zb0 kK zkA oo<|zdF oo<|zgz (m:=h0) (n:=2^agN c k) oo oo ?_;have:=gH oo w9 g0 (by rw [O];exact zqP M hq);rw [O] at this;exact this
   rw [if_neg c6] at O;refine zai<|br (λc7=>?_) (λc7=>?_)
   . obtain ⟨ha,_,hq⟩:=zcY hc g9 (.inr c7)
     have hp:=zfV hq;rw [if_pos c7] at O;refine zab za8<|zac ty3 (zaq gJ) (xrf _) λ_=>?_;rw [ha];refine zb0 kK zkA oo<|zdF oo<|zft (m:=h0) (n:=2^agN c k) oo oo ?_;have:=gH oo w9 g0 (by rw [O];exact qaF (ziv _ _) M);rw [O] at this;exact this
   rw [if_neg c7] at O;refine zai<|br (λc4=>?_) (λc4=>?_)
   . obtain ⟨hX,hY⟩:=zby hc g9 (.inl c4)
     have gZ:agN c k<c.entry.length:=by rw [hc.2.1.1];exact hY
     obtain ⟨jn,jo,_⟩:=zfU hc gZ;obtain ⟨jp,hz2,hz3⟩:=zeE hc hY;have gM:=zah w9;have g1:=g0.step gM;generalize World.drew1 w9=w10 at *;refine NIL.mk rfl<|zab zbM<|zab zbi<|zaa za4 (zar D) (e0.t g1.ext) λv66 jq=>zab za8<|zac ty3 (zaq gJ) gM λ_=>?_;rw [hX];refine zad u33 ty3 jq gZ λb5 o5 gj=>?_;rw [zbx gZ,jn] at gj;refine zac ty3 gj (e0.t g1.ext) λ_=>zud (args:=[_,_]) (caps:=[_,_,_]) zB0 ((zyC (i:=eN c (agN c k)) (m:=h0) g1 hv (e1.trans g1.ext) hnn oo gV I.lt M).mono ?_);rintro _ hZ ⟨rfl,U,h5,h6,h9,gb⟩;have jr:MetP c (eN c (agN c k)):=.call gK c4;have V:=gb.hp I jo M λl hl hb=>.call gK c4 (gl l hl hb);have js:=gb.sub (by rw [gV];omega) jr;have gp:=zah hZ;have X:=h6.step gp;have jt:w8.heap.size<w10.heap.size:=by have:=hS.lt;have:=gM.size;omega
     have ju:w8.heap.size∉[g,ga]:=by have h1:=g5.mine.lt g sS;have h2:=g5.agn.lt;simp;omega
     have gq:=(gW.ext gM).keep (h9.block _ jt ju);have gr:=(gq.ext gp).at (e0.t X.ext);generalize World.drew1 hZ=w12 at *;refine zax za4 X.var rfl<|NIL.mk rfl<|zab zbM<|zaa zbq D (e0.t X.ext) λv76 jv=>zab za8<|zac ty3 (zaq gr) (xrf _) λ_=>?_;rw [hX];refine (zdJ jv (e0.t X.ext) oo).mono ?_;rintro _ w13 ⟨gs,rfl⟩;refine ⟨gs,?_⟩;have gt:=X.step gs;rw [jp];refine zbc (by unfold I64;omega) ?_;rw [show ((zN c (agN c k)+1:Nat):Int)-1=(zN c (agN c k):Int) by omega];have hd:U.length=n:=by rw [V.len,hnn]
     refine zad u33 ty3 (i:=zN c (agN c k)) gt.mine.is (by rw [zaf,hd];omega) λb6 o6 j0=>?_;rw [zaR] at j0;refine zac ty3 j0 (xrf _) λ_=>⟨zay U (zN c (agN c k)),U,h5,rfl,gt,V,V.lt0 _,λe=>⟨gX (gb.ag e),λ_=>by rw [(V.no e).1],λh=>absurd c4 h⟩,λ_=>js,λl hl hb j hj=>?_⟩;have:=V.snd _ l oo hb;exact .back gK c4 this.2 this.1 hj
   rw [if_neg c4] at O;have:=gH c4 w9 g0 (by rw [O];exact M);rw [O] at this;exact this
 rintro us jw ⟨m,gx,he,hr,g2,hs,gy,ht,hw,hx⟩;try replace hr:=zbt hr
 rw [hr];refine (zje D (e0.t g2.ext) hc g9).mono ?_;rintro jx jy ⟨hy,gz⟩;have hz:=g2.step hy;have hl2:=zfs c k;have jz:=λ{j:Nat} (hj:j∈zaA c k)=>(zcX hc g9 hj).1;have gc:=λ{out:List Nat} {o:List Nat} {ag:Bool} (hP:HP c out ag o k)=>HP.close (h0:=h0) (m:=m) hP;generalize hNx:zaA c k=N at *;refine zae u33 gz.is ?_;rw [zaf];refine zao N.length (λq us w'=>∃ (out':List Nat) (ag':Bool),us=[.int .i64 (q:Int)]/\q<=N.length/\HW w w' gm go g ga n v1 out' ag'/\HP c out ag' out' k/\CR c out k h0 m ag'/\((zam c k).op=4->zha h0 (zay out' (eN c (agN c k))))/\(∀ j∈N.take q,MetP c j->zha m (zay out' j))/\OwnI jw.heap.size jy.heap.size w' jx (zaT N)) 0 (z0 _) ⟨gx,he,rfl,z0 _,hz,hs,ht,hw,sS,gz.toI⟩ ?_;rintro q mq u w16 hqm ⟨Y,hB,hu,hql,gd,g3,gC,gD,gf,gE⟩;try replace hu:=zbt hu
 rw [hu];refine zag<|br (λje=>?_) (λjf=>?_)
 case refine_2=>refine zau ?_;rw [qaf oo] at gf;exact ⟨mk-1,oo,k+1,oo,Y,hB,rfl,oo,gd,gc g3 gC gD (hNx▸gf)⟩
 have hq:q<N.length:=oo
 refine zad u33 ty3 (i:=q) gE.is (by rw [zaf];exact hq) λb7 o7 j1=>?_;rw [za3] at j1;refine zac ty3 j1 (xrf _) λ_=>?_;have jA:=λx=>zbD hq (x:=x);have hj:=qab hq;have jB:=jz hj;have jC:=λl hl hb=>hx l hl hb _ hj;generalize N[q]=j at *;have hC:Y.length=n:=by rw [g3.len,hnn]
 refine zud (args:=[_,_]) (caps:=[_,_,_]) zB0 ((zyC (i:=j) (m:=m) gd hv (e1.trans gd.ext) hnn oo hC g3.lt gy).mono ?_);rintro _ w17 ⟨rfl,gF,hD,hF,hG,Z⟩;refine zau ?_;have jD:=g2.mine.lt g sS;have j2:=g2.agn.lt;have hH:j<Y.length:=oo
 refine ⟨mq-1,oo,q+1,oo,gF,hD,rfl,oo,hF,Z.hp g3 jB gy jC,λe=>gC (Z.ag e),λh4=>Z.mono hH (gD h4),λi hi j3=>?_,gE.chgF hG (by simp;omega)⟩;rcases (jA i).1 hi with h | h
 . exact Z.mono hH (gf i h j3)
 subst h;exact Z.sub hH j3
end Go.Proofs.YtcnglfeoglgebaaGreat
namespace Go.Sh
open Rep (rep)
def zgp {α:Type} [Rep α] {w:World} {g e o:Nat} {cs:List Value} {v:Value} {l:List α} (hB:Blk g e w cs) (ho:cs[o]?=some v) (h:Is w v l):At w g o l:=by
 obtain ⟨F,xs,hr,rfl⟩:=h;have g0:=hr;obtain ⟨a,cap,Fi,ys,rfl,h⟩:=hr;refine ⟨F,_,g0,λi u hi=>?_⟩
 have:i=0:=by
   cases i with
   | zero=>rfl
   | succ i=>simp at hi
 subst this;simp only [List.getElem?_cons_zero,qak] at hi;subst hi;have:=hB.range o _ ho;rw [qa9] at this;exact this
end Go.Sh
namespace Go.Proofs.YtcnglfeoglgebaaGreat
open Go Go.Sh Go.Proofs
open Rep (rep)
variable {W0 w:World} {c:DCode} {h0 i k m:Nat} {nw:Bool} {out:List Nat} {v v0:Value}
def zn6 (h:Is w v c):∃ a0 a1 a2 a3 a4 n0 n1 n2 n3 n4 k0 k1 k2 k3 k4,v=.agg #[.slice a0 n0 k0,.slice a1 n1 k1,.slice a2 n2 k2,.slice a3 n3 k3,.slice a4 n4 k4]:=by
 obtain ⟨F,cs,hr,rfl⟩:=h;obtain ⟨F0,c0,F1,c1,F2,c2,F3,c3,F4,c4,rfl,rfl,⟨_,_,_,_,rfl,_⟩,⟨_,_,_,_,rfl,_⟩,⟨_,_,_,_,rfl,_⟩,⟨_,_,_,_,rfl,_⟩,⟨_,_,_,_,rfl,_⟩⟩:=zp3 hr;exact ⟨_,_,_,_,_,_,_,_,_,_,_,_,_,_,_,rfl⟩
structure LP (c:DCode) (ms0:List Bool) (out0:List Nat) (nw:Bool) (ms:List Bool) (out:List Nat) (k:Nat):Prop where
 len:ms.length=c.ins.length
 leno:out.length=c.ins.length
 lt:∀ x∈out,x<64
 snd:∀ i,mkd ms i->MetP c i
 sndm:∀ i l,i<c.ins.length->(zay out i).testBit l=true->MayP c i l
 root:∀ p,RootP c p->mkd ms (eN c p)
 yes:nw=true->zlf ms0+out0.sum<zlf ms+out.sum
 no:nw=false->ms=ms0/\out=out0/\∀ i,i<k->mkd ms0 i->MC c ms0 i/\((zam c i).op=4->zha (zay out0 i) (zay out0 (eN c (agN c i)))/\(mkd ms0 (zN c (agN c i))->∀ j∈zaA c i,zha (zay out0 (zN c (agN c i))) (zay out0 j)))/\(¬(zam c i).op=4->∀ j∈zaA c i,zha (aft c [] i (zay out0 i)) (zay out0 j))
def LP.lt0 {ms0 ms:List Bool} {out0 out:List Nat} (h:LP c ms0 out0 nw ms out k) (i:Nat):zay out i<64:=zcZ h.lt i
def zzp (ms:List Bool) (out:List Nat) (nw:Bool) (i m:Nat):Bool:=nw || !(ms.getD i false&&decide (zay out i ||| m=zay out i))
def zup {ms:List Bool} (h:mkd ms i) (h2:zay out i ||| m=zay out i):zzp ms out nw i m=nw:=by
 unfold mkd at h;unfold zzp;rw [h,decide_eq_true h2];simp
def zpw {ms:List Bool} (h:¬(mkd ms i/\zay out i ||| m=zay out i)):zzp ms out nw i m=true:=by
 unfold mkd at h;unfold zzp;cases e:ms.getD i false
 . simp
 have:¬(zay out i ||| m=zay out i):=λh2=>h ⟨e,h2⟩;rw [decide_eq_false this];simp
def zpx (h:i<out.length):out.set i (zay out i)=out:=by rw [<-zbl h];exact qc2 h
def zyD {ms:List Bool}:zlf ms<=zlf (ms.set i true):=by
 by_cases h:i<ms.length
 . by_cases hk:mkd ms i
   . rw [zmq hk];exact qas _
   rw [zjd h hk];omega
 rw [qcR oo];exact qas _
theorem LP.put {g2 ms:List Bool} {out0 out:List Nat} (h:LP c g2 out0 nw ms out k) (hi:i<c.ins.length) (hm:m<64) (g0:MetP c i) (g1:∀ l,l<6->m.testBit l=true->MayP c i l) :
   LP c g2 out0 (zzp ms out nw i m) (ms.set i true) (out.set i (zay out i ||| m)) k:=by
 by_cases hk:mkd ms i/\zay out i ||| m=zay out i
 . rw [zup hk.1 hk.2,zmq hk.1,hk.2,zpx (by rw [h.leno];exact hi)];exact h
 rw [zpw hk];have g3:=h.lt0 i;have h1:=zj8 (l:=out) (i:=i) (v:=zay out i ||| m) (by rw [h.leno];exact hi);have h2:zay out i<=zay out i ||| m:=Nat.left_le_or;have h3:=zyD (ms:=ms) (i:=i);refine ⟨by simp [h.len],by simp [h.leno],λx hx=>?_,λj hj=>?_,λj l hj hb=>?_,λp hp=>zfK (h.root p hp),λ_=>?_,λe=>by cases e⟩
 . rcases zdq hx with rfl | hx
   . exact zpq hm g3
   exact h.lt x hx
 . rcases (zde (by rw [h.len];exact hi)).1 hj with h4 | h4
   . exact h.snd j h4
   rw [h4];exact g0
 . rw [zb9 (by rw [h.leno];exact hi)] at hb
   split at hb
   . rename_i e
     subst e;rw [qaH,qaK] at hb;rcases hb with hb | hb
     . exact h.sndm i l hj hb
     exact g1 l (zgS hm hb) hb
   exact h.sndm j l hj hb
 have g4:zlf ms+out.sum<zlf (ms.set i true)+(out.set i (zay out i ||| m)).sum:=by
   by_cases hk1:mkd ms i
   . have:=zAd λe=>hk ⟨hk1,e⟩
     omega
   have:=zjd (by rw [h.len];exact hi) hk1;omega
 cases nw with
 | true=>have:=h.yes rfl;omega
 | false=>rw [<-(h.no rfl).1,<-(h.no rfl).2.1];exact g4
def zyE {ms:List Bool} (e:zzp ms out nw i m=false):nw=false:=by
 unfold zzp at e;cases nw<;>simp_all
def zyF {i j m x:Nat} (hi:i<out.length) (hx:zha x (zay out j)):zha x (zay (out.set i (zay out i ||| m)) j):=by
 rw [zb9 hi];split
 . rename_i e;subst e;exact zmr hx
 exact hx
def zkR (hi:i<out.length):zha m (zay (out.set i (zay out i ||| m)) i):=by
 rw [zb9 hi,if_pos rfl];exact zBY
def LP.fin (hc:CodeR c) {g2 ms:List Bool} {out0 out:List Nat} (h:LP c g2 out0 false ms out c.ins.length):ms=zg9 c/\out=zpl c:=by
 obtain ⟨h1,h2,h3⟩:=h.no rfl;rw [<-h1,<-h2] at h3;have hT:TP c ms false ms c.ins.length:=⟨h.len,h.snd,h.root,λe=>(by cases e),λ_=>⟨rfl,λi hi hm=>(h3 i hi hm).1⟩⟩;have g0:=hT.fin hc;have g1:∀ i,MetP c i->mkd ms i:=λi hi=>by rw [g0];exact zaU.2 ⟨hi.lt hc,hi⟩
 exact ⟨g0,zyj hc h.leno h.lt h.sndm λi hm=>by
   have:=(h3 i (hm.lt hc) (g1 i hm)).2;exact ⟨λh4=>⟨(this.1 h4).1,λhz=>(this.1 h4).2 (g1 _ hz)⟩,this.2⟩⟩
def LP.again {ms0 ms:List Bool} {out0 out:List Nat} (h:LP c ms0 out0 nw ms out k):LP c ms out false ms out 0:=
 ⟨h.len,h.leno,h.lt,h.snd,h.sndm,h.root,λe=>(by cases e),λ_=>⟨rfl,rfl,λi hi=>oo⟩⟩
def LP.skip {ms0 ms:List Bool} {out0 out:List Nat} (h:LP c ms0 out0 nw ms out k) (hk:¬mkd ms k):LP c ms0 out0 nw ms out (k+1):=
 ⟨h.len,h.leno,h.lt,h.snd,h.sndm,h.root,h.yes,λe=>⟨(h.no e).1,(h.no e).2.1,λi hi hm=>by
   by_cases e2:i=k
   . subst e2;rw [(h.no e).1] at hk;exact absurd hm hk
   exact (h.no e).2.2 i oo hm⟩⟩
def LP.close {ms0 ms:List Bool} {out0 out:List Nat} (h:LP c ms0 out0 nw ms out k) (hC:CR c out0 k h0 m nw) (h1:(zam c k).op=4->mkd ms (eN c (agN c k))/\zha h0 (zay out (eN c (agN c k))))
   (h2:((zam c k).op=4->mkd ms (zN c (agN c k)))->∀ j∈zaA c k,mkd ms j/\zha m (zay out j)):LP c ms0 out0 nw ms out (k+1):=
 ⟨h.len,h.leno,h.lt,h.snd,h.sndm,h.root,h.yes,λe=>by
   obtain ⟨o1,o2,o3⟩:=h.no e;refine ⟨o1,o2,λi hi hm=>?_⟩;by_cases e2:i=k
   . subst e2
     obtain ⟨c1,c2,c3⟩:=hC e;rw [o1,o2] at h1;rw [o1,o2] at h2;refine ⟨⟨λh4=>⟨(h1 h4).1,λhz j hj=>(h2 (λ_=>hz) j hj).1⟩,λh4 j hj=>(h2 (λh=>absurd h h4) j hj).1⟩,λh4=>⟨c1▸(h1 h4).2,λhz j hj=>c2 h4▸(h2 (λ_=>hz) j hj).2⟩,λh4 j hj=>c3 h4▸(h2 (λh=>absurd h h4) j hj).2⟩
   exact o3 i oo hm⟩
structure LW (w1 w:World) (gw g h n:Nat) (kc:List Value) (ms:List Bool) (out:List Nat) (nw:Bool):Prop where
 ext:Ext w1 w
 blk:Blk gw 235 w (kc++[.slice (some ⟨g,0,none⟩) n n,.slice (some ⟨h,0,none⟩) n n,.bool nw])
 mks:Mine [g] w (.slice (some ⟨g,0,none⟩) n n) ms
 mine:Mine [h] w (.slice (some ⟨h,0,none⟩) n n) (zaT out)
 k5:kc.length=5
 n1:gw≠g
 n2:gw≠h
 n3:g≠h
 g0:w1.heap.size<=gw
 g1:w1.heap.size<=g
 g2:w1.heap.size<=h
section
variable {w1 w w':World} {gw g h n:Nat} {kc:List Value} {ms:List Bool} {out:List Nat} {nw:Bool}
def LW.step (H:LW w1 w gw g h n kc ms out nw) (hx:Ext w w'):LW w1 w' gw g h n kc ms out nw:=⟨H.ext.trans hx,H.blk.ext hx,H.mks.ext hx,H.mine.ext hx,H.k5,H.n1,H.n2,H.n3,H.g0,H.g1,H.g2⟩
def LW.c5 (H:LW w1 w gw g h n kc ms out nw):(kc++[Value.slice (some ⟨g,0,none⟩) n n,.slice (some ⟨h,0,none⟩) n n,.bool nw])[5]?=some (.slice (some ⟨g,0,none⟩) n n):=by rw [List.getElem?_append_right (by rw [H.k5];omega),H.k5];rfl
def LW.c6 (H:LW w1 w gw g h n kc ms out nw):(kc++[Value.slice (some ⟨g,0,none⟩) n n,.slice (some ⟨h,0,none⟩) n n,.bool nw])[6]?=some (.slice (some ⟨h,0,none⟩) n n):=by rw [List.getElem?_append_right (by rw [H.k5];omega),H.k5];rfl
def LW.c7 (H:LW w1 w gw g h n kc ms out nw):(kc++[Value.slice (some ⟨g,0,none⟩) n n,.slice (some ⟨h,0,none⟩) n n,.bool nw])[7]?=some (.bool nw):=by rw [List.getElem?_append_right (by rw [H.k5];omega),H.k5];rfl
def LW.mark {ms':List Bool} (H:LW w1 w gw g h n kc ms out nw) (hc:Chg [g] w w') (hm:Mine [g] w' (.slice (some ⟨g,0,none⟩) n n) ms'):LW w1 w' gw g h n kc ms' out nw:=
 ⟨H.ext.chgF hc (by simp [H.g1]),H.blk.chgF hc (by simp [H.n1]),hm,H.mine.keep λb hb=>by
   simp only [qaa,qac,or_false] at hb;subst hb;exact hc.block b (H.mine.lt b sS) (by simp [Ne.symm H.n3]),H.k5,H.n1,H.n2,H.n3,H.g0,H.g1,H.g2⟩
def LW.set {i v:Nat} (H:LW w1 w gw g h n kc ms out nw) (hc:Chg [h] w w') (hm:Mine [h] w' (.slice (some ⟨h,0,none⟩) n n) ((zaT out).set i (v:Int))):LW w1 w' gw g h n kc ms (out.set i v) nw:=
 ⟨H.ext.chgF hc (by simp [H.g2]),H.blk.chgF hc (by simp [H.n2]),H.mks.keep λb hb=>by
   simp only [qaa,qac,or_false] at hb;subst hb;exact hc.block b (H.mks.lt b sS) (by simp [H.n3]),by rw [zgT];exact hm,H.k5,H.n1,H.n2,H.n3,H.g0,H.g1,H.g2⟩
def LW.news {g3:Bool} (H:LW w1 w gw g h n kc ms out nw) (hc:Chg [gw] w w') (hB:Blk gw 235 w' ((kc++[Value.slice (some ⟨g,0,none⟩) n n,.slice (some ⟨h,0,none⟩) n n,.bool nw]).set 7 (.bool g3))):LW w1 w' gw g h n kc ms out g3:=by
 have e:(kc++[Value.slice (some ⟨g,0,none⟩) n n,.slice (some ⟨h,0,none⟩) n n,.bool nw]).set 7 (.bool g3)=kc++[Value.slice (some ⟨g,0,none⟩) n n,.slice (some ⟨h,0,none⟩) n n,.bool g3]:=by
   rw [qba _ _ (by rw [H.k5];omega),H.k5];rfl
 rw [e] at hB
 exact ⟨H.ext.chgF hc (by simp [H.g0]),hB,H.mks.keep λb hb=>by
   simp only [qaa,qac,or_false] at hb;subst hb;exact hc.block b (H.mks.lt b sS) (by simp [Ne.symm H.n1]),H.mine.keep λb hb=>by
   simp only [qaa,qac,or_false] at hb;subst hb;exact hc.block b (H.mine.lt b sS) (by simp [Ne.symm H.n2]),H.k5,H.n1,H.n2,H.n3,H.g0,H.g1,H.g2⟩
def LW.l8 (H:LW w1 w gw g h n kc ms out nw):7<(kc++[Value.slice (some ⟨g,0,none⟩) n n,.slice (some ⟨h,0,none⟩) n n,.bool nw]).length:=by simp [H.k5]
def zmO {i m:Nat} (H:LW w1 w gw g h n kc ms out nw) (hi:i<n) (hl:ms.length=n) (M:out.length=n) (gf:∀ x∈out,x<64) (hm:m<64) :
   CALL tp 277 [.pointer (some ⟨gw,0,none⟩),.int .i64 (i:Int),.int .i64 (m:Int)] w λr w'=>r=.tuple #[]/\LW w1 w' gw g h n kc (ms.set i true) (out.set i (zay out i ||| m)) (zzp ms out nw i m)/\Chg [gw,g,h] w w':=by
 refine co (g:=kf [] [] [(0,[0,1,2,3,4,5,6,7,8,9,10,11,12,13,14,15,16,17,18,19,20,21,22,23,24,25,26],0),(2,[0,1,2,3,4,5,6,7,8,9,10,11,12,13,14,15],0)]) Tryz.func277 ?_;have g1:=zcZ gf i;have ho:=zpq hm g1;have I:=zah w;have H1:=H.step I;have g2:Chg [gw,g,h] w (World.drew1 w):=⟨I.os,I.tape,I.output,I.size,λb hb _=>I.block b hb⟩;generalize World.drew1 w=wd at *;have gb:=za5 (ms:=ms) (i:=i) (by rw [hl];exact hi);refine NIL.mk rfl<|zab zik<|zax zgt H1.blk H1.c5<|zad u90 ty4 H1.mks.is (by rw [hl];exact hi) λb1 o1 g0=>zaG ty4 g0 (xrf _)<|zaV ?_
 have gc:∀ {w':World} {K:Value->Prop} (H:LW w1 w' gw g h n kc ms out nw) (k:K (.int .i64 (zay out i:Int))),RD tp (Instr.indexAt 33 (.slice (some ⟨h,0,none⟩) n n) (.int .i64 (i:Int))) w' λgg=>RD tp (Instr.loadAt 3 gg) w' K:=λH k=>by
   refine zad u33 ty3 (i:=i) H.mine.is (by rw [zaf,M];exact hi) λb1 o1 g0=>?_;rw [zaR] at g0;exact zac ty3 g0 (xrf _) λ_=>k
 refine zbz (λhf=>?_) (λhf=>?_)
 . have D:¬(mkd ms i/\zay out i ||| m=zay out i):=λhh=>by rw [gb.1 hh.1] at hf;cases hf
   rw [zpw D];refine NIL.mk rfl<|zab zik<|zax zgt H1.blk H1.c5<|zb8 (α:=Bool) rfl u90 ty4 hi<|zbr (α:=Bool) rfl ty4 H1.mks hl hi zbU λw2 O g3=>?_;have H2:=H1.mark O g3;have C:=zah w2;have H3:=H2.step C;have g4:Chg [gw,g,h] w2 (World.drew1 w2):=⟨C.os,C.tape,C.output,C.size,λb hb _=>C.block b hb⟩;generalize World.drew1 w2=w3 at *;refine NIL.mk rfl<|zab zgC<|zax za4 H3.blk H3.c6<|NIL.mk rfl<|zab zgC<|zax za4 H3.blk H3.c6<|zad u33 ty3 (i:=i) H3.mine.is (by rw [zaf,M];exact hi) λb4 o4 U=>?_;rw [zaR] at U;refine zac ty3 U (xrf _) λ_=>zgz (m:=zay out i) (n:=m) oo oo<|zb8 (α:=Int) rfl u33 ty3 hi<|zbr (α:=Int) rfl ty3 H3.mine (by rw [zaf,M]) hi (zbY (v:=zay out i ||| m) oo) λw4 V g5=>?_;have H4:=H3.set (v:=zay out i ||| m) V g5;refine NIL.mk rfl<|zab zoH<|zbW (α:=Raw) (lo:=0) (hi:=0) ty4 rfl rfl H4.blk H4.l8 (zdi rfl) λw5 X g9=>⟨rfl,H4.news X.one g9,(((g2.trans (O.mono sS)).trans g4).trans (V.mono sS)).trans (X.one.mono sS)⟩
 have gd:mkd ms i:=by rw [gb];simpa using hf
 refine NIL.mk rfl<|zab zgC<|zax za4 H1.blk H1.c6<|gc H1<|zgz (m:=zay out i) (n:=m) oo oo<|NIL.mk rfl<|zab zgC<|zax za4 H1.blk H1.c6<|gc H1<|zaP<|br (λgh=>?_) (λgi=>?_)
 . have D:¬(mkd ms i/\zay out i ||| m=zay out i):=λhh=>gh (by rw [hh.2])
   rw [zpw D];refine NIL.mk rfl<|zab zik<|zax zgt H1.blk H1.c5<|zb8 (α:=Bool) rfl u90 ty4 hi<|zbr (α:=Bool) rfl ty4 H1.mks hl hi zbU λw2 O g3=>?_;have H2:=H1.mark O g3;have C:=zah w2;have H3:=H2.step C;have g4:Chg [gw,g,h] w2 (World.drew1 w2):=⟨C.os,C.tape,C.output,C.size,λb hb _=>C.block b hb⟩;generalize World.drew1 w2=w3 at *;refine NIL.mk rfl<|zab zgC<|zax za4 H3.blk H3.c6<|NIL.mk rfl<|zab zgC<|zax za4 H3.blk H3.c6<|zad u33 ty3 (i:=i) H3.mine.is (by rw [zaf,M];exact hi) λb4 o4 U=>?_;rw [zaR] at U;refine zac ty3 U (xrf _) λ_=>zgz (m:=zay out i) (n:=m) oo oo<|zb8 (α:=Int) rfl u33 ty3 hi<|zbr (α:=Int) rfl ty3 H3.mine (by rw [zaf,M]) hi (zbY (v:=zay out i ||| m) oo) λw4 V g5=>?_;have H4:=H3.set (v:=zay out i ||| m) V g5;refine NIL.mk rfl<|zab zoH<|zbW (α:=Raw) (lo:=0) (hi:=0) ty4 rfl rfl H4.blk H4.l8 (zdi rfl) λw5 X g9=>⟨rfl,H4.news X.one g9,(((g2.trans (O.mono sS)).trans g4).trans (V.mono sS)).trans (X.one.mono sS)⟩
 have he:zay out i ||| m=zay out i:=qaY.1 (qad.1 gi);rw [zup gd he,zmq gd,he,zpx (by rw [M];exact hi)];exact ⟨rfl,H1,g2⟩
end
def lkQ (c:DCode) (g1 n:Nat) (w0:World):ParQ:=λi u T w=>match i with
 | 0=>Is w0 (u 12) c
 | 1=>u 13=.pointer (some ⟨g1,0+4,none⟩)
 | 2=>Is w0 (u 14) c.ins
 | 3=>u 15=.int .i64 (n:Int)
 | 4=>∃ g,u 16=.slice (some ⟨g,0,none⟩) n n/\(T 4).1<=g/\g<(T 4).2/\Mine [g] w (.slice (some ⟨g,0,none⟩) n n) (List.replicate n false)
 | 5=>u 17=.pointer (some ⟨g1,0+4,none⟩)
 | 6=>Is w0 (u 18) c.ins
 | 7=>u 19=.int .i64 (n:Int)
 | 8=>∃ g,u 20=.slice (some ⟨g,0,none⟩) n n/\(T 8).1<=g/\g<(T 8).2/\Mine [g] w (.slice (some ⟨g,0,none⟩) n n) (zaT (List.replicate n 0))
 | _=>True
def zrd (h0:Is W0 v0 c) (e0:Ext W0 w) (hc:CodeR c) :
   CALL tp 221 [v0] w λr w'=>Ext w w'/\∃ gw,r=.pointer (some ⟨gw,0,none⟩)/\At w' gw (0+5) (zg9 c)/\At w' gw (0+6) (zaT (zpl c)):=by
 refine co (g:=⟨extL,[(25,5316911983139587933751502326797959936,[8])],[(4,4397979402272,[5]),(7,348449143727040986586495598005732602023872,[]),(10,348449143727040986586495597447180695113664,[6]),(27,348406608431175869278562676184201677506560,[11])],[(6,[0,1,2,3,4,5,6,7,8,9],0)],[(1,8384520,9)],[],[]⟩) Tryz.func221 ?_;have h8:=hc.1.procs8;have jh:=hc.f.ins;have hz0:=(zeE hc h8.2).2.2;have gp:=HP.start (c:=c);refine za9 h0 e0 λw1 hR hA=>?_;have hs1:=hR.size;have hn:c.ins.length=c.ins.length:=rfl;generalize hnn:c.ins.length=n at hn;rw [hnn] at jh gp;have U:=zah w1;refine PAR.mk (lkQ c w.heap.size n (World.drew1 w1)) ?_ ?_ ?_
 . intro i u u' T T' wa wb hxa hS hd hq
   match i,hd,hq with
   | 0,hd,hq=>have:=(hd (0,12) qd).1;show Is _ (u' 12) _;simp only [this];exact hq
   | 1,hd,hq=>exact (hd (1,13) qd).1.trans hq
   | 2,hd,hq=>have:=(hd (2,14) qd).1;show Is _ (u' 14) _;simp only [this];exact hq
   | 3,hd,hq=>exact (hd (3,15) qd).1.trans hq
   | 4,hd,⟨g,q1,q2,q3,q4⟩=>
     obtain ⟨e1,e2⟩:=hd (4,16) qd;simp only at e1 e2;exact ⟨g,e1.trans q1,by rw [e2];exact q2,by rw [e2];exact q3,q4.ext hS⟩
   | 5,hd,hq=>exact (hd (5,17) qd).1.trans hq
   | 6,hd,hq=>have:=(hd (6,18) qd).1;show Is _ (u' 18) _;simp only [this];exact hq
   | 7,hd,hq=>exact (hd (7,19) qd).1.trans hq
   | 8,hd,⟨g,q1,q2,q3,q4⟩=>
     obtain ⟨e1,e2⟩:=hd (8,20) qd;simp only at e1 e2;exact ⟨g,e1.trans q1,by rw [e2];exact q2,by rw [e2];exact q3,q4.ext hS⟩
   | n+9,_,_=>trivial
 . refine ⟨λu T w' hx _ _=>?_,λu T w' hx _ _=>?_,λu T w' hx _ hp=>?_,λu T w' hx _ hp=>?_,λu T w' hx _ hp=>?_,λu T w' hx _ _=>?_,λu T w' hx _ hp=>?_,λu T w' hx _ hp=>?_,λu T w' hx _ hp=>?_,trivial⟩
   . exact zaa zbq hA (U.t hx) λv6 h6=>⟨xrf _,h6.ext U⟩
   . exact zab zaM ⟨xrf _,rfl⟩
   . have q0:u 13=_:=hp.1
     rw [q0];exact zaa zcQ (zak hA) (U.t hx) λv6 h6=>⟨xrf _,h6.ext U⟩
   . have q1:Is _ (u 14) c.ins:=hp.1
     exact zae u34 q1 (by rw [hnn];exact ⟨xrf _,rfl⟩)
   . have q2:u 15=_:=hp.1
     rw [q2];exact ze1 oo oo λw4 gq r=>⟨gq,_,rfl,lr _,r.lt _ (qax.2 rfl),r⟩
   . exact zab zaM ⟨xrf _,rfl⟩
   . have q0:u 17=_:=hp.1
     rw [q0];exact zaa zcQ (zak hA) (U.t hx) λv6 h6=>⟨xrf _,h6.ext U⟩
   . have q1:Is _ (u 18) c.ins:=hp.1
     exact zae u34 q1 (by rw [hnn];exact ⟨xrf _,rfl⟩)
   have q2:u 19=_:=hp.1;rw [q2];exact zd1 oo oo λw4 gq r=>⟨gq,_,rfl,lr _,r.lt _ (qax.2 rfl),r⟩
 rintro u T w2 ji gW ⟨gX,-,-,-,⟨g,jj,hga,hgb,jk⟩,-,-,-,⟨h,jl,hha,hhb,jm⟩,-⟩;have gX:Is (World.drew1 w1) (u 12) c:=gX;have t4:=gW.1 4 qd;have t8:=gW.1 8 qd;have d48:=gW.2 4 qd 8 qd qd;have gr:=U.t ji;have hsd:(World.drew1 w1).heap.size=w1.heap.size:=rfl;rw [jj,jl];obtain ⟨a0,a1,a2,a3,a4,n0,n1,n2,n3,n4,k0,k1,k2,k3,k4,jn⟩:=zn6 gX;rw [jn];refine zaX (cells:=#[.slice a0 n0 k0,.slice a1 n1 k1,.slice a2 n2 k2,.slice a3 n3 k3,.slice a4 n4 k4,.slice (some ⟨g,0,none⟩) n n,.slice (some ⟨h,0,none⟩) n n,.bool true]) kK<|zo0 λw3 gY jo=>?_;have H3:LW w1 w3 w2.heap.size g h n [.slice a0 n0 k0,.slice a1 n1 k1,.slice a2 n2 k2,.slice a3 n3 k3,.slice a4 n4 k4] (List.replicate n false) (List.replicate n 0) true:=⟨gr.t gY,jo,jk.ext gY,jm.ext gY,rfl,oo,oo,oo,gr.size,oo,oo⟩;generalize [Value.slice a0 n0 k0,.slice a1 n1 k1,.slice a2 n2 k2,.slice a3 n3 k3,.slice a4 n4 k4]=kc at *;generalize w2.heap.size=gw at *;refine zaa zbq hA H3.ext λv23 jp=>?_;refine (zgV jp H3.ext hc).mono ?_;rintro v24 w4 ⟨gq,jq⟩;refine (zfH jq.is (xrf _) (by rw [zan];omega)).mono ?_;rintro jr w5 ⟨js,hV⟩;rw [zan,zho] at hV;have H4:=H3.step gq;have H5:=H4.step js;have hL:∀ p,p∈zbd c.procs.length (RootP c)↔RootP c p:=λp=>by rw [zaH];exact ⟨λh=>h.2,λh=>⟨h.lt hc,h⟩⟩
 have hLl:(zbd c.procs.length (RootP c)).length<=8:=qan zbg h8.1;generalize zbd c.procs.length (RootP c)=L at *;have jt:=H4.blk.lt;have hg4:=H4.mks.lt g sS;have hh4:=H4.mine.lt h sS;have gZ:(List.replicate n 0).length=n:=by simp
 have gs:∀ x∈List.replicate n 0,x<64:=λx hx=>by rw [(qcD.1 hx).2];omega
 have g3:∀ i,i<n->(List.replicate n 0).set i (zay (List.replicate n 0) i ||| 0)=List.replicate n 0:=λi hi=>by rw [Nat.or_zero,zpx (by rw [gZ];exact hi)]
 have ju:∀ i l,i<c.ins.length->(zay (List.replicate n 0) i).testBit l=true->MayP c i l:=λi l hi hb=>(gp.snd i l hi hb).1;generalize List.replicate n 0=out at *;refine zao L.length (λk us w'=>∃ ms,us=[.int .i64 (k:Int)]/\k<=L.length/\LW w1 w' gw g h n kc ms out true/\OwnI w4.heap.size w5.heap.size w' jr (zaT L)/\ms.length=n/\(∀ i,mkd ms i->MetP c i)/\∀ p∈L.take k,mkd ms (eN c p)) 0 (z0 _) ⟨_,rfl,z0 _,H5,hV.toI,sS,λi h=>absurd h zbX,sS⟩ ?_;rintro k mk u6 w6 hW ⟨ms,hu,jv,H6,h5,gt,gx,gy⟩;try replace hu:=zbt hu
 rw [hu];refine zae u33 h5.is ?_;rw [zaf];refine zag<|br (λhX=>?_) (λhY=>?_)
 . have hk:k<L.length:=oo
   have hZ:=zah w6;have H7:=H6.step hZ;have j0:=h5.ext hZ;generalize World.drew1 w6=w7 at *;refine zab zbi<|zaa za4 (zar hA) H7.ext λv34 jw=>zad u33 ty3 (i:=k) j0.is (by rw [zaf];exact hk) λb2 o2 j1=>?_;rw [za3] at j1;refine zac ty3 j1 (xrf _) λ_=>?_;have jx:=λx=>zbD hk (x:=x);have j2:=(hL L[k]).1 (qab hk);generalize L[k]=p at *;have gb:p<c.entry.length:=by rw [hc.2.1.1];exact j2.lt hc
   obtain ⟨h9,j3,_⟩:=zfU hc gb;refine zad u33 ty3 jw gb λb5 o5 g4=>?_;rw [zbx gb,h9] at g4;refine zac ty3 g4 H7.ext λ_=>?_;refine (zmO (i:=eN c p) (m:=0) H7 oo gt gZ gs oo).mono ?_;rintro _ w8 ⟨rfl,H8,jy⟩;rw [g3 _ oo] at H8;refine zau<|⟨mk-1,oo,k+1,oo,_,rfl,oo,H8,j0.chgF jy (by simp;omega),by simp [gt],λi hi=>?_,λq hq=>?_⟩
   . rcases (zde (by rw [gt];omega)).1 hi with h | h
     . exact gx i h
     rw [h];exact .root j2
   rcases (jx q).1 hq with h | h
   . exact zfK (gy q h)
   rw [h];exact (zde (by rw [gt];omega)).2 (.inr rfl)
 have jz:∀ p,RootP c p->mkd ms (eN c p):=λp hp=>gy p (by rw [qaf oo];exact (hL p).2 hp);have hT:LP c ms out false ms out 0:=⟨by rw [gt,hnn],by rw [gZ,hnn],gs,gx,ju,jz,λe=>(by cases e),λ_=>⟨rfl,rfl,λi hi=>oo⟩⟩;clear hu hW h5 g3;refine LOOPI.mk (λm us w'=>∃ (ms:List Bool) (out:List Nat) (nw:Bool),us=[]/\m=(n*64-(zlf ms+out.sum))+(if nw then 1 else 0)/\LW w1 w' gw g h n kc ms out nw/\LP c ms out false ms out 0/\(nw=false->ms=zg9 c/\out=zpl c)) (n*64-(zlf ms+out.sum)+1) ⟨ms,out,true,rfl,rfl,H6,hT,λe=>by cases e⟩ ?_;rintro m u9 w9 ⟨ms,out,nw,hu,hm,H9,j4,he⟩
 have gz:∀ {j5 ms:List Bool} {out0 out:List Nat} {nw:Bool} {k:Nat},LP c j5 out0 nw ms out k->zlf ms+out.sum<=n*64:=λ{j5 ms out0 out nw k} hP=>by
   have h1:=zhn ms;rw [hP.len,hnn] at h1;have h2:=sum_le (l:=out) (b:=63) λx hx=>by have:=hP.lt x hx;omega
   rw [hP.leno,hnn] at h2;omega
 refine NIL.mk rfl<|zab zoH<|zax ty4 H9.blk H9.c7<|zbz (λhg=>?_) (λhg=>?_)
 case refine_2=>
   obtain ⟨jA,jB⟩:=he hg;refine ⟨hR.t H9.ext,gw,rfl,zgp H9.blk H9.c5 ?_,zgp H9.blk H9.c6 ?_⟩
   . rw [<-jA];exact H9.mks.is
   rw [<-jB];exact H9.mine.is
 rw [hg,if_pos rfl] at hm;have hb9:=gz j4;refine NIL.mk rfl<|zab zoH<|zbW (α:=Raw) (lo:=0) (hi:=0) ty4 rfl rfl H9.blk H9.l8 (zdi rfl) λw10 hh hr=>?_;have jC:=H9.news hh.one hr;refine zao n (λk us w'=>∃ (ms':List Bool) (out':List Nat) (nw':Bool),us=[.int .i64 (k:Int)]/\k<=n/\LW w1 w' gw g h n kc ms' out' nw'/\LP c ms out nw' ms' out' k) 0 (z0 _) ⟨ms,out,false,rfl,z0 _,jC,j4⟩ ?_;rintro k mk u11 j6 hW ⟨I,C,M,hu,jv,H11,D⟩;try replace hu:=zbt hu
 rw [hu];refine zab zaM<|zaa zcQ (zak hA) H11.ext λv51 jD=>zae u34 jD ?_;rw [hnn];refine zag<|br (λhX=>?_) (λhY=>?_)
 case refine_2=>
   have jE:k=n:=oo
   rw [jE] at D;have jF:=gz D;refine ⟨(n*64-(zlf I+C.sum))+(if M then 1 else 0),?_,I,C,M,rfl,rfl,H11,D.again,λe=>?_⟩
   . cases M with
     | true=>have:=D.yes rfl;simp;omega
     | false=>rw [(D.no rfl).1,(D.no rfl).2.1];simp;omega
   rw [e,<-hnn] at D;exact D.fin hc
 have hk:k<n:=oo
 have gc:k<c.ins.length:=oo
 have g1:I.length=n:=by rw [D.len,hnn]
 have X:C.length=n:=by rw [D.leno,hnn]
 refine NIL.mk rfl<|zab zik<|zax zgt H11.blk H11.c5<|zad u90 ty4 (i:=k) H11.mks.is (by rw [g1];exact hk) λb4 o4 jG=>zaG ty4 jG (xrf _)<|zaV ?_;have g5:=za5 (ms:=I) (i:=k) (by rw [g1];exact hk);refine zbz (λhf=>?_) (λhf=>?_)
 . have hs:¬mkd I k:=by rw [g5];simpa using hf
   refine zau<|⟨mk-1,oo,k+1,oo,I,C,M,rfl,oo,H11,D.skip hs⟩
 have jH:mkd I k:=by rw [g5];simpa using hf
 have gl:=D.snd k jH;refine zab zaM<|zaa zcQ (zak hA) H11.ext λv65 jI=>zad u34 zcL jI gc λb3 o3 j7=>?_;rw [zaz] at j7;refine zaa zcL j7 H11.ext λv32 j8=>zck zqd rfl zcL rfl j8 H11.ext λj9 gC gS gD=>?_;have H12:=H11.step gC;have gE:=zgF j8 gD rfl;refine NIL.mk rfl<|zab zgC<|zax za4 H12.blk H12.c6<|zad u33 ty3 (i:=k) H12.mine.is (by rw [zaf,X];exact hk) λb5 o5 g4=>?_;rw [zaR] at g4;refine zac ty3 g4 (xrf _) λ_=>?_;have V:=D.lt0 k;have gU:M=false->zay C k=zay out k:=λe=>by rw [(D.no e).2.1]
 have gF:∀ l,l<6->(zay C k).testBit l=true->MayP c k l:=λl hl hb=>D.sndm k l gc hb;generalize hh0:zay C k=h0 at *;refine JOIN.mk (λus w'=>∃ (m:Nat) (ms':List Bool) (out':List Nat) (nw':Bool),us=[.int .i64 (m:Int)]/\LW w1 w' gw g h n kc ms' out' nw'/\LP c ms out nw' ms' out' k/\m<64/\CR c out k h0 m nw'/\((zam c k).op=4->mkd ms' (eN c (agN c k))/\zha h0 (zay out' (eN c (agN c k))))/\(∀ l,l<6->m.testBit l=true->∀ j∈zaA c k,MayP c j l)/\∀ j∈zaA c k,MetP c j) ?_ ?_
 . have Y:aft c [] k h0=if (zam c k).op=6 then h0 ||| 2^agN c k else if (zam c k).op=7 then zlg h0 (2^agN c k) else if (zam c k).op=4 then (h0 &&& (tbl [] (agN c k)).1) ||| (tbl [] (agN c k)).2 else h0:=rfl
   have ht:¬(zam c k).op=4->∀ w',LW w1 w' gw g h n kc I C M->aft c [] k h0<64->∃ (m:Nat) (ms':List Bool) (out':List Nat) (nw':Bool),[Value.int .i64 (aft c [] k h0:Nat)]=[.int .i64 (m:Int)]/\LW w1 w' gw g h n kc ms' out' nw'/\LP c ms out nw' ms' out' k/\m<64/\CR c out k h0 m nw'/\((zam c k).op=4->mkd ms' (eN c (agN c k))/\zha h0 (zay out' (eN c (agN c k))))/\(∀ l,l<6->m.testBit l=true->∀ j∈zaA c k,MayP c j l)/\∀ j∈zaA c k,MetP c j:=λh4 w' jJ hv=>
     ⟨_,I,C,M,rfl,jJ,D,hv,λe=>⟨gU e,λh=>absurd h h4,λ_=>by rw [gU e]⟩,λh=>absurd h h4,λl hl hb j hj=>zyi h4 gl hj (gF l hl) hb,λj hj=>.next gl h4 hj⟩
   refine zab zbp<|zac ty3 (zaw gS) (xrf _) λ_=>zai<|br (λc6=>?_) (λc6=>?_)
   . obtain ⟨ha,_,hq⟩:=zcY hc gc (.inl c6)
     have hp:=zfV hq;rw [if_pos c6] at Y;refine zab za8<|zac ty3 (zaq gS) (xrf _) λ_=>?_;rw [ha];refine (zgi oo).mono ?_;rintro _ hw ⟨gd,rfl⟩;refine zgz (m:=h0) (n:=2^agN c k) oo oo ?_;have:=ht oo hw (H12.step gd) (by rw [Y];exact zqP V hq);rw [Y] at this;exact this
   rw [if_neg c6] at Y;refine zai<|br (λc7=>?_) (λc7=>?_)
   . obtain ⟨ha,_,hq⟩:=zcY hc gc (.inr c7)
     have hp:=zfV hq;rw [if_pos c7] at Y;refine zab za8<|zac ty3 (zaq gS) (xrf _) λ_=>?_;rw [ha];refine (zgi oo).mono ?_;rintro _ hw ⟨gd,rfl⟩;refine (zka V hp).mono ?_;rintro _ gV ⟨gf,rfl⟩;rw [zix V hp];have:=ht oo gV ((H12.step gd).step gf) (by rw [Y];exact qaF (ziv _ _) V);rw [Y] at this;exact this
   rw [if_neg c7] at Y;refine zai<|br (λc4=>?_) (λc4=>?_)
   . obtain ⟨ja,jb⟩:=zby hc gc (.inl c4)
     have gb:agN c k<c.entry.length:=by rw [hc.2.1.1];exact jb
     obtain ⟨h9,j3,_⟩:=zfU hc gb;obtain ⟨hz1,jK,hz3⟩:=zeE hc jb;refine zab zbi<|zaa za4 (zar hA) H12.ext λv66 jL=>zab za8<|zac ty3 (zaq gS) (xrf _) λ_=>?_;rw [ja];refine zad u33 ty3 jL gb λb5 o5 g4=>?_;rw [zbx gb,h9] at g4;refine zac ty3 g4 H12.ext λ_=>?_;refine (zmO (i:=eN c (agN c k)) (m:=h0) H12 oo g1 X D.lt V).mono ?_;rintro _ hw ⟨rfl,H13,hy⟩;have jM:MetP c (eN c (agN c k)):=.call gl c4;have O:=D.put j3 V jM λl hl hb=>.call gl c4 (gF l hl hb);have jc:=zkR (out:=C) (m:=h0) (i:=eN c (agN c k)) (by rw [X];omega);have jd:mkd (I.set (eN c (agN c k)) true) (eN c (agN c k)):=(zde (by rw [g1];omega)).2 (.inr rfl);have gG:zzp I C M (eN c (agN c k)) h0=false->M=false:=zyE;generalize zzp I C M (eN c (agN c k)) h0=nw13 at *;generalize C.set (eN c (agN c k)) (zay C (eN c (agN c k)) ||| h0)=out13 at *;generalize I.set (eN c (agN c k)) true=ms13 at *;have jN:j6.heap.size<j9.heap.size:=gD.lt;have jO:j6.heap.size∉[gw,g,h]:=by have h1:=H11.mks.lt g sS;have h2:=H11.mine.lt h sS;have h3:=H11.blk.lt;simp;omega
     have gH:=(gE.keep (hy.block _ jN jO)).at H13.ext;refine zaa zbq hA H13.ext λv76 jP=>zab za8<|zac ty3 (zaq gH) (xrf _) λ_=>?_;rw [ja];refine (zfl jP H13.ext (p:=(agN c k:Int)) oo oo hc.2.1.nonneg).mono ?_;rintro _ gV ⟨gf,rfl⟩;have H14:=H13.step gf;rw [jK];have gI:ms13.length=n:=by rw [O.len,hnn]
     have gJ:out13.length=n:=by rw [O.leno,hnn]
     refine NIL.mk rfl<|zab zik<|zax zgt H14.blk H14.c5<|zad u90 ty4 (i:=zN c (agN c k)) H14.mks.is (by rw [gI];omega) λb6 o6 jQ=>zaG ty4 jQ (xrf _)<|zaV ?_;have g9:=za5 (ms:=ms13) (i:=zN c (agN c k)) (by rw [gI];omega);refine zbz (λgg=>?_) (λgg=>?_)
     . have hs:¬mkd ms13 (zN c (agN c k)):=by rw [g9];simpa using gg
       refine zau<|⟨mk-1,oo,k+1,oo,ms13,out13,nw13,rfl,oo,H14,LP.close (h0:=h0) (m:=zay out (zN c (agN c k))) O (λe=>⟨gU (gG e),λ_=>rfl,λh=>absurd c4 h⟩) (λ_=>⟨jd,jc⟩) λh=>absurd (h c4) hs⟩
     have jR:mkd ms13 (zN c (agN c k)):=by rw [g9];simpa using gg
     have je:=O.snd _ jR;refine NIL.mk rfl<|zab zgC<|zax za4 H14.blk H14.c6<|zad u33 ty3 (i:=zN c (agN c k)) H14.mine.is (by rw [zaf,gJ];omega) λb7 o7 gK=>?_;rw [zaR] at gK;refine zac ty3 gK (xrf _) λ_=>⟨zay out13 (zN c (agN c k)),ms13,out13,nw13,rfl,H14,O,O.lt0 _,λe=>⟨gU (gG e),λ_=>by rw [(O.no e).2.1],λh=>absurd c4 h⟩,λ_=>⟨jd,jc⟩,λl hl hb j hj=>.back gl c4 je (O.sndm _ l oo hb) hj,λj hj=>.back gl c4 je hj⟩
   rw [if_neg c4] at Y;have:=ht c4 j9 H12 (by rw [Y];exact V);rw [Y] at this;exact this
 rintro us gV ⟨m,hz,gM,hB,hC,H14,hD,gN,hF,hG,hH,jS⟩;try replace hC:=zbt hC
 rw [hC];refine zaa zbq hA H14.ext λjT hI=>?_;refine (zj7 hI H14.ext hc gc).mono ?_;rintro jU jV ⟨hJ,hK⟩;have jW:=H14.step hJ;have hl2:=zfs c k;have jX:=λ{j:Nat} (hj:j∈zaA c k)=>(zcX hc gc hj).1;have gh:=λ{ms o:List Bool} {out0 out1:List Nat} {ag:Bool} (hP:LP c ms out0 ag o out1 k)=>LP.close (h0:=h0) (m:=m) hP;generalize hNx:zaA c k=N at *;refine zao N.length (λq us w'=>∃ (ms':List Bool) (out':List Nat) (nw':Bool),us=[.int .i64 (q:Int)]/\q<=N.length/\LW w1 w' gw g h n kc ms' out' nw'/\LP c ms out nw' ms' out' k/\CR c out k h0 m nw'/\((zam c k).op=4->mkd ms' (eN c (agN c k))/\zha h0 (zay out' (eN c (agN c k))))/\(∀ j∈N.take q,mkd ms' j/\zha m (zay out' j))/\OwnI gV.heap.size jV.heap.size w' jU (zaT N)) 0 (z0 _) ⟨hz,gM,hB,rfl,z0 _,jW,hD,hF,hG,sS,hK.toI⟩ ?_;rintro q mq u w16 hqm ⟨gO,Z,hM,hu,hql,jf,g0,gP,gi,g2,gj⟩;try replace hu:=zbt hu
 rw [hu];refine zae u33 gj.is ?_;rw [zaf];refine zag<|br (λhX=>?_) (λhY=>?_)
 case refine_2=>refine zau ?_;rw [qaf oo] at g2;exact ⟨mk-1,oo,k+1,oo,gO,Z,hM,rfl,oo,jf,gh g0 gP gi λ_=>hNx▸g2⟩
 have hq:q<N.length:=oo
 refine zad u33 ty3 (i:=q) gj.is (by rw [zaf];exact hq) λb7 o7 gK=>?_;rw [za3] at gK;refine zac ty3 gK (xrf _) λ_=>?_;have jY:=λx=>zbD hq (x:=x);have hj:=qab hq;have jZ:=jX hj;have d0:=λl hl hb=>hH l hl hb _ hj;have hN:=jS _ hj;generalize N[q]=j at *;have gQ:gO.length=n:=by rw [g0.len,hnn]
 have gR:Z.length=n:=by rw [g0.leno,hnn]
 refine (zmO (i:=j) (m:=m) jf oo gQ gR g0.lt gN).mono ?_;rintro _ w17 ⟨rfl,d1,hO⟩;refine zau ?_;have d2:=H14.mks.lt g sS;have d3:=H14.mine.lt h sS;have jg:=H14.blk.lt;have hQ:j<Z.length:=oo
 refine ⟨mq-1,oo,q+1,oo,_,_,_,rfl,oo,d1,g0.put jZ gN hN d0,λe=>gP (zyE e),λh4=>⟨zfK (gi h4).1,zyF hQ (gi h4).2⟩,λi hi=>?_,gj.chgF hO (by simp;omega)⟩;rcases (jY i).1 hi with h | h
 . exact ⟨zfK (g2 i h).1,zyF hQ (g2 i h).2⟩
 subst h;exact ⟨(zde (by rw [gQ];omega)).2 (.inr rfl),zkR hQ⟩
end Go.Proofs.YtcnglfeoglgebaaGreat
namespace Go.Sh
open Rep (rep)
variable {cs ds:List Value} {w:World}
def Blk.uniq {g e:Nat} {cs g0:List Value} (h:Blk g e w cs) (h':Blk g e w g0):g0=cs:=by
 unfold Blk at h h';rw [h] at h';simp only [qak,Obj.cells.injEq] at h';have:=h'.1;simpa using this.symm
def zuq {g e:Nat} (h:Blk g e w (cs++ds)):w.rangeAt g 0 cs:=(zaO h.range).1
end Go.Sh
namespace Go.Proofs.YtcnglfeoglgebaaGreat
open Go Go.Sh Go.Proofs
open Rep (rep)
variable {C M out:List Nat} {W W0 w:World} {c:DCode} {g i j m n p q r:Nat} {hd kc:List Value} {op:Int} {x10 x6 x7 x8 x9:Value}
structure WB (W0 w:World) (b e:Nat) (c:DCode) (kc:List Value) (m:Nat) (x6 x7 x8 x9 x10:Value):Prop where
 ext:Ext W0 w
 blk:Blk b e w (kc++[.slice (some ⟨m,0,none⟩) c.ins.length c.ins.length,x6,x7,x8,x9,x10])
 code:∃ F,rep F W0 kc c
 live:Mine [m] w (.slice (some ⟨m,0,none⟩) c.ins.length c.ins.length) (zbZ c.ins.length (zfW c))
 b0:W0.heap.size<=b
 m0:W0.heap.size<=m
 ne:b≠m
section
variable {W0 w w':World} {b e m:Nat} {c:DCode} {kc:List Value} {x6 x7 x8 x9 x10:Value}
def WB.k5 (h:WB W0 w b e c kc m x6 x7 x8 x9 x10):kc.length=5:=by obtain ⟨F,hr⟩:=h.code;exact Rep.len hr
def WB.cell (h:WB W0 w b e c kc m x6 x7 x8 x9 x10) (i:Nat):(kc++[Value.slice (some ⟨m,0,none⟩) c.ins.length c.ins.length,x6,x7,x8,x9,x10])[5+i]?=[Value.slice (some ⟨m,0,none⟩) c.ins.length c.ins.length,x6,x7,x8,x9,x10][i]?:=by
 rw [List.getElem?_append_right (by rw [h.k5];omega),h.k5,qcl]
def WB.code_at (h:WB W0 w b e c kc m x6 x7 x8 x9 x10):At w b 0 c:=by
 obtain ⟨F,hr⟩:=h.code;exact ⟨F,kc,zcr hr h.ext,zuq h.blk⟩
def WB.wl (h:WB W0 w b e c kc m x6 x7 x8 x9 x10):WL w b c:=⟨h.code_at,zgp h.blk (h.cell 0) h.live.is⟩
def WB.step (h:WB W0 w b e c kc m x6 x7 x8 x9 x10) (hx:Ext w w'):WB W0 w' b e c kc m x6 x7 x8 x9 x10:=⟨h.ext.trans hx,h.blk.ext hx,h.code,h.live.ext hx,h.b0,h.m0,h.ne⟩
def WB.chg {F:List Nat} (h:WB W0 w b e c kc m x6 x7 x8 x9 x10) (hc:Chg F w w') (hF:∀ x∈F,W0.heap.size<=x/\x≠b/\x≠m):WB W0 w' b e c kc m x6 x7 x8 x9 x10:=
 ⟨h.ext.chgF hc λx hx=>(hF x hx).1,h.blk.chgF hc λhb=>(hF b hb).2.1 rfl,h.code,h.live.keep λx hx=>by
   simp only [qaa,qac,or_false] at hx;subst hx;exact hc.block x (h.live.lt x sS) λhm=>(hF x hm).2.2 rfl,h.b0,h.m0,h.ne⟩
def WB.cells {y6 y7 y8 y9 y10:Value} (h:WB W0 w b e c kc m x6 x7 x8 x9 x10) (hc:ChgI b (b+1) w w') (hB:Blk b e w' (kc++[.slice (some ⟨m,0,none⟩) c.ins.length c.ins.length,y6,y7,y8,y9,y10])):WB W0 w' b e c kc m y6 y7 y8 y9 y10:=
 ⟨h.ext.chgI hc h.b0,hB,h.code,h.live.keep λx hx=>by
   simp only [qaa,qac,or_false] at hx;subst hx;exact hc.block x (h.live.lt x sS) (by have:=h.ne;omega),h.b0,h.m0,h.ne⟩
def WB.set (h:WB W0 w b e c kc m x6 x7 x8 x9 x10) (i:Nat) (v:Value):(kc++[Value.slice (some ⟨m,0,none⟩) c.ins.length c.ins.length,x6,x7,x8,x9,x10]).set (5+i) v=kc++[Value.slice (some ⟨m,0,none⟩) c.ins.length c.ins.length,x6,x7,x8,x9,x10].set i v:=by
 rw [qba _ _ (by rw [h.k5];omega),h.k5,qcl]
end
def CS (c:DCode) (out:List Nat) (D:Nat->Nat->Prop):Prop:=out.length=c.procs.length/\∀ q,q<c.procs.length->zay out q=zcR (D q) c.procs.length
def CS.mono {D D':Nat->Nat->Prop} (h:CS c out D) (hD:∀ q r,q<c.procs.length->r<c.procs.length->(D q r↔D' q r)):CS c out D':=⟨h.1,λq hq=>by rw [h.2 q hq];exact zbC λr hr=>hD q r hq hr⟩
def CS.set {D D':Nat->Nat->Prop} (h:CS c out D) {p a:Nat} (hp:p<c.procs.length) (ha:a<c.procs.length) (hD:∀ q r,D' q r↔D q r\/(q=p/\r=a)):CS c (out.set p (zay out p ||| 2^a)) D':=by
 refine ⟨by simp [h.1],λq hq=>?_⟩;rw [zb9 (by rw [h.1];exact hp)];split
 . rename_i e
   subst e;rw [h.2 p hp];refine zem λr=>?_;rw [qaH,qaG,qaK,za7,decide_eq_true_eq,hD];constructor
   . rintro (⟨h1,h2⟩ | rfl)
     . exact ⟨h1,.inl h2⟩
     exact ⟨ha,.inr ⟨rfl,rfl⟩⟩
   rintro ⟨h1,h2 | ⟨_,h2⟩⟩
   . exact .inl ⟨h1,h2⟩
   exact .inr h2.symm
 rename_i e
 rw [h.2 q hq];exact zbC λr hr=>⟨λh=>(hD q r).2 (.inl h),λh=>((hD q r).1 h).resolve_right λh=>e h.1.symm⟩
def CS.lt0 {D:Nat->Nat->Prop} (h:CS c out D) (h8:c.procs.length<=8) {q:Nat} (hq:q<c.procs.length):zay out q<256:=by rw [h.2 q hq];exact zbs h8
def CS.zero {D:Nat->Nat->Prop} (hD:∀ q r,¬D q r):CS c (List.replicate c.procs.length 0) D:=⟨sS,λq hq=>by
 rw [<-zbl (by simp;exact hq),qb0];exact zem λr=>by simp [hD]⟩
def CS.eq_cls (h:CS c out λq r=>zk0 c q op r):out=cls c op:=by
 refine qaO (by rw [h.1,zhs]) λi h1 h2=>?_;have hi:i<c.procs.length:=by rw [<-h.1];exact h1
 rw [zbl h1,zbl h2,zBX hi,h.2 i hi]
def zvC (j:Nat):Nat:=if j=11 then 6 else if j=14 then 7 else 8
def zDJ (j:Nat):Prop:=j=11\/j=14\/j=17
def fcB (W:World) (b e:Nat) (hd:List Value) (t9 t10:Value) (w:World):Prop:=ChgI b (b+1) W w/\∃ x6 x7 x8,Blk b e w (hd++[x6,x7,x8,t9,t10])
def fcR (b e:Nat) (j:Nat) (w w':World):Prop:=(zDJ j/\ChgI b (b+1) w w'/\∀ cs,Blk b e w cs->∃ v,Blk b e w' (cs.set (zvC j) v))\/(¬zDJ j/\Ext w w')
def fcQ (b e n:Nat):ParQ:=λi u T w=>match i with
 | 0=>u 17=.pointer (some ⟨b,0,none⟩)
 | 1=>u 18=.pointer (some ⟨b,0,none⟩)
 | 2=>u 19=.pointer (some ⟨b,0,none⟩)
 | 3=>u 20=.int .i64 (n:Int)
 | 4=>∃ g,u 21=.slice (some ⟨g,0,none⟩) n n/\(T 4).1<=g/\g<(T 4).2/\g≠b/\Mine [g] w (.slice (some ⟨g,0,none⟩) n n) (zaT (List.replicate n 0))
 | 5=>u 22=.int .i64 (n:Int)
 | 6=>∃ g,u 23=.slice (some ⟨g,0,none⟩) n n/\(T 6).1<=g/\g<(T 6).2/\g≠b/\Mine [g] w (.slice (some ⟨g,0,none⟩) n n) (zaT (List.replicate n 0))
 | 7=>u 24=.int .i64 (n:Int)
 | 8=>∃ g,u 25=.slice (some ⟨g,0,none⟩) n n/\(T 8).1<=g/\g<(T 8).2/\g≠b/\Mine [g] w (.slice (some ⟨g,0,none⟩) n n) (zaT (List.replicate n 0))
 | 9=>u 26=.pointer (some ⟨b,0,none⟩)
 | 10=>u 27=.pointer (some ⟨b,0+6,none⟩)
 | 11=>∃ cs,Blk b e w cs/\cs[6]?=some (u 21)
 | 12=>u 28=.pointer (some ⟨b,0,none⟩)
 | 13=>u 29=.pointer (some ⟨b,0+7,none⟩)
 | 14=>∃ cs,Blk b e w cs/\cs[7]?=some (u 23)
 | 15=>u 30=.pointer (some ⟨b,0,none⟩)
 | 16=>u 31=.pointer (some ⟨b,0+8,none⟩)
 | 17=>∃ cs,Blk b e w cs/\cs[8]?=some (u 25)
 | _=>True
section
variable {b e n:Nat} {w w':World}
def fcR.sz {j:Nat} (h:fcR b e j w w'):w.heap.size<=w'.heap.size:=by
 rcases h with ⟨_,h,_⟩ | ⟨_,h⟩
 . exact h.size
 exact h.size
def fcR.chg {j:Nat} (h:fcR b e j w w'):ChgI b (b+1) w w':=by
 rcases h with ⟨_,h,_⟩ | ⟨_,h⟩
 . exact h
 exact h.toI
def fcR.mine {j g:Nat} {l:List Int} {v:Value} (h:fcR b e j w w') (hg:g≠b) (hm:Mine [g] w v l):Mine [g] w' v l:=hm.keep λx hx=>by
 simp only [qaa,qac,or_false] at hx;subst hx;exact h.chg.block x (hm.lt x sS) oo
def fcR.cell {j:Nat} {u:Value} {k:Nat} (h:fcR b e j w w') (g0:zDJ j->zvC j≠k) (hc:∃ cs,Blk b e w cs/\cs[k]?=some u):∃ cs,Blk b e w' cs/\cs[k]?=some u:=by
 obtain ⟨cs,hB,hk⟩:=hc;rcases h with ⟨hs,_,h⟩ | ⟨_,h⟩
 . obtain ⟨v,hv⟩:=h cs hB
   exact ⟨_,hv,by rw [List.getElem?_set_ne (g0 hs)];exact hk⟩
 exact ⟨cs,hB.ext h,hk⟩
def fcB.step {W:World} {hd:List Value} {t9 g0:Value} {j:Nat} (h6:hd.length=6) (h:fcB W b e hd t9 g0 w) (hR:fcR b e j w w'):fcB W b e hd t9 g0 w':=by
 obtain ⟨hc,x6,x7,x8,hB⟩:=h;refine ⟨hc.trans hR.chg,?_⟩;rcases hR with ⟨hs,_,hR⟩ | ⟨_,hR⟩
 . obtain ⟨v,hv⟩:=hR _ hB
   rcases hs with rfl | rfl | rfl
   . refine ⟨v,x7,x8,?_⟩
     rw [qba _ _ (by rw [h6];decide),h6] at hv;exact hv
   . refine ⟨x6,v,x8,?_⟩
     rw [qba _ _ (by rw [h6];decide),h6] at hv;exact hv
   refine ⟨x6,x7,v,?_⟩;rw [qba _ _ (by rw [h6];decide),h6] at hv;exact hv
 exact ⟨x6,x7,x8,hB.ext hR⟩
def fcR.ext {j:Nat} (hj:¬zDJ j) (hx:Ext w w'):fcR b e j w w':=.inr ⟨hj,hx⟩
end
def zpy {b e n j:Nat} {t9 g1:Value} {K:World->Prop} (hs:zDJ j) (h6:hd.length=6) (hB:fcB W b e hd t9 g1 w) (k:∀ w',fcR b e j w w'->(∃ cs,Blk b e w' cs/\cs[zvC j]?=some (.slice (some ⟨g,0,none⟩) n n))->K w') :
   OPU tp (Instr.storeAt 33 (.pointer (some ⟨b,0+zvC j,none⟩)) (.slice (some ⟨g,0,none⟩) n n)) w K:=by
 obtain ⟨hc,x6,x7,x8,hB⟩:=hB
 have g0:zvC j<(hd++[x6,x7,x8,t9,g1]).length:=by
   rw [qag,h6];show zvC j<11;rcases hs with rfl | rfl | rfl<;>decide
 rw [qa9];refine zbW (α:=Raw) (lo:=0) (hi:=0) za4 rfl rfl hB g0 (zdi rfl) λw2 g3 g2=>?_
 have hR:fcR b e j w w2:=.inl ⟨hs,g3,λcs g4=>by
   have:=hB.uniq g4;subst this;exact ⟨_,g2⟩⟩
 exact k w2 hR ⟨_,g2,by rw [List.getElem?_set_self g0]⟩
def zDe (l:List Int):(orL C l).testBit r=true↔∃ x∈l,(zay C x.toNat).testBit r=true:=by
 have g0:∀ (l:List Int) (a:Nat),(l.foldl (λa i=>a ||| C.getD i.toNat 0) a).testBit r=true↔a.testBit r=true\/∃ x∈l,(zay C x.toNat).testBit r=true:=λl=>by
   induction l with
   | nil=>simp
   | cons i l ih=>
     intro a;rw [qbw,ih,qaH,qaK,or_assoc];refine or_congr Iff.rfl ?_;simp only [qaa,exists_eq_or_imp];exact Iff.rfl
 have:=g0 l 0;simpa [orL] using this
def zjt {g0:List Nat} (hm:m<2^n) (hn:n<=62):(orL g0 (zbJ m)).testBit r=true↔∃ i,i<n/\m.testBit i=true/\(zay g0 i).testBit r=true:=by
 rw [zDe,zlh hm oo];constructor
 . rintro ⟨x,hx,h⟩
   obtain ⟨i,h1,rfl,h3⟩:=zdN.1 hx;exact ⟨i,h1,h3,by simpa using h⟩
 rintro ⟨i,h1,h2,h3⟩;exact ⟨(i:Int),zdN.2 ⟨i,h1,rfl,h2⟩,by simpa using h3⟩
def zsK (h:∀ r,m.testBit r=true->r<n):m<2^n:=qcJ _ λi hi=>by
 cases e:m.testBit i
 . rfl
 have:=h i e;omega
abbrev sl (g n:Nat):Value:=.slice (some ⟨g,0,none⟩) n n
structure FC (W0 w:World) (b e:Nat) (c:DCode) (kc:List Value) (m g6 g7 g8:Nat) (c6 c7 c8:List Nat) (x9 x10:Value):Prop where
 wb:WB W0 w b e c kc m (sl g6 c.procs.length) (sl g7 c.procs.length) (sl g8 c.procs.length) x9 x10
 m6:Mine [g6] w (sl g6 c.procs.length) (zaT c6)
 m7:Mine [g7] w (sl g7 c.procs.length) (zaT c7)
 m8:Mine [g8] w (sl g8 c.procs.length) (zaT c8)
 n6:W0.heap.size<=g6/\g6≠b/\g6≠m
 n7:W0.heap.size<=g7/\g7≠b/\g7≠m
 n8:W0.heap.size<=g8/\g8≠b/\g8≠m
 d67:g6≠g7
 d68:g6≠g8
 d78:g7≠g8
section
variable {W0 w w':World} {b e m g6 g7 g8:Nat} {c:DCode} {kc:List Value} {c6 c7 c8:List Nat} {x9 x10:Value}
def ze4 {F:List Nat} {g:Nat} {v:Value} {l:List Int} (hm:Mine [g] w v l) (hc:Chg F w w') (hg:g∉F):Mine [g] w' v l:=hm.keep λx hx=>by
 simp only [qaa,qac,or_false] at hx;subst hx;exact hc.block x (hm.lt x sS) hg
def FC.step (h:FC W0 w b e c kc m g6 g7 g8 c6 c7 c8 x9 x10) (hx:Ext w w'):FC W0 w' b e c kc m g6 g7 g8 c6 c7 c8 x9 x10:=⟨h.wb.step hx,h.m6.ext hx,h.m7.ext hx,h.m8.ext hx,h.n6,h.n7,h.n8,h.d67,h.d68,h.d78⟩
def FC.set6 {i v:Nat} (h:FC W0 w b e c kc m g6 g7 g8 c6 c7 c8 x9 x10) (hc:Chg [g6] w w') (hm:Mine [g6] w' (sl g6 c.procs.length) ((zaT c6).set i (v:Int))):FC W0 w' b e c kc m g6 g7 g8 (c6.set i v) c7 c8 x9 x10:=
 ⟨h.wb.chg hc (by simp [h.n6]),by rw [zgT];exact hm,ze4 h.m7 hc (by simp [Ne.symm h.d67]),ze4 h.m8 hc (by simp [Ne.symm h.d68]),h.n6,h.n7,h.n8,h.d67,h.d68,h.d78⟩
def FC.set7 {i v:Nat} (h:FC W0 w b e c kc m g6 g7 g8 c6 c7 c8 x9 x10) (hc:Chg [g7] w w') (hm:Mine [g7] w' (sl g7 c.procs.length) ((zaT c7).set i (v:Int))):FC W0 w' b e c kc m g6 g7 g8 c6 (c7.set i v) c8 x9 x10:=
 ⟨h.wb.chg hc (by simp [h.n7]),ze4 h.m6 hc (by simp [h.d67]),by rw [zgT];exact hm,ze4 h.m8 hc (by simp [Ne.symm h.d78]),h.n6,h.n7,h.n8,h.d67,h.d68,h.d78⟩
def FC.set8 {i v:Nat} (h:FC W0 w b e c kc m g6 g7 g8 c6 c7 c8 x9 x10) (hc:Chg [g8] w w') (hm:Mine [g8] w' (sl g8 c.procs.length) ((zaT c8).set i (v:Int))):FC W0 w' b e c kc m g6 g7 g8 c6 c7 (c8.set i v) x9 x10:=
 ⟨h.wb.chg hc (by simp [h.n8]),ze4 h.m6 hc (by simp [h.d68]),ze4 h.m7 hc (by simp [h.d78]),by rw [zgT];exact hm,h.n6,h.n7,h.n8,h.d67,h.d68,h.d78⟩
end
def WB.ins {b e m:Nat} (h:WB W0 w b e c kc m x6 x7 x8 x9 x10):∃ v,(kc++[Value.slice (some ⟨m,0,none⟩) c.ins.length c.ins.length,x6,x7,x8,x9,x10])[0+0+4]?=some v/\Is W0 v c.ins:=by
 obtain ⟨F,hr⟩:=h.code;obtain ⟨F0,c0,F1,c1,F2,c2,F3,c3,F4,c4,rfl,rfl,⟨_,_,_,_,rfl,_⟩,⟨_,_,_,_,rfl,_⟩,⟨_,_,_,_,rfl,_⟩,⟨_,_,_,_,rfl,_⟩,g1⟩:=zp3 hr;have g0:=g1;obtain ⟨_,_,_,_,rfl,_⟩:=g1;exact ⟨_,rfl,_,_,g0,rfl⟩
def fcD (c:DCode) (op:Int) (p:Nat) (M:List Nat) (j:Nat):Nat->Nat->Prop:=λq r=>(q<p/\zk0 c q op r)\/(q=p/\∃ i∈M.take j,(zam c i).op=op/\agN c i=r)
def zCa (g0:∀ x,x∈M.take (j+1)↔x∈M.take j\/x=i) (hn:¬(zam c i).op=op) (q r:Nat):fcD c op p M j q r↔fcD c op p M (j+1) q r:=by
 unfold fcD;refine or_congr Iff.rfl (and_congr Iff.rfl ?_);constructor
 . rintro ⟨x,hx,h⟩;exact ⟨x,(g0 x).2 (.inl hx),h⟩
 rintro ⟨x,hx,h⟩;rcases (g0 x).1 hx with hx | rfl
 . exact ⟨x,hx,h⟩
 exact absurd h.1 hn
def zyG (g0:∀ x,x∈M.take (j+1)↔x∈M.take j\/x=i) (hy:(zam c i).op=op) (q r:Nat):fcD c op p M (j+1) q r↔fcD c op p M j q r\/(q=p/\r=agN c i):=by
 unfold fcD;constructor
 . rintro (h | ⟨h1,x,hx,h⟩)
   . exact .inl (.inl h)
   rcases (g0 x).1 hx with hx | rfl
   . exact .inl (.inr ⟨h1,x,hx,h⟩)
   exact .inr ⟨h1,h.2.symm⟩
 rintro ((h | ⟨h1,x,hx,h⟩) | ⟨h1,h2⟩)
 . exact .inl h
 . exact .inr ⟨h1,x,(g0 x).2 (.inl hx),h⟩
 exact .inr ⟨h1,i,(g0 i).2 (.inr rfl),hy,h2.symm⟩
def zyH (hc:CodeR c) {op:Int} (hop:op=4\/op=5) {p:Nat} {M:List Nat} (hp:p<c.procs.length) (hM:∀ i,i∈M↔zaN c p i) (q r:Nat):fcD c op p M M.length q r↔fcD c op (p+1) [] 0 q r:=by
 have g1:(∃ i∈M.take M.length,(zam c i).op=op/\agN c i=r)↔zk0 c p op r:=by
   rw [qaD];constructor
   . rintro ⟨i,hi,h1,h2⟩
     have hl:=(hM i).1 hi;have g0:=(zbV hc (by rw [hc.2.1.1];exact hp) hl).1;exact ⟨i,g0,hl,h1,by rw [(zby hc g0 oo).1,h2]⟩
   rintro ⟨i,g0,hl,h1,h2⟩;have:=(zby hc g0 oo).1;exact ⟨i,(hM i).2 hl,h1,oo⟩
 unfold fcD;constructor
 . rintro (h | ⟨rfl,h⟩)
   . exact .inl ⟨oo,h.2⟩
   exact .inl ⟨oo,g1.1 h⟩
 rintro (⟨h1,h2⟩ | ⟨_,x,hx,_⟩)
 . by_cases e:q=p
   . subst e;exact .inr ⟨rfl,g1.2 h2⟩
   exact .inl ⟨oo,h2⟩
 simp at hx
def zyI (q r:Nat):fcD c op p [] 0 q r↔fcD c op p M 0 q r:=by
 unfold fcD;simp
def CS.done (h:CS c out (fcD c op c.procs.length [] 0)):out=cls c op:=
 CS.eq_cls (op:=op) (h.mono λq r hq hr=>by unfold fcD;simp [hq])
structure UM (c:DCode) (p m:Nat):Prop where
 lt:m<2^c.procs.length
 self:m.testBit p=true
 snd:∀ r,m.testBit r=true->FromP c p r
def UM.start (hp:p<c.procs.length):UM c p (2^p):=⟨qaJ oo hp,by simp [qaG],λr hr=>by simp [qaG] at hr;exact .inl hr.symm⟩
def zkm (hq:q<c.procs.length):(zay (cls c op) q).testBit r=true↔r<c.procs.length/\zk0 c q op r:=by rw [zBX hq,za7]
def UM.more (h8:c.procs.length<=8) {p m:Nat} (h:UM c p m):UM c p (m ||| orL (cls c 4) (zbJ m)):=by
 have hb:∀ r,(orL (cls c 4) (zbJ m)).testBit r=true->∃ i,i<c.procs.length/\m.testBit i=true/\r<c.procs.length/\zk0 c i 4 r:=λr hr=>by
   obtain ⟨i,h1,h2,h3⟩:=(zjt h.lt oo).1 hr;exact ⟨i,h1,h2,(zkm h1).1 h3⟩
 refine ⟨qaT h.lt (zsK λr hr=>by obtain ⟨i,_,_,h3,_⟩:=hb r hr;exact h3),by rw [qaH,h.self];rfl,λr hr=>?_⟩;rw [qaH,qaK] at hr;rcases hr with hr | hr
 . exact h.snd r hr
 obtain ⟨i,h1,h2,h3,h4⟩:=hb r hr;exact (h.snd i h2).call h3 h4
def UM.fin (h8:c.procs.length<=8) {p m:Nat} (h:UM c p m) (he:m ||| orL (cls c 4) (zbJ m)=m):m=zcR (FromP c p) c.procs.length:=by
 have g0:∀ r,m.testBit r=true->r<c.procs.length:=λr hr=>qbb λhn=>by
   have:=qbj (qal h.lt (qat oo (by omega:c.procs.length<=r)));rw [this] at hr;cases hr
 refine zem λr=>⟨λhr=>⟨g0 r hr,h.snd r hr⟩,λ⟨_,hf⟩=>?_⟩
 have step:∀ i j,m.testBit i=true->j∈zml c i->m.testBit j=true:=λi j hi hj=>by
   obtain ⟨g1,g2⟩:=zaH.1 hj;rw [<-he,qaH,(zjt h.lt oo).2 ⟨i,g0 i hi,hi,(zkm (g0 i hi)).2 ⟨g1,g2⟩⟩];simp
 rcases hf with rfl | hf
 . exact h.self
 exact hf.keeps (p:=λi=>m.testBit i=true) h.self step
def zur (h8:c.procs.length<=8) (op:Int):∀ x∈cls c op,x<256:=λx hx=>by
 obtain ⟨q,_,rfl⟩:=qaZ.1 hx;exact zbs h8
def zEE (h8:c.procs.length<=8):∀ x∈frs c,x<256:=λx hx=>by
 obtain ⟨q,_,rfl⟩:=qaZ.1 hx;exact zbs h8
def zre {b e m:Nat} (H:WB W0 w b e c kc m x6 x7 x8 x9 x10) (hc:CodeR c) :
   CALL tp 103 [.pointer (some ⟨b,0,none⟩)] w λr w'=>r=.tuple #[]/\∃ g6 g7 g8,FC W0 w' b e c kc m g6 g7 g8 (cls c 4) (cls c 5) (frs c) x9 x10:=by
 refine co (g:=⟨extL,[(11,295143401579725455360,[])],[(3,77371252455336258591260776,[33]),(6,38685626227667034078969952,[40]),(16,20769187279396805603449450954491776,[87]),(20,81119734894292398653589812152064,[8,9])],[(10,[0,1,2,3,4,5,6,7,8,9,10,11,12,13],0),(12,[0,1,2,3,4,5,6,7,8,9,10,11,12,13],0)],[],[],[(1,4294836224)]⟩) Tryz.func103 ?_;have h8:=hc.1.procs8;have hD:=hc.f.ins;refine NIL.mk rfl<|zab zbM<|zab zbG<|zaa zcv (zaC H.code_at) (xrf _) λv15 hF=>zae u24 hF ?_;have U:=zah w;have H1:=H.step U;have h6:(kc++[sl m c.ins.length]).length=6:=by rw [qag,H.k5];rfl
 have gW:fcB (World.drew1 w) b e (kc++[sl m c.ins.length]) x9 x10 (World.drew1 w):=⟨ChgI.refl _,x6,x7,x8,by rw [qar];exact H1.blk⟩;have hbl:=H1.blk.lt;have hsd:(World.drew1 w).heap.size=w.heap.size:=rfl;refine GPAR.mk (fcB (World.drew1 w) b e (kc++[sl m c.ins.length]) x9 x10) (fcR b e) (fcQ b e c.procs.length) gW (λj w1 w2 h1 h2=>h1.step h6 h2) (λj w1 w2 h=>h.sz) ?_ ?_ ?_
 . intro i j u u' T T' wa wb Y hBa hR hd hq
   match i,Y,hd,hq with
   | 0,_,hd,hq=>exact (hd (0,17) qd).1.trans hq
   | 1,_,hd,hq=>exact (hd (1,18) qd).1.trans hq
   | 2,_,hd,hq=>exact (hd (2,19) qd).1.trans hq
   | 3,_,hd,hq=>exact (hd (3,20) qd).1.trans hq
   | 4,_,hd,⟨g,q1,q2,q3,q4,q5⟩=>
     obtain ⟨e1,e2⟩:=hd (4,21) qd;simp only at e1 e2;exact ⟨g,e1.trans q1,by rw [e2];exact q2,by rw [e2];exact q3,q4,hR.mine q4 q5⟩
   | 5,_,hd,hq=>exact (hd (5,22) qd).1.trans hq
   | 6,_,hd,⟨g,q1,q2,q3,q4,q5⟩=>
     obtain ⟨e1,e2⟩:=hd (6,23) qd;simp only at e1 e2;exact ⟨g,e1.trans q1,by rw [e2];exact q2,by rw [e2];exact q3,q4,hR.mine q4 q5⟩
   | 7,_,hd,hq=>exact (hd (7,24) qd).1.trans hq
   | 8,_,hd,⟨g,q1,q2,q3,q4,q5⟩=>
     obtain ⟨e1,e2⟩:=hd (8,25) qd;simp only at e1 e2;exact ⟨g,e1.trans q1,by rw [e2];exact q2,by rw [e2];exact q3,q4,hR.mine q4 q5⟩
   | 9,_,hd,hq=>exact (hd (9,26) qd).1.trans hq
   | 10,_,hd,hq=>exact (hd (10,27) qd).1.trans hq
   | 11,Y,hd,hq=>
     have e1:=(hd (4,21) qd).1;simp only at e1;show ∃ cs,Blk b e wb cs/\cs[6]?=some (u' 21);rw [e1];exact hR.cell (λhs=>by rcases hs with rfl | rfl | rfl<;>first | exact absurd rfl Y | decide) hq
   | 12,_,hd,hq=>exact (hd (12,28) qd).1.trans hq
   | 13,_,hd,hq=>exact (hd (13,29) qd).1.trans hq
   | 14,Y,hd,hq=>
     have e1:=(hd (6,23) qd).1;simp only at e1;show ∃ cs,Blk b e wb cs/\cs[7]?=some (u' 23);rw [e1];exact hR.cell (λhs=>by rcases hs with rfl | rfl | rfl<;>first | exact absurd rfl Y | decide) hq
   | 15,_,hd,hq=>exact (hd (15,30) qd).1.trans hq
   | 16,_,hd,hq=>exact (hd (16,31) qd).1.trans hq
   | 17,Y,hd,hq=>
     have e1:=(hd (8,25) qd).1;simp only at e1;show ∃ cs,Blk b e wb cs/\cs[8]?=some (u' 25);rw [e1];exact hR.cell (λhs=>by rcases hs with rfl | rfl | rfl<;>first | exact absurd rfl Y | decide) hq
   | n+18,_,_,_=>trivial
 . have nf:∀ j,j≠11->j≠14->j≠17->¬zDJ j:=λj a b d h=>by rcases h with h | h | h<;>contradiction
   refine ⟨?_,?_,?_,?_,?_,?_,?_,?_,?_,?_,?_,?_,?_,?_,?_,?_,?_,?_,trivial⟩
   . exact λu T w' hB hs _ _=>⟨.ext (nf _ qd qd qd) (xrf _),rfl⟩
   . exact λu T w' hB hs _ _=>⟨.ext (nf _ qd qd qd) (xrf _),rfl⟩
   . exact λu T w' hB hs _ _=>⟨.ext (nf _ qd qd qd) (xrf _),rfl⟩
   . exact λu T w' hB hs _ _=>⟨.ext (nf _ qd qd qd) (xrf _),rfl⟩
   . intro u T w' hB hs _ hp
     have q2:u 20=_:=hp.1;rw [q2];exact zd1 h8.2 oo λw4 Z r=>⟨.ext (nf _ qd qd qd) Z,_,rfl,lr _,r.lt _ (qax.2 rfl),by obtain ⟨_,_,_,_,hb⟩:=hB;have:=hb.lt;omega,r⟩
   . exact λu T w' hB hs _ _=>⟨.ext (nf _ qd qd qd) (xrf _),rfl⟩
   . intro u T w' hB hs _ hp
     have q2:u 22=_:=hp.1;rw [q2];exact zd1 h8.2 oo λw4 Z r=>⟨.ext (nf _ qd qd qd) Z,_,rfl,lr _,r.lt _ (qax.2 rfl),by obtain ⟨_,_,_,_,hb⟩:=hB;have:=hb.lt;omega,r⟩
   . exact λu T w' hB hs _ _=>⟨.ext (nf _ qd qd qd) (xrf _),rfl⟩
   . intro u T w' hB hs _ hp
     have q2:u 24=_:=hp.1;rw [q2];exact zd1 h8.2 oo λw4 Z r=>⟨.ext (nf _ qd qd qd) Z,_,rfl,lr _,r.lt _ (qax.2 rfl),by obtain ⟨_,_,_,_,hb⟩:=hB;have:=hb.lt;omega,r⟩
   . intro u T w' hB hs _ hp
     have q:u 17=_:=hp.1;rw [q];exact NIL.mk rfl ⟨.ext (nf _ qd qd qd) (xrf _),rfl⟩
   . intro u T w' hB hs _ hp
     have q:u 26=_:=hp.1;rw [q];exact zab ztw ⟨.ext (nf _ qd qd qd) (xrf _),rfl⟩
   . intro u T w' hB hs _ hp
     have q:u 27=_:=hp.1;obtain ⟨g,q1,_⟩:=hp.2.1;rw [q,q1];refine zpy (j:=11) (.inl rfl) h6 hB λw2 hR hQ=>⟨hR,?_⟩;show ∃ cs,Blk b e w2 cs/\cs[6]?=some (u 21);rw [q1];exact hQ
   . intro u T w' hB hs _ hp
     have q:u 18=_:=hp.1;rw [q];exact NIL.mk rfl ⟨.ext (nf _ qd qd qd) (xrf _),rfl⟩
   . intro u T w' hB hs _ hp
     have q:u 28=_:=hp.1;rw [q];exact zab zxe ⟨.ext (nf _ qd qd qd) (xrf _),rfl⟩
   . intro u T w' hB hs _ hp
     have q:u 29=_:=hp.1;obtain ⟨g,q1,_⟩:=hp.2.1;rw [q,q1];refine zpy (j:=14) (.inr (.inl rfl)) h6 hB λw2 hR hQ=>⟨hR,?_⟩;show ∃ cs,Blk b e w2 cs/\cs[7]?=some (u 23);rw [q1];exact hQ
   . intro u T w' hB hs _ hp
     have q:u 19=_:=hp.1;rw [q];exact NIL.mk rfl ⟨.ext (nf _ qd qd qd) (xrf _),rfl⟩
   . intro u T w' hB hs _ hp
     have q:u 30=_:=hp.1;rw [q];exact zab zqe ⟨.ext (nf _ qd qd qd) (xrf _),rfl⟩
   intro u T w' hB hs _ hp;have q:u 31=_:=hp.1;obtain ⟨g,q1,_⟩:=hp.2.1;rw [q,q1];refine zpy (j:=17) (.inr (.inr rfl)) h6 hB λw2 hR hQ=>⟨hR,?_⟩;show ∃ cs,Blk b e w2 cs/\cs[8]?=some (u 25);rw [q1];exact hQ
 rintro u T w2 hB hs g0 ⟨-,-,-,-,⟨g6,hG,ha6,hb6,hH,hI⟩,-,⟨g7,hJ,ha7,hb7,hK,hL⟩,-,⟨g8,hN,ha8,hb8,hO,hP⟩,-,-,⟨cs6,gX,gb⟩,-,-,⟨cs7,gY,gz⟩,-,-,⟨cs8,gZ,g1⟩,-⟩;have t4:=g0.1 4 qd;have t6:=g0.1 6 qd;have t8:=g0.1 8 qd;have hS:=g0.2 4 qd 6 qd qd;have hV:=g0.2 4 qd 8 qd qd;have hW:=g0.2 6 qd 8 qd qd;obtain ⟨h4,y6,y7,y8,g5⟩:=hB;have u6:=g5.uniq gX;have u7:=g5.uniq gY;have u8:=g5.uniq gZ;subst u6 u7 u8;rw [List.getElem?_append_right (by rw [h6];decide),h6,hG] at gb;rw [List.getElem?_append_right (by rw [h6];decide),h6,hJ] at gz;rw [List.getElem?_append_right (by rw [h6];decide),h6,hN] at g1;have e6:y6=sl g6 c.procs.length:=by simpa using gb
 have e7:y7=sl g7 c.procs.length:=by simpa using gz
 have e8:y8=sl g8 c.procs.length:=by simpa using g1
 subst e6 e7 e8;rw [qar] at g5;have h5:=H1.cells h4 g5;have hml:=H1.live.lt m sS;have hb0:=H.b0;have h9:FC W0 w2 b e c kc m g6 g7 g8 (List.replicate c.procs.length 0) (List.replicate c.procs.length 0) (List.replicate c.procs.length 0) x9 x10:=⟨h5,hI,hL,hP,⟨oo,hH,oo⟩,⟨oo,hK,oo⟩,⟨oo,hO,oo⟩,oo,oo,oo⟩;clear gb gz g1 gX gY gZ g5 h5 h4 H1 gW g0 hS hV hW t4 t6 t8;have hz:∀ op,CS c (List.replicate c.procs.length 0) (fcD c op 0 [] 0):=λop=>CS.zero λq r h=>by unfold fcD at h;simp at h
 have hX:=hz 4;have hY:=hz 5;have hZ:(List.replicate c.procs.length 0).length=c.procs.length:=by simp
 refine zao c.procs.length (λk us w'=>∃ c6 c7,us=[.int .i64 (k:Int)]/\k<=c.procs.length/\FC W0 w' b e c kc m g6 g7 g8 c6 c7 (List.replicate c.procs.length 0) x9 x10/\CS c c6 (fcD c 4 k [] 0)/\CS c c7 (fcD c 5 k [] 0)) 0 (z0 _) ⟨_,_,rfl,z0 _,h9,hX,hY⟩ ?_;rintro p mk u3 w3 ha ⟨c6,c7,hu,j0,g9,gr,gs⟩;try replace hu:=zbt hu
 rw [hu];refine zag<|br (λhlt=>?_) (λhge=>?_)
 . have hp:p<c.procs.length:=oo
   have he:p<c.entry.length:=by rw [hc.2.1.1];exact hp
   refine (zhr g9.wb.wl (xrf _) hc hp).mono ?_;rintro hf w4 ⟨Z,hg⟩;have gc:=g9.step Z;have hM:∀ i,i∈zbd c.ins.length (zaN c p)↔zaN c p i:=λi=>by rw [zaH];exact ⟨λh=>h.2,λh=>⟨(zbV hc he h).1,h⟩⟩
   have hMl:(zbd c.ins.length (zaN c p)).length<=1500:=qan zbg hD;generalize zbd c.ins.length (zaN c p)=M at *;have hg6:=g9.m6.lt g6 sS;have hg7:=g9.m7.lt g7 sS;refine zae u33 hg.is ?_;rw [zaf];refine zao M.length (λj us w'=>∃ c6 c7,us=[.int .i64 (j:Int)]/\j<=M.length/\FC W0 w' b e c kc m g6 g7 g8 c6 c7 (List.replicate c.procs.length 0) x9 x10/\CS c c6 (fcD c 4 p M j)/\CS c c7 (fcD c 5 p M j)/\OwnI w3.heap.size w4.heap.size w' hf (zaT M)) 0 (z0 _) ⟨c6,c7,rfl,z0 _,gc,gr.mono λq r _ _=>zyI q r,gs.mono λq r _ _=>zyI q r,hg.toI⟩ ?_;rintro j mj u5 w5 hjm ⟨g2,X,hu,hjl,D,I,O,hh⟩;try replace hu:=zbt hu
   rw [hu];refine zag<|br (λj1=>?_) (λj2=>?_)
   case refine_2=>
     have j3:j=M.length:=oo
     rw [j3] at I O;refine zau<|⟨mk-1,oo,p+1,oo,g2,X,rfl,oo,D,I.mono λq r _ _=>zyH hc (.inl rfl) hp hM q r,O.mono λq r _ _=>zyH hc (.inr rfl) hp hM q r⟩
   have hj:j<M.length:=oo
   refine zad u33 ty3 (i:=j) hh.is (by rw [zaf];exact hj) λb2 o2 hl=>?_;rw [za3] at hl;refine zac ty3 hl (xrf _) λ_=>?_;have gt:=λx=>zbD hj (x:=x);have j4:=(hM M[j]).1 (qab hj);generalize M[j]=i at *;have gC:=(zbV hc he j4).1;obtain ⟨v4,j5,j6⟩:=D.wb.ins;refine NIL.mk rfl<|zab zbM<|zab zaM<|zax zcQ D.wb.blk j5<|zad u34 zcL j6 gC λb3 o3 hn=>?_;rw [zaz] at hn;refine zaa zcL hn D.wb.ext λv51 hr=>zck zqd rfl zcL rfl hr D.wb.ext λw6 gx ht hv=>?_;have g3:=D.step gx;have hw:=hh.ext gx;have gd:=zgF hr hv rfl;have j7:=hv.lt;have gD:w5.heap.size≠g6:=by have:=D.m6.lt g6 sS;omega
   generalize w5.heap.size=gI at *;refine JOIN.mk (λus w'=>∃ c6',FC W0 w' b e c kc m g6 g7 g8 c6' X (List.replicate c.procs.length 0) x9 x10/\CS c c6' (fcD c 4 p M (j+1))/\OwnI w3.heap.size w4.heap.size w' hf (zaT M)/\AtB W0 w' gI 0 (zam c i)) ?_ ?_
   . refine zab zbp ?_
     refine zac ty3 (zaw ht) (xrf _) λ_=>zai<|br (λc4=>?_) (λc4=>?_)
     . obtain ⟨gE,gf⟩:=zby hc gC (.inl c4)
       have U:=zah w6;have gg:=g3.step U;have j8:=hw.ext U;have gF:=gd.ext U;have gG:gI<(World.drew1 w6).heap.size:=qal j7 U.size;generalize World.drew1 w6=w7 at *;have gh:p<g2.length:=by rw [I.1];exact hp
       refine NIL.mk rfl<|zab ztw<|zax za4 gg.wb.blk (gg.wb.cell 1)<|zad u33 ty3 (i:=p) gg.m6.is (by rw [zaf];exact gh) λb4 o4 gi=>?_;rw [zaR] at gi;refine zac ty3 gi (xrf _) λ_=>?_;have g4:=I.lt0 h8.1 hp;refine zab za8<|zac ty3 (zaq ht) U λ_=>?_;rw [gE];have gH:2^agN c i<256:=qal (qaJ oo gf) (qat (n:=2) oo h8.1);refine zb0 kK zkA oo<|zdF oo<|zgz (m:=zay g2 p) (n:=2^agN c i) oo oo ?_;have gJ:zay g2 p ||| 2^agN c i<256:=qaT (n:=8) g4 gH;refine zb8 (α:=Int) rfl u33 ty3 hp<|zbr (α:=Int) rfl ty3 gg.m6 (by rw [zaf,I.1]) hp (zbY (v:=zay g2 p ||| 2^agN c i) oo) λw8 g1 j9=>?_;have ja:=gg.set6 (v:=zay g2 p ||| 2^agN c i) g1 j9;exact ⟨_,ja,I.set hp gf λq r=>zyG gt c4 q r,j8.chgF g1 (by simp;omega),gF.keep (g1.block gI gG (by simp;exact gD))⟩
     exact ⟨g2,g3,I.mono λq r _ _=>zCa gt c4 q r,hw,gd⟩
   rintro u9 w9 ⟨hx,gK,gj,hy,gM⟩;have gl:=gM.at gK.wb.ext;refine zab zbp<|zac ty3 (zaw gl) (xrf _) λ_=>zai<|br (λc5=>?_) (λc5=>?_)
   . obtain ⟨gE,gf⟩:=zby hc gC (.inr c5)
     have U:=zah w9;have V:=gK.step U;have gN:=hy.ext U;generalize World.drew1 w9=w10 at *;have gh:p<X.length:=by rw [O.1];exact hp
     refine NIL.mk rfl<|zab zxe<|zax za4 V.wb.blk (V.wb.cell 2)<|zad u33 ty3 (i:=p) V.m7.is (by rw [zaf];exact gh) λb4 o4 gi=>?_;rw [zaR] at gi;refine zac ty3 gi (xrf _) λ_=>?_;have g4:=O.lt0 h8.1 hp;refine zab za8<|zac ty3 (zaq gl) U λ_=>?_;rw [gE];have gH:2^agN c i<256:=qal (qaJ oo gf) (qat (n:=2) oo h8.1);refine zb0 kK zkA oo<|zdF oo<|zgz (m:=zay X p) (n:=2^agN c i) oo oo ?_;have gJ:zay X p ||| 2^agN c i<256:=qaT (n:=8) g4 gH;refine zb8 (α:=Int) rfl u33 ty3 hp<|zbr (α:=Int) rfl ty3 V.m7 (by rw [zaf,O.1]) hp (zbY (v:=zay X p ||| 2^agN c i) oo) λw11 gp gO=>?_;have gP:=V.set7 (v:=zay X p ||| 2^agN c i) gp gO;refine zau<|⟨mj-1,oo,j+1,oo,hx,_,rfl,oo,gP,gj,O.set hp gf λq r=>zyG gt c5 q r,gN.chgF gp (by simp;omega)⟩
   refine zau<|⟨mj-1,oo,j+1,oo,hx,X,rfl,oo,gK,gj,O.mono λq r _ _=>zCa gt c5 q r,hy⟩
 have gQ:p=c.procs.length:=oo
 rw [gQ] at gr gs;rw [gr.done,gs.done] at g9;clear gr gs h9 ha hu;have jb:CS c (List.replicate c.procs.length 0) (λq r=>q<0/\FromP c q r):=CS.zero λq r h=>oo
 generalize List.replicate c.procs.length 0=c8 at *;refine zao c.procs.length (λk us w'=>∃ c8,us=[.int .i64 (k:Int)]/\k<=c.procs.length/\FC W0 w' b e c kc m g6 g7 g8 (cls c 4) (cls c 5) c8 x9 x10/\CS c c8 (λq r=>q<k/\FromP c q r)) 0 (z0 _) ⟨_,rfl,z0 _,g9,jb⟩ ?_;rintro k mk u4 w4 ha ⟨gR,hu,j0,gc,C⟩;try replace hu:=zbt hu
 rw [hu];refine zag<|br (λjc=>?_) (λjd=>?_)
 case refine_2=>
   have gQ:k=c.procs.length:=oo
   rw [gQ] at C
   have:gR=frs c:=by
     refine qaO (by rw [C.1,zkd]) λi h1 h2=>?_;have hi:i<c.procs.length:=by rw [<-C.1];exact h1
     rw [zbl h1,zbl h2,zt8 hi,C.2 i hi];exact zbC λr _=>⟨λh=>h.2,λh=>⟨hi,h⟩⟩
   rw [this] at gc;exact ⟨rfl,g6,g7,g8,gc⟩
 have hk:k<c.procs.length:=oo
 refine zb0 kK zkA oo<|zdF oo ?_;have hU:=UM.start (c:=c) hk;have je:2^c.procs.length<=256:=qat (n:=2) oo h8.1;refine LOOPI.mk (λmm us w'=>∃ (s:Nat) (ag:Bool),us=[.int .i64 (s:Int),.bool ag]/\mm=(256-s)+(if ag then 1 else 0)/\FC W0 w' b e c kc m g6 g7 g8 (cls c 4) (cls c 5) gR x9 x10/\UM c k s/\(ag=false->s=zcR (FromP c k) c.procs.length)) (256-2^k+1) ⟨2^k,true,rfl,rfl,gc,hU,λe=>by cases e⟩ ?_;rintro mm u5 w5 ⟨s,ag,hu,hm,D,gy,gS⟩;obtain ⟨jf,jg⟩:=zcB hu;rw [jf,jg];have gq:s<256:=qal gy.lt je;refine zbz (λgU=>?_) (λgU=>?_)
 . rw [gU,if_pos rfl] at hm
   refine NIL.mk rfl<|zab ztw<|zax za4 D.wb.blk (D.wb.cell 1) ?_;refine (zhT D.m6.is (xrf _) (zur h8.1 4) (by rw [zhs];exact h8.1) (m:=s) (by rw [zhs];exact gy.lt)).mono ?_;rintro _ w6 ⟨gx,rfl⟩;have g3:=D.step gx;have gJ:=zt5 (zur h8.1 4) (zbJ s);have hC:=gy.more h8.1;have gV:=gy.fin h8.1;have jh:=λh=>zAd (m:=orL (cls c 4) (zbJ s)) (n:=s) h;refine zgz (m:=s) (n:=orL (cls c 4) (zbJ s)) oo oo ?_;have ji:s ||| orL (cls c 4) (zbJ s)<256:=qaT (n:=8) gq gJ;generalize s ||| orL (cls c 4) (zbJ s)=t at *;refine zaP ?_;by_cases hts:t=s
   . refine ⟨256-t,oo,t,_,rfl,?_,g3,hC,λ_=>by rw [hts];exact gV hts⟩
     rw [hts];simp
   have hd:decide ((t:Int)≠(s:Int))=true:=decide_eq_true λh=>hts (qaY.1 h);have:=jh hts;rw [hd];exact ⟨256-t+1,oo,t,true,rfl,rfl,g3,hC,λe=>by cases e⟩
 have jj:=gS gU;have gh:k<gR.length:=by rw [C.1];exact hk
 refine NIL.mk rfl<|zab zqe<|zax za4 D.wb.blk (D.wb.cell 3)<|zb8 (α:=Int) rfl u33 ty3 hk<|zbr (α:=Int) rfl ty3 D.m8 (by rw [zaf,C.1]) hk (zbY (v:=s) oo) λw6 gb jk=>?_;have g3:=D.set8 (v:=s) gb jk;refine zau<|⟨mk-1,oo,k+1,oo,_,rfl,oo,g3,by simp [C.1],λq hq=>?_⟩;rw [zb9 gh];split
 . rename_i e
   subst e;rw [jj];exact zbC λr _=>⟨λh=>⟨oo,h⟩,λh=>h.2⟩
 rename_i e
 rw [C.2 q hq];exact zbC λr _=>⟨λh=>⟨oo,h.2⟩,λh=>⟨oo,h.2⟩⟩
end Go.Proofs.YtcnglfeoglgebaaGreat
