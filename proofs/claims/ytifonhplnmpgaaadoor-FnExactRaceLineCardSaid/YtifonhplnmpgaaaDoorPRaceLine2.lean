/-
  Parts of the proof, put together by program.
-/
import Derived.Test.YtifonhplnmpgaaaDoorPRaceLine1
set_option linter.unusedVariables false
set_option linter.unusedSimpArgs false
set_option linter.unusedSectionVars false
namespace Go.Sh
open Go.RowKit (Below)
open Rep (rep)
theorem zfy (off:Nat):∀ (l:List Value) (k:Nat) (cs:Array Value),
   ((l.zipIdx k).foldl (fun (cs:Array Value) (p:Value×Nat)=>cs.setIfInBounds (off+p.2) p.1) cs).size=cs.size ∧
   ∀ i,((l.zipIdx k).foldl (fun (cs:Array Value) (p:Value×Nat)=>cs.setIfInBounds (off+p.2) p.1) cs)[i]?=if off+k≤i∧i<off+k+l.length∧i<cs.size then l[i-(off+k)]? else cs[i]?
 | [],k,cs=>by
   refine ⟨rfl,fun i=>?_⟩
   rw [if_neg (by simp;omega)]
   rfl
 | v :: l,k,cs=>by
   obtain ⟨h1,h2⟩:=zfy off l (k+1) (cs.setIfInBounds (off+k) v)
   simp only [List.zipIdx_cons,List.foldl_cons]
   refine ⟨by rw [h1];simp,fun i=>?_⟩
   rw [h2]
   simp only [Array.size_setIfInBounds,List.length_cons]
   by_cases hi:i=off+k
   · subst hi
     rw [if_neg (by omega)]
     by_cases hs:off+k<cs.size
     · rw [if_pos (by omega)];simp [hs]
     rw [if_neg (by omega),Array.getElem?_eq_none (by rw [Array.size_setIfInBounds];omega),Array.getElem?_eq_none (by omega)]
   by_cases hr:off+(k+1)≤i∧i<off+(k+1)+l.length∧i<cs.size
   · rw [if_pos hr,if_pos (by omega)]
     have:i-(off+k)=(i-(off+(k+1)))+1:=by omega
     rw [this,List.getElem?_cons_succ]
   rw [if_neg hr,if_neg (by omega),Array.getElem?_setIfInBounds_ne (by omega)]
theorem zgW (v:Value) (cells:Array Value) (s:Nat) (hv:v.cells.size=s) (hc:cells.size=s):Instr.fill (fun i=>some (i*s,s)) cells [(0,v)]=some v.cells:=by
 unfold Instr.fill
 simp only [Nat.zero_mul]
 rw [if_neg (by simp;omega)]
 unfold Instr.fill
 congr 1
 obtain ⟨h1,h2⟩:=zfy 0 v.cells.toList 0 cells
 have e:v.cells.zipIdx.foldl (fun (cs:Array Value) (x:Value×Nat)=>match x with | (c,j)=>cs.setIfInBounds (0+j) c) cells
     = (v.cells.toList.zipIdx 0).foldl (fun (cs:Array Value) (p:Value×Nat)=>cs.setIfInBounds (0+p.2) p.1) cells:=by
   rw [←Array.foldl_toList,Array.toList_zipIdx]
 rw [e]
 apply Array.ext_getElem?
 intro i
 rw [h2]
 by_cases hi:i<s
 · rw [if_pos (by simp;omega)];simp
 rw [if_neg (by simp;omega),Array.getElem?_eq_none (by omega),Array.getElem?_eq_none (by omega)]
abbrev Up (lo:Nat) (w w':World):Prop:=ChgI lo w.heap.size w w'
section
variable {w w' w'':World} {lo hi a b:Nat}
theorem Up.refl (lo:Nat) (w:World):Up lo w w:=ChgI.refl w
theorem ChgI.up (h:ChgI lo hi w w'):Up lo w w':=⟨h.os,h.tape,h.output,h.size,fun i hi' ho=>h.block i hi' (by omega)⟩
theorem Up.step (h:Up lo w w') (k:ChgI a b w' w'') (hl:lo≤a):Up lo w w'':=
 ⟨k.os.trans h.os,k.tape.trans h.tape,k.output.trans h.output,Nat.le_trans h.size k.size,fun i hi' ho=>(k.block i (Nat.lt_of_lt_of_le hi' h.size) (by omega)).trans (h.block i hi' ho)⟩
theorem Up.ext (h:Up lo w w') (k:Ext w' w''):Up lo w w'':=
 ⟨k.os.trans h.os,k.tape.trans h.tape,k.output.trans h.output,Nat.le_trans h.size k.size,fun i hi' ho=>(k.block i (Nat.lt_of_lt_of_le hi' h.size)).trans (h.block i hi' ho)⟩
end
def RowI {α:Type} [Rep α] (lo hi:Nat) (e:TypeId) (w:World) (v:Value) (l:List α):Prop:=(∃ a,v=.slice a 0 0∧l=[])∨∃ F,RowF F e w v l∧F.Nodup∧∀ b∈F,lo≤b∧b<hi
section
variable {P:Program} {w w0 w':World} {α:Type} [Rep α] {lo hi a b e:Nat} {v:Value} {l:List α}
theorem zgc (a:Option Addr):OwnI (α:=List α) lo hi w (.slice a 0 0) []:=
 ⟨[],⟨⟨_,⟨a,0,[],[],rfl,Nat.le_refl _,Nat.zero_le _,⟨rfl,rfl⟩,.inl ⟨rfl,rfl⟩⟩,rfl⟩,List.nodup_nil,Wr.nil w⟩,by simp⟩
theorem Row.toI (h:Row lo e w v l):RowI lo w.heap.size e w v l:=by
 obtain ⟨F,h1,h2,h3⟩:=h;exact .inr ⟨F,h1,h2,fun b hb=>⟨h3 b hb,h1.lt b hb⟩⟩
theorem RowI.ext (h:RowI lo hi e w v l) (hx:Ext w w'):RowI lo hi e w' v l:=by
 rcases h with h | ⟨F,h1,h2,h3⟩
 · exact .inl h
 exact .inr ⟨F,h1.ext hx,h2,h3⟩
theorem RowI.chg (h:RowI lo hi e w v l) (hc:ChgI a b w w') (hd:hi≤a∨b≤lo):RowI lo hi e w' v l:=by
 rcases h with h | ⟨F,h1,h2,h3⟩
 · exact .inl h
 exact .inr ⟨F,h1.keep fun c hcm=>hc.block c (h1.lt c hcm) (by have:=h3 c hcm;omega),h2,h3⟩
theorem RowI.own (h:RowI lo hi e w v l):OwnI lo hi w v l:=by
 rcases h with ⟨a,rfl,rfl⟩ | ⟨F,h1,h2,h3⟩
 · exact zgc a
 exact ⟨F,⟨h1.own,h2,h1.wr⟩,h3⟩
theorem RowI.is (h:RowI lo hi e w v l):Is w v l:=h.own.is
theorem RowI.mono {lo' hi':Nat} (h:RowI lo hi e w v l) (h1:lo'≤lo) (h2:hi≤hi'):RowI lo' hi' e w v l:=by
 rcases h with h | ⟨F,h1,h2,h3⟩
 · exact .inl h
 exact .inr ⟨F,h1,h2,fun b hb=>by have:=h3 b hb;omega⟩
theorem zeu {t:TypeId} {by_:Nat} {u:Value} {x:α} {K:Value→World→Prop} (ht:P.underlying t=some (.slice e)) (he:tyI P e=some (Rep.size α,by_,Rep.agg α)) (hz:zbu P e=true) (hsz:Rep.size α≤1000)
   {F:List Nat} (hx:Mine F w u x)
   (k:∀ w',Ext w w'→Mine (w.heap.size :: F) w' (.slice (some ⟨w.heap.size,0,none⟩) 1 1) [x]→K (.slice (some ⟨w.heap.size,0,none⟩) 1 1) w'):OP P (Instr.buildSlice t 1 #[(0,u)]) w K:=by
 obtain ⟨⟨cs,hr,rfl⟩,hn,hw⟩:=hx
 have hcl:=zcA hr
 have hlen:=Rep.len hr
 have hvs:(mkv α cs).cells.size=Rep.size α:=by rw [←Array.length_toList,hcl,hlen]
 obtain ⟨i,d,hi,hd,hs,hby,hg⟩:=zbt he
 unfold zbu at hz
 rw [hi] at hz
 obtain ⟨z,hz⟩:=Option.isSome_iff_exists.1 hz
 have hpos:=Rep.pos (α:=α)
 refine ⟨_,w.alloc (.cells (mkv α cs).cells e),?_,k _ (zaN w _) ?_⟩
 · have hne:¬Rep.size α=0:=by omega
   have h24:¬2^24<Rep.size α:=by omega
   simp only [Instr.buildSlice,Sem.run_bind,run_underlying ht,Result.andThen_ok,zaP he,Nat.one_mul]
   simp [h24,hne,zeroValue,typeInfo,hi,hz,zgW _ _ _ hvs,newRow]
 have hx:=zaN w (.cells (mkv α cs).cells e)
 have hB:(w.alloc (.cells (mkv α cs).cells e)).heap[w.heap.size]?=some (.cells (mkv α cs).cells e (0,0)):=heap_alloc_new w _
 have hFlt:=Rep.lt hr
 refine ⟨⟨_,⟨_,1,F,cs,rfl,Nat.le_refl _,by rw [zaE];omega,Cells.single (za5 hr hx),.inr ⟨w.heap.size,0,rfl,rfl,?_,?_⟩⟩,rfl⟩,?_,?_⟩
 · intro j y hy
   simp only [World.cell?,hB]
   rw [←hcl] at hy
   simpa using hy
 · exact (Array.getElem?_eq_some_iff.1 hB).1
 · exact List.nodup_cons.2 ⟨fun h=>by have:=hFlt _ h;omega,hn⟩
 intro c hc
 rcases List.mem_cons.1 hc with rfl | hc
 · exact ⟨_,_,hB⟩
 exact hw.ext hx c hc
theorem zfO {t:TypeId} {by_:Nat} {u:Value} {x:α} {K:Value→World→Prop} (ht:P.underlying t=some (.slice e)) (he:tyI P e=some (Rep.size α,by_,Rep.agg α)) (hz:zbu P e=true) (hsz:Rep.size α≤1000)
   (hx:OwnI lo hi w u x) (hlo:lo≤w.heap.size)
   (k:∀ v w',Ext w w'→OwnI lo w'.heap.size w' v [x]→K v w'):OP P (Instr.buildSlice t 1 #[(0,u)]) w K:=by
 obtain ⟨F,hm,hF⟩:=hx
 refine zeu ht he hz hsz hm fun w' hxx hm'=>k _ w' hxx ⟨_,hm',fun b hb=>⟨?_,hm'.lt b hb⟩⟩
 rcases List.mem_cons.1 hb with rfl | hb
 · exact hlo
 exact (hF b hb).1
theorem zgd {a:Option Addr} {cap:Nat} {l:List α} (h:Is w (.slice a l.length cap) l) (k:Nat) (hk:k≤l.length):Is w (.slice a k cap) (l.take k):=by
 obtain ⟨F,cs,⟨a',cap',Fi,xs,rfl,h1,h2,hc,h4⟩,hv⟩:=h
 simp only [mkv,Rep.agg,cond_false,List.headD_cons,Value.slice.injEq] at hv
 obtain ⟨rfl,_,rfl⟩:=hv
 have e:l=l.take k++l.drop k:=by simp
 have hlen:(l.take k).length=k:=by simp;omega
 rw [e] at hc
 obtain ⟨F1,F2,x1,x2,rfl,rfl,c1,c2⟩:=Cells.split hc
 by_cases hd:l.take k=[]
 · refine ⟨[],_,⟨a,cap,F1,x1,rfl,by rw [hlen];omega,h2,c1,.inl ⟨hd,rfl⟩⟩,?_⟩
   rw [hlen];rfl
 rcases h4 with ⟨rfl,_⟩ | ⟨b,o,rfl,rfl,hr,hb⟩
 · simp at hd
 refine ⟨_,_,⟨some ⟨b,o,none⟩,cap,F1,x1,rfl,by rw [hlen];omega,h2,c1,.inr ⟨b,o,rfl,rfl,(zap hr).1,hb⟩⟩,?_⟩
 rw [hlen];rfl
theorem ze6 {t:TypeId} {by_:Nat} {v:Value} {l:List α} {i:Int} {K:Value→Prop} (ht:P.underlying t=some (.slice e)) (he:tyI P e=some (Rep.size α,by_,Rep.agg α)) (h:Is w0 v l) (h0:0≤i) (h1:i.toNat≤l.length)
   (k:∀ v',Is w0 v' (l.take i.toNat)→K v'):RD P (Instr.sliceAt t v none (some (.int .i64 i)) none) w K:=by
 obtain ⟨a,cap,Fi,xs,rfl,hc1,hcm,_,h4⟩:=zbV h
 have hb:∀ w',(Instr.sliceBounds true l.length cap none (some (.int .i64 i)) none).run P w'=.ok (0,i.toNat,cap) w':=fun w'=>by
   have:i≤(cap:Int):=by omega
   simp [Instr.sliceBounds,Instr.sliceBound,asIntOf,h0,this]
 refine zaT (v:=.slice a i.toNat cap) (fun w' _=>?_) (k _ (zgd h i.toNat h1))
 have hz:(if cap=0 then a else a.map (fun x=>x.add (0*Rep.size α)))=a:=by
   split
   · rfl
   cases a<;>simp [Addr.add_mid,Addr.add]
 simp only [Instr.sliceAt,Instr.slice,Sem.run_bind,run_underlying ht,Result.andThen_ok,hb,zaP he]
 simp
 exact fun _=>by cases a<;>simp [Addr.add_mid,Addr.add]
theorem zd6 {t:TypeId} {by_:Nat} {v:Value} {l:List α} {i j:Int} {K:Value→Prop} (ht:P.underlying t=some (.slice e)) (he:tyI P e=some (Rep.size α,by_,Rep.agg α)) (h:Is w0 v l) (h0:0≤i) (h1:i≤j) (h2:j.toNat≤l.length)
   (k:∀ v',Is w0 v' ((l.take j.toNat).drop i.toNat)→K v'):RD P (Instr.sliceAt t v (some (.int .i64 i)) (some (.int .i64 j)) none) w K:=by
 obtain ⟨a,cap,Fi,xs,rfl,hc1,hcm,_,h4⟩:=zbV h
 have hb:∀ w',(Instr.sliceBounds true l.length cap (some (.int .i64 i)) (some (.int .i64 j)) none).run P w'=.ok (i.toNat,j.toNat,cap) w':=fun w'=>by
   have h3:j≤(cap:Int):=by omega
   have h5:0≤j:=by omega
   simp [Instr.sliceBounds,Instr.sliceBound,asIntOf,h0,h1,h3,h5]
   intro h6
   omega
 have hl:(l.take j.toNat).length=j.toNat:=by rw [List.length_take];omega
 have ht1:Is w0 (.slice a (l.take j.toNat).length cap) (l.take j.toNat):=by rw [hl];exact zgd h j.toNat h2
 have hd:=zf4 ht1 i.toNat (by omega) (Rep.size α) rfl
 rw [hl] at hd
 refine zaT (fun w' _=>?_) (k _ hd)
 simp only [Instr.sliceAt,Instr.slice,Sem.run_bind,run_underlying ht,Result.andThen_ok,hb,zaP he]
 simp
def AtB {α:Type} [Rep α] (W w:World) (b o:Nat) (x:α):Prop:=∃ F cs,rep F W cs x∧w.rangeAt b o cs
theorem AtB.keep {W w':World} {b o:Nat} {x:α} (h:AtB W w b o x) (hb:w'.heap[b]?=w.heap[b]?):AtB W w' b o x:=by
 obtain ⟨F,cs,hr,ha⟩:=h;exact ⟨F,cs,hr,zba ha hb⟩
theorem AtB.ext {W:World} {b o:Nat} {x:α} (h:AtB W w b o x) (hx:Ext w w'):AtB W w' b o x:=by
 obtain ⟨F,cs,hr,ha⟩:=h;exact ⟨F,cs,hr,zaO ha hx⟩
theorem AtB.at {W:World} {b o:Nat} {x:α} (h:AtB W w b o x) (hx:Ext W w):At w b o x:=by
 obtain ⟨F,cs,hr,ha⟩:=h;exact ⟨F,cs,za5 hr hx,ha⟩
theorem AtB.fst {β:Type} [Rep β] {W:World} {b o:Nat} {p:α×β} (h:AtB W w b o p):AtB W w b o p.1:=by
 obtain ⟨F,cs,⟨F1,F2,c1,c2,rfl,rfl,h1,h2⟩,hr⟩:=h
 exact ⟨F1,c1,h1,(zap hr).1⟩
theorem AtB.snd {β:Type} [Rep β] {W:World} {b o:Nat} {p:α×β} (h:AtB W w b o p):AtB W w b (o+Rep.size α) p.2:=by
 obtain ⟨F,cs,⟨F1,F2,c1,c2,rfl,rfl,h1,h2⟩,hr⟩:=h
 have:=(zap hr).2
 rw [Rep.len h1] at this
 exact ⟨F2,c2,h2,this⟩
theorem zev {W:World} {t by_ b o:Nat} {x:α} {K:Value→Prop} (ht:tyI P t=some (Rep.size α,by_,Rep.agg α)) (h:AtB W w0 b o x) (hW:Ext W w0) (hx:Ext w0 w) (k:∀ v,Is W v x→K v) :
   RD P (Instr.loadAt t (.pointer (some ⟨b,o,none⟩))) w K:=by
 obtain ⟨F,cs,hr,hc⟩:=h
 exact zaT (fun w' hx'=>zbl ht (za5 hr (hW.trans (hx.trans hx'))) (zaO hc (hx.trans hx'))) (k _ ⟨F,cs,hr,rfl⟩)
theorem zge {W w1:World} {g:Nat} {x:α} {t:TypeId} (h:Is W v x) (hV:Var P t w1 g v) (ha:Rep.agg α=true):AtB W w1 g 0 x:=by
 obtain ⟨F,cs,hr,rfl⟩:=h
 obtain ⟨e,cs',_,hB,hv,_⟩:=hV
 have:cs'=cs:=by
   simp only [mkv,ha,cond_true,Value.agg.injEq] at hv
   have:=congrArg Array.toList hv
   simpa using this.symm
 subst this
 exact ⟨F,_,hr,hB.range⟩
theorem zgf [RepZ α] {t:TypeId} {fs:Array Field} {K:Value→Prop} (hu:P.underlying t=some (.struct fs)) (hz:zde P t=some (RepZ.zc α)) (hf:(fs.toList.all fun f=>(P.info? f.type).isSome)=true) (ha:Rep.agg α=true)
   (k:∀ v,Is w v (RepZ.zv:α)→K v):RD P (Instr.build t #[]) w K:=by
 unfold zde at hz
 cases hi:P.info? t with
 | none=>simp [hi] at hz
 | some i=>
   simp only [hi] at hz
   obtain ⟨z,hz',hzc⟩:=Option.map_eq_some_iff.1 hz
   have hm:∀ w',∃ ps,(fs.mapM fun f=>do pure (f.offset,←sizeOf f.type):Sem (Array (Nat×Nat))).run P w'=.ok ps w':=by
     intro w'
     have:∀ l:List Field,(l.all fun f=>(P.info? f.type).isSome)=true→∃ ps,(l.mapM fun f=>do pure (f.offset,←sizeOf f.type):Sem (List (Nat×Nat))).run P w'=.ok ps w':=by
       intro l
       induction l with
       | nil=>intro _;exact ⟨[],by simp⟩
       | cons f l ih=>
         intro h
         simp only [List.all_cons,Bool.and_eq_true] at h
         obtain ⟨j,hj⟩:=Option.isSome_iff_exists.1 h.1
         obtain ⟨ps,hps⟩:=ih h.2
         have hsz:(sizeOf f.type).run P w'=.ok j.size w':=by simp [sizeOf,typeInfo,hj]
         exact ⟨(f.offset,j.size) :: ps,by simp only [List.mapM_cons,Sem.run_bind,hsz,Result.andThen_ok,Sem.run_pure,hps]⟩
     obtain ⟨ps,hps⟩:=this fs.toList hf
     exact ⟨ps.toArray,by rw [Array.mapM_eq_mapM_toList];simp only [map_eq_pure_bind,Sem.run_bind,hps,Result.andThen_ok,Sem.run_pure]⟩
   refine zaT (v:=mkv α (RepZ.zc α)) (fun w' _=>?_) (k _ ⟨[],_,RepZ.zr w,rfl⟩)
   obtain ⟨ps,hps⟩:=hm w'
   have e:z.cells=(RepZ.zc α).toArray:=by rw [←hzc]
   have hzv:(zeroValue t).run P w'=.ok z w':=by simp [zeroValue,typeInfo,hi,hz']
   simp only [Instr.build,Sem.run_bind,hzv,Result.andThen_ok,run_underlying hu,hps]
   simp [Instr.fill,mkv,ha,e]
end
end Go.Sh
namespace Go.Sh
open Go.RowKit (Below)
open Rep (rep)
section
variable {P:Program} {w w0 w':World} {α β γ:Type} [Rep α] [Rep β]
theorem Chg.sub {F G:List Nat} {a b c:World} (h:Chg F a b) (k:Chg G b c) (hs:∀ x∈G,x∈F):Chg F a c:=h.trans (k.mono hs)
theorem Var.chgI {t g a b:Nat} {v:Value} (h:Var P t w g v) (hc:ChgI a b w w') (hd:g<a∨b≤g):Var P t w' g v:=h.keep (hc.block g h.lt hd)
end
end Go.Sh
namespace Go.Sh
open Rep (rep)
instance:Rep UInt8 where
 size:=1
 agg:=false
 rep F _ cs x:=F=[]∧cs=[.int .u8 (x.toNat:Int)]
 pos:=by decide
 sz _:=rfl
 len:=by rintro _ _ _ _ ⟨_,rfl⟩;rfl
 one:=by rintro _ _ _ _ ⟨_,rfl⟩ v hv;simp at hv;subst hv;rfl
 keep:=by rintro _ _ _ _ _ h _;exact h
 lt:=by rintro _ _ _ _ ⟨rfl,_⟩ b hb;cases hb
instance:Flat UInt8:=⟨fun h=>h.1⟩
instance:RepZ UInt8:=⟨0,[.int .u8 0],fun _=>⟨rfl,rfl⟩⟩
section
variable {P:Program} {w w0:World} {K:Value→Prop} {t:TypeId} {x y:Operand}
theorem zhH {b:UInt8}:Mine [] w (.int .u8 (b.toNat:Int)) b:=⟨⟨_,⟨rfl,rfl⟩,rfl⟩,List.nodup_nil,Wr.nil w⟩
theorem zhI {lo hi:Nat} {b:UInt8}:OwnI lo hi w (.int .u8 (b.toNat:Int)) b:=⟨[],zhH,by simp⟩
theorem zhJ {src dst:TypeId} {n:Nat} (hs:(P.underlying src).isSome=true) (hd:P.underlying dst=some (.int .u8)) (hn:n<256) (k:K (.int .u8 ((UInt8.ofNat n).toNat:Int))):RD P (convert src dst (.int .i64 (n:Int))) w K:=by
 refine zaT (fun w' _=>?_) k
 obtain ⟨d,hd'⟩:=Option.isSome_iff_exists.mp hs
 have h1:IntKind.u8.wrap (n:Int)=n:=by simp [IntKind.wrap,IntKind.signed,IntKind.bits];omega
 have h2:(UInt8.ofNat n).toNat=n:=by simp;omega
 simp [convert,run_underlying hd',run_underlying hd,Conv.intToInt,h1]
 omega
theorem ze7 {src dst e:TypeId} {v:Value} {l:List UInt8} (hs:P.underlying src=some (.slice e)) (he:P.underlying e=some (.int .u8)) (hd:P.underlying dst=some .string) (h:Is w0 v l) (hx:Ext w0 w)
   (k:K (.string ⟨l.toArray⟩)):RD P (convert src dst v) w K:=by
 obtain ⟨a,cap,Fi,xs,rfl,h1,h2,hc,h4⟩:=zbV h
 have hcells:∀ {l:List UInt8} {F:List Nat} {xs:List Value},Cells F w0 xs l→xs=l.map fun b=>Value.int .u8 (b.toNat:Int):=by
   intro l
   induction l with
   | nil=>rintro _ _ ⟨_,rfl⟩;rfl
   | cons b l ih=>
     rintro _ _ ⟨F1,F2,c1,c2,_,rfl,⟨_,rfl⟩,h⟩
     rw [ih h];rfl
 have hxs:=hcells hc
 refine zaT (fun w' hx'=>?_) k
 rcases h4 with rfl | ⟨b,o,rfl,hr,hb⟩
 · cases a with
   | none=>exact run_convert_bytes_nil w' src e hs he _ _ dst hd
   | some a=>
     rw [run_convert_bytes_string w' src dst e _ _ cap hs he hd]
     have:=run_bytesToString (P:=P) w' a 0 cap [] (by simp [loadCells,loadCellsFrom])
     exact this
 have:=run_convert_bytes_arg w' src e hs he b o l.length cap (l.map fun b=>(b.toNat:Int)) (by simp) (fun i hi=>by
   have hr':=zaO (zaO hr hx) hx'
   have:=hr' i (.int .u8 (l[i].toNat:Int)) (by rw [hxs];simp [hi])
   rw [this]
   simp [List.getD,hi]) dst hd
 rw [this]
 have e:strOfNums (l.map fun b=>(b.toNat:Int))=⟨l.toArray⟩:=by
   unfold strOfNums
   congr 2
   rw [List.map_map]
   conv=>rhs;rw [←List.map_id l]
   congr 1
   funext b
   simp
 rw [e]
theorem za7 {a b:ByteArray} (h:a.size+b.size≤9223372036854775807) (k:K (.string (a++b))):RD P (bin .add t x y (.string a) (.string b)) w K:=
 zaT (fun w' _=>by
   have hh:¬(((a.size+b.size:Nat):Int)>IntKind.i64.max):=by
     have:IntKind.i64.max=9223372036854775807:=by decide
     omega
   show (do eqGuard .add t x y (.string a) (.string b);binOp .add t (.string a) (.string b):Sem Value).run P w'=_
   simp only [eqGuard,binOp,Op.stringOp,hh,if_false]
   rfl) k
theorem zie {a b:Int} (hb:b≠0) (h:I64 (a.tdiv b)) (k:K (.int .i64 (a.tdiv b))):RD P (bin .quo t x y (.int .i64 a) (.int .i64 b)) w K:=
 zaT (fun w' _=>by simp [bin,eqGuard,binOp,Op.intDiv,hb,IntWalk.i64_in _ h]) k
end
end Go.Sh
namespace Go.Proofs.YtifonhplnmpgaaaDoor
open Go Go.Sh Go.Proofs
open Rep (rep)
def F20 (a0:Value) (w:World) (R:VW):Prop:=
 cL 33 [a0] w fun x4 w=>
 R x4 w
def cfg20:Cfg:=⟨extL,[],[],[],[],[],[]⟩
theorem F20_call {a0:Value} {w:World} {R:VW} (h:F20 a0 w R):cL 20 [a0] w R:=co (g:=cfg20) Tryd.func20 (by kernel_rfl) (by kernel_rfl) (by kernel_rfl) h
def F27 (a0:Value) (w:World) (R:VW):Prop:=
 rB .lss 3 T0 U0 a0 (iV 10) w fun x4=>
 BR x4
 (rB .add 3 U0 T0 (iV 48) a0 w fun x6=>
 rD (convert 3 5 x6) w fun x7=>
 R x7 w)
 (rB .add 3 U0 T0 (iV 97) a0 w fun x9=>
 rB .sub 3 T0 U0 x9 (iV 10) w fun x10=>
 rD (convert 3 5 x10) w fun x11=>
 R x11 w)
def cfg27:Cfg:=⟨extL,[],[],[],[],[],[]⟩
theorem F27_call {a0:Value} {w:World} {R:VW} (h:F27 a0 w R):cL 27 [a0] w R:=co (g:=cfg27) Tryd.func27 (by kernel_rfl) (by kernel_rfl) (by kernel_rfl) h
def F15 (a0:Value) (w:World) (R:VW):Prop:=
 rB .eql 3 T0 U0 a0 (iV 0) w fun x7=>
 BR x7
 (R (Value.string (ByteArray.mk #[48])) w)
 (rB .lss 3 T0 U0 a0 (iV 0) w fun x9=>
 LOOPI [0,4] [a0,(Value.string (ByteArray.mk #[]))] w fun u5 w next5=>
 rB .neq 3 T0 U0 (u5 0) (iV 0) w fun x11=>
 BR x11
 (rB .rem 3 T0 U0 (u5 0) (iV 10) w fun x13=>
 JOIN [5] (fun J9=>
 rB .lss 3 T0 U0 x13 (iV 0) w fun x15=>
 BR x15
 (rD (Op.unary .neg x13) w fun x17=>
 J9 [x17] w)
 (J9 [x13] w)) (fun u9 w=>
 cL 27 [(u9 5)] w fun x19 w=>
 oP (Instr.buildSlice 59 1 #[(0,x19)]) w fun x20 w=>
 rD (convert 59 9 x20) w fun x21=>
 rB .add 9 T0 T0 x21 (u5 4) w fun x23=>
 rB .quo 3 T0 U0 (u5 0) (iV 10) w fun x25=>
 next5 [x25,x23] w))
 (BR x9
 (rB .add 9 U0 T0 (Value.string (ByteArray.mk #[45])) (u5 4) w fun x28=>
 R x28 w)
 (R (u5 4) w)))
def cfg15:Cfg:=⟨extL,[(9,245792,[5])],[(5,67107889,[0,4])],[],[],[],[]⟩
theorem F15_call {a0:Value} {w:World} {R:VW} (h:F15 a0 w R):cL 15 [a0] w R:=co (g:=cfg15) Tryd.func15 (by kernel_rfl) (by kernel_rfl) (by kernel_rfl) h
open Rep (rep)
def PowT (w:World):Prop:=Lib.TabIs Tryd.prog w "internal/strconv.uint64pow10" .u64 Lib.pow10Tab
theorem PowT.ext {w w':World} (h:PowT w) (hx:Ext w w'):PowT w':=by
 unfold PowT Lib.TabIs World.var? at *
 obtain ⟨g,hg⟩:∃ g,Tryd.prog.globalNamed "internal/strconv.uint64pow10" = some g:=by
   cases e:Tryd.prog.globalNamed "internal/strconv.uint64pow10" with
   | none=>simp [e] at h
   | some g=>exact ⟨g,rfl⟩
 simp only [hg,Option.bind_some] at h ⊢
 rcases Nat.lt_or_ge g w.heap.size with hl | hl
 · rw [hx.block g hl];exact h
 rw [Array.getElem?_eq_none hl] at h;simp at h
def zgX (n:Int):ByteArray:=⟨(Lib.itoa n).toArray⟩
theorem zgg (w:World) (k:Nat) (os:Array Obj):Ext w (Go.Sort.grow (w.drewN k) os):=
 ⟨rfl,rfl,rfl,by simp [Go.Sort.grow,World.drewN],fun i hi=>by
   rw [Go.Sort.heap_grow_old _ _ (by simpa [World.drewN] using hi)];rfl⟩
theorem zhK {w:World} {n:Int} (hT:PowT w) (hn:I64 n) :
   CALL Tryd.prog 33 [.int .i64 n] w fun r w'=>Ext w w'∧r=.string (zgX n):=by
 refine ⟨(Any.strconv_Itoa Tryd.laysM171 n hn.1 hn.2 w hT).mono ?_⟩
 rintro e w' ⟨he,k,os,rfl⟩
 exact ⟨_,he,zgg w k os,rfl⟩
theorem zcd {w W0:World} {n:Int} (hT:PowT W0) (e0:Ext W0 w) (hn:I64 n) :
   CALL Tryd.prog 20 [.int .i64 n] w fun r w'=>Ext w w'∧r=.string (zgX n):=by
 refine F20_call ?_
 unfold F20
 refine (zhK (hT.ext e0) hn).mono ?_
 rintro _ w1 ⟨hx1,rfl⟩
 exact ⟨hx1,rfl⟩
theorem zcD {u:Nat} (h:u<10):Lib.decDigits u=[UInt8.ofNat (48+u)]:=Lib.decDigits_one h
theorem zfz {u:Nat} (h:¬u<10):Lib.decDigits u=Lib.decDigits (u / 10)++[UInt8.ofNat (48+u%10)]:=by
 rw [Lib.decDigits,dif_neg h]
theorem zgh {w:World} {d:Nat} (hd:d<10) :
   CALL Tryd.prog 27 [.int .i64 (d:Int)] w fun r w'=>Ext w w'∧r=.int .u8 ((UInt8.ofNat (48+d)).toNat:Int):=by
 refine F27_call ?_
 unfold F27
 refine zah ?_
 refine br (fun _=>?_) (fun h=>by omega)
 refine zfx (by unfold I64;omega) ?_
 rw [show (48:Int)+(d:Int)=((48+d:Nat):Int) by omega]
 refine zhJ (by kernel_rfl) u5 (by omega) ?_
 exact ⟨Ext.refl _,rfl⟩
theorem zif {P:Program} {w:World} {K:Value→Prop} {a:Int} (h:I64 (-a)) (k:K (.int .i64 (-a))):RD P (Op.unary .neg (.int .i64 a)) w K:=
 zaT (fun w' _=>by
   have h':I64 (0-a):=by rw [Int.zero_sub];exact h
   simp [Op.unary,Op.intArith,IntWalk.i64_in _ h',IntWalk.i64_in _ h]) k
theorem zgi:∀ k u:Nat,u<10^(k+1)→(Lib.decDigits u).length≤k+1
 | 0,u,hu=>by rw [zcD (by omega)];simp
 | k+1,u,hu=>by
   by_cases h:u<10
   · rw [zcD h];simp
   rw [zfz h,List.length_append]
   have:=zgi k (u / 10) (by rw [Nat.div_lt_iff_lt_mul (by omega)];rw [Nat.pow_succ] at hu;exact hu)
   simp only [List.length_singleton];omega
theorem zgj {u:Nat} (hu:u≤9223372036854775808):(Lib.decDigits u).length≤20:=zgi 19 u (by omega)
theorem zc4 (n:Int) (hn:I64 n):(zgX n).size≤21:=by
 unfold I64 at hn
 show (Lib.itoa n).toArray.size≤21
 rw [List.size_toArray]
 unfold Lib.itoa
 split
 · have:=zgj (u:=n.natAbs) (by omega);simp only [List.length_cons];omega
 have:=zgj (u:=n.toNat) (by omega);omega
theorem zgY {m:Nat} (hm:m≠0) (s:ByteArray):(m / 10≠0→Lib.decDigits m++bts s=Lib.decDigits (m / 10)++bts (⟨[UInt8.ofNat (48+m%10)].toArray⟩++s))∧(m / 10=0→Lib.decDigits m++bts s=bts (⟨[UInt8.ofNat (48+m%10)].toArray⟩++s)):=by
 have e:bts ((⟨[UInt8.ofNat (48+m%10)].toArray⟩:ByteArray)++s)=UInt8.ofNat (48+m%10) :: bts s:=by
   simp [bts,ByteArray.data_append]
 constructor
 · intro h
   rw [zfz (by omega),e];simp
 intro h
 rw [zcD (by omega),e,Nat.mod_eq_of_lt (by omega)];simp
theorem zce {w:World} {n:Int} (hn:I64 n) :
   CALL Tryd.prog 15 [.int .i64 n] w fun r w'=>Ext w w'∧r=.string (zgX n):=by
 refine F15_call ?_
 unfold F15
 have hn':=hn
 unfold I64 at hn'
 refine zan ?_
 refine br (fun h0=>?_) (fun h0=>?_)
 · refine ⟨Ext.refl _,?_⟩
   subst h0
   unfold zgX Lib.itoa
   rw [if_neg (by omega),show (0:Int).toNat=0 from rfl,zcD (by omega)]
   rfl
 refine zah ?_
 have hN20:(Lib.decDigits n.natAbs).length≤20:=zgj (by omega)
 refine LOOPI.mk (fun m us w'=>∃ (x:Int) (s:ByteArray),us=[.int .i64 x,.string s]∧Ext w w'∧x.natAbs=m∧I64 x∧(m≠0→Lib.decDigits n.natAbs=Lib.decDigits m++bts s)∧(m=0→Lib.decDigits n.natAbs=bts s)) n.natAbs ⟨n,⟨#[]⟩,rfl,Ext.refl _,rfl,hn,fun _=>by simp [bts],fun h=>by omega⟩ ?_
 rintro m q w1 ⟨x,s,hq,hx1,hxm,hI,hA,hB⟩
 obtain ⟨hq1,hq2⟩:=zhE hq
 rw [hq1,hq2]
 refine zaC ?_
 refine br (fun hne=>?_) (fun heq=>?_)
 · have hm0:m≠0:=by omega
   have hd:=hA hm0
   have hs20:s.size≤20:=by
     have:=congrArg List.length hd
     rw [List.length_append,zaA] at this;omega
   have hmod:(x.tmod 10=((m%10:Nat):Int)∧¬x<0)∨(x.tmod 10=-((m%10:Nat):Int)∧x<0):=by
     rcases Int.natAbs_eq x with e | e
     · left
       refine ⟨?_,by omega⟩
       rw [e,hxm];rfl
     right
     refine ⟨?_,by omega⟩
     rw [e,hxm,Int.neg_tmod];rfl
   have hdiv:(x.tdiv 10).natAbs=m / 10:=by
     rw [Int.natAbs_tdiv,hxm];rfl
   have hIq:I64 (x.tdiv 10):=by
     unfold I64 at hI ⊢
     have:m / 10≤m:=Nat.div_le_self _ _
     omega
   refine zh0 (by omega) ?_
   refine JOIN.mk (fun us w'=>w'=w1∧us=[.int .i64 ((m%10:Nat):Int)]) ?_ ?_
   · refine zah ?_
     refine br (fun hl=>?_) (fun hl=>?_)
     · refine zif (by unfold I64;omega) ?_
       rcases hmod with ⟨h,_⟩ | ⟨h,_⟩
       · omega
       rw [h,Int.neg_neg];exact ⟨rfl,rfl⟩
     rcases hmod with ⟨h,_⟩ | ⟨h,_⟩
     · rw [h];exact ⟨rfl,rfl⟩
     have:((m%10:Nat):Int)=0:=by omega
     rw [h,this];exact ⟨rfl,rfl⟩
   rintro q9 w2 ⟨rfl,hq9⟩
   simp only [List.map_cons,List.map_nil,List.cons.injEq,and_true] at hq9
   rw [hq9]
   refine (zgh (Nat.mod_lt _ (by omega))).mono ?_
   rintro _ w3 ⟨hx3,rfl⟩
   refine zfO (α:=UInt8) u59 ty5 z5 (by decide) (zhI (lo:=w3.heap.size) (hi:=w3.heap.size)) (Nat.le_refl _) fun v4 w4 hx4 ho4=>?_
   refine ze7 u59 u5 u9 ho4.is (Ext.refl _) ?_
   refine za7 (by show 1+s.size≤9223372036854775807;omega) ?_
   refine zie (by omega) hIq ?_
   have hst:=zgY hm0 s
   refine ⟨m / 10,Nat.div_lt_self (by omega) (by omega),_,_,rfl,(hx1.trans hx3).trans hx4,hdiv,hIq,fun h=>hd.trans (hst.1 h),fun h=>hd.trans (hst.2 h)⟩
 have hm0:m=0:=by omega
 have hd:=hB hm0
 have hs20:s.size≤20:=by
   have:=congrArg List.length hd
   rw [zaA] at this;omega
 refine br (fun hneg=>?_) (fun hpos=>?_)
 · refine za7 (by show 1+s.size≤9223372036854775807;omega) ?_
   refine ⟨hx1,?_⟩
   congr 1
   refine ze2 ?_
   unfold zgX Lib.itoa
   rw [if_pos hneg,hd]
   simp [bts,ByteArray.data_append]
 refine ⟨hx1,?_⟩
 congr 1
 refine ze2 ?_
 unfold zgX Lib.itoa
 rw [if_neg hpos,show n.toNat=n.natAbs by omega,hd]
 simp [bts]
def F7 (a0:Value) (w:World) (R:VW):Prop:=
 oP (Instr.box 28 a0) w fun x1 w=>
 oP (Instr.alloc 35 true (.tuple #[])) w fun x2 w=>
 oP (Instr.alloc 35 true (.tuple #[])) w fun x3 w=>
 rF 28 x1 0 w fun x4=>
 rL 3 x4 w fun x5=>
 rF 35 x3 0 w fun x6=>
 oS 3 x6 x5 w fun w=>
 rF 28 x1 1 w fun x7=>
 rL 3 x7 w fun x8=>
 rF 35 x3 1 w fun x9=>
 oS 3 x9 x8 w fun w=>
 rF 28 x1 2 w fun x10=>
 rL 3 x10 w fun x11=>
 rF 35 x3 2 w fun x12=>
 oS 3 x12 x11 w fun w=>
 rL 35 x3 w fun x13=>
 oS 35 x2 x13 w fun w=>
 rD (zby 35 x2) w fun r2=>R r2 w
def cfg7:Cfg:=⟨extL,[],[],[],[],[],[]⟩
theorem F7_call {a0:Value} {w:World} {R:VW} (h:F7 a0 w R):cL 7 [a0] w R:=co (g:=cfg7) Tryd.func7 (by kernel_rfl) (by kernel_rfl) (by kernel_rfl) h
theorem ze8 {w:World} {x:Int} (h:I64 x):Rep.rep [] w [.int .i64 x] x:=⟨rfl,rfl,h⟩
theorem zhp:zde Tryd.prog 35=some [.int .i64 0,.int .i64 0,.int .i64 0]:=by kernel_rfl
theorem zgk {w W:World} {v:Value} {x:DRace} (h:Is W v x) (hx:Ext W w) :
   CALL Tryd.prog 7 [v] w fun r w'=>Ext w w'∧r=.agg #[.int .i64 x.g,.int .i64 x.a,.int .i64 x.b]∧I64 x.g∧I64 x.a∧I64 x.b:=by
 refine F7_call ?_
 unfold F7
 refine zes h hx fun w1 hx1 hA=>?_
 refine zd0 zhp fun w2 hx2 hB2=>?_
 refine zd0 zhp fun w3 hx3 hB3=>?_
 have hx13:=hx2.trans hx3
 refine zaa zh4 ?_
 refine zac ty3 (zbk hA) hx13 fun hI0=>?_
 refine zaa zdI ?_
 refine zd1 (α:=Int) ty3 hB3 (ze8 hI0) rfl (by simp [Rep.size]) fun w4 hc4 hB4=>?_
 have hlt:w.heap.size<w1.heap.size:=by
   obtain ⟨F,cs,hr,hra⟩:=hA
   exact zdF hra (by rw [Rep.len hr];exact Rep.pos)
 have hx14:Ext w1 w4:=hx13.chg_trans hc4 (by simp;exact hx2.size)
 refine zaa zh5 ?_
 refine zac ty3 (zcP hA) hx14 fun hI1=>?_
 refine zaa zf8 ?_
 refine zd1 (α:=Int) ty3 hB4 (ze8 hI1) rfl (by simp [Rep.size]) fun w5 hc5 hB5=>?_
 have hx15:Ext w1 w5:=hx14.chg_trans hc5 (by simp;exact hx2.size)
 refine zaa zh6 ?_
 refine zac ty3 (zcQ hA) hx15 fun hI2=>?_
 refine zaa zf9 ?_
 refine zd1 (α:=Int) ty3 hB5 (ze8 hI2) rfl (by simp [Rep.size]) fun w6 hc6 hB6=>?_
 have hrep:∀ w,Rep.rep [] w [.int .i64 x.g,.int .i64 x.a,.int .i64 x.b] x:=fun w=>⟨[],[],[.int .i64 x.g],[.int .i64 x.a,.int .i64 x.b],rfl,rfl,⟨rfl,rfl,hI0⟩,[],[],[.int .i64 x.a],[.int .i64 x.b],rfl,rfl,⟨rfl,rfl,hI1⟩,⟨rfl,rfl,hI2⟩⟩
 refine zab zix (hB6.at (hrep w6)) (Ext.refl w6) fun v13 h13=>?_
 obtain ⟨rfl,_⟩:=ze4.1 h13
 have hB26:Blk w1.heap.size 35 w6 _:=(((hB2.ext hx3).chg hc4 (by simp;have:=hB2.lt;omega)).chg hc5 (by simp;have:=hB2.lt;omega)).chg hc6 (by simp;have:=hB2.lt;omega)
 refine zd1 (α:=DRace) zix hB26 (hrep w6) rfl (by simp [Rep.size]) fun w7 hc7 hB7=>?_
 have hx06:Ext w w6:=(hx1.trans hx15).chg_trans hc6 (by simp;exact Nat.le_trans hx1.size hx2.size)
 have hx07:Ext w w7:=hx06.chg_trans hc7 (by simp;exact hx1.size)
 refine zgU zix (hB7.at (hrep w7)) (Ext.refl w7) fun r hr=>?_
 obtain ⟨rfl,_⟩:=ze4.1 hr
 exact ⟨hx07,rfl,hI0,hI1,hI2⟩
instance:Flat DRace:=⟨fun h=>Flat.flat (α:=Int×Int×Int) h⟩
end Go.Proofs.YtifonhplnmpgaaaDoor
namespace Go.Sh
open Rep (rep)
def zbj (P:Program) (t:TypeId) (α:Type) [Rep α] (n:Nat):Prop:=
 ∀ (H:Type) (enc:TypeId×Value→H) (w:World) (spare:Nat→Bool) (held:Bool) (cs:List Value) (y:DataW H×List MemPlace),DataW.trod enc P w 0 spare held n t cs=some y→∃ F x,rep F w cs (x:α)
section
variable {P:Program} {t:TypeId}
theorem za8 (ht:P.underlying t=some (.int .i64)) (n:Nat):zbj P t Int n:=by
 intro H enc w spare held cs y h
 obtain ⟨m,rfl,_,hw⟩:=DataW.trod_int ht h
 refine ⟨[],m,rfl,rfl,?_⟩
 simpa [Lit.wf,IntKind.min,IntKind.max,IntKind.signed,IntKind.bits,I64] using hw
theorem zew (ht:P.underlying t=some .string) (n:Nat):zbj P t ByteArray n:=by
 intro H enc w spare held cs y h
 obtain ⟨s,rfl,_,hs⟩:=DataW.trod_string ht h
 exact ⟨[],s,rfl,rfl,hs⟩
theorem zex {α β:Type} {f:α→Option β}:∀ {l:List α} {r:List β},l.mapM f=some r→l.length=r.length∧∀ (i:Nat) x,l[i]?=some x→∃ y,f x=some y∧r[i]?=some y
 | [],r,h=>by simp at h;subst h;simp
 | a :: l,r,h=>by
   simp only [List.mapM_cons,Option.pure_def,Option.bind_eq_bind,Option.bind_eq_some_iff,Option.some.injEq] at h
   obtain ⟨b,hb,bs,hbs,rfl⟩:=h
   obtain ⟨h1,h2⟩:=zex hbs
   refine ⟨by simp [h1],fun i x hx=>?_⟩
   cases i with
   | zero=>simp at hx;subst hx;exact ⟨b,hb,by simp⟩
   | succ i=>obtain ⟨y,hy,hr⟩:=h2 i x (by simpa using hx);exact ⟨y,hy,by simpa using hr⟩
theorem ze9 {w:World} {a:Addr} {n:Nat} {cs:List Value} (h:w.cells? 0 a n=some cs):cs.length=n∧∀ j v,cs[j]?=some v→w.cell? (a.add j)=some v:=by
 unfold World.cells? at h
 simp only [Nat.zero_le,if_true] at h
 obtain ⟨h1,h2⟩:=zex h
 simp only [List.length_range] at h1
 refine ⟨h1.symm,fun j v hv=>?_⟩
 have hj:j<cs.length:=(List.getElem?_eq_some_iff.1 hv).1
 obtain ⟨y,hy,hr⟩:=h2 j j (by rw [List.getElem?_range (by omega)])
 rw [hr] at hv
 cases hv
 exact hy
theorem zgl {w:World} {a:Addr} {v:Value} (h:w.cell? a=some v):a.spot=none:=by
 unfold World.cell? at h
 split at h
 · split at h
   · cases h
   rename_i hs;simpa using hs
 cases h
theorem zey {α:Type} [Rep α] {w:World} {b o:Nat}:∀ (n:Nat),(∀ i,i<n→∃ (cs:List Value) (F:List Nat) (x:α),w.rangeAt b (o+i*Rep.size α) cs∧rep F w cs x) →
   ∃ (F:List Nat) (xs:List Value) (l:List α),l.length=n∧Cells F w xs l∧w.rangeAt b o xs
 | 0,_=>⟨[],[],[],rfl,⟨rfl,rfl⟩,fun j v hv=>by simp at hv⟩
 | n+1,h=>by
   obtain ⟨F,xs,l,hl,hc,hr⟩:=zey n fun i hi=>h i (by omega)
   obtain ⟨cs,G,x,hra,hx⟩:=h n (by omega)
   refine ⟨F++G,xs++cs,l++[x],by simp [hl],Cells.append hc (Cells.single hx),?_⟩
   intro j v hv
   have hlen:=Cells.len hc
   rw [hl] at hlen
   rcases Nat.lt_or_ge j xs.length with hj | hj
   · rw [List.getElem?_append_left hj] at hv;exact hr j v hv
   rw [List.getElem?_append_right hj] at hv
   have:=hra (j-xs.length) v hv
   rwa [show o+n*Rep.size α+(j-xs.length)=o+j by omega] at this
theorem zdg {e:TypeId} {α:Type} [Rep α] {n:Nat} (ht:P.underlying t=some (.slice e)) (hc:P.cellsOf e=Rep.size α) (he:zbj P e α n):zbj P t (List α) (n+1):=by
 intro H enc w spare held cs y h
 rcases DataW.trod_slice ht h with ⟨rfl,_⟩ | ⟨a,len,cap,elems,rest,m,hm,rfl,_,_,h1,h2,h3,h4,_⟩
 · exact ⟨[],[],none,0,[],[],rfl,Nat.le_refl _,Nat.zero_le _,⟨rfl,rfl⟩,.inl ⟨rfl,rfl⟩⟩
 obtain rfl:m=n:=by omega
 by_cases h0:len=0
 · subst h0
   exact ⟨[],[],some a,cap,[],[],rfl,Nat.zero_le _,h2,⟨rfl,rfl⟩,.inl ⟨rfl,rfl⟩⟩
 have key:∀ i,i<len→∃ (cs:List Value) (F:List Nat) (x:α),cs.length=Rep.size α∧(∀ j v,cs[j]?=some v→w.cell? ((a.add (i*P.cellsOf e)).add j)=some v)∧rep F w cs x:=by
   intro i hi
   have hy:=h4 i hi
   rw [List.getElem?_eq_getElem (by omega)] at hy
   obtain ⟨cs,hcs,hy⟩:=Option.bind_eq_some_iff.1 hy
   obtain ⟨F,x,hx⟩:=he H enc w spare held cs _ hy
   obtain ⟨hl,hcell⟩:=ze9 hcs
   exact ⟨cs,F,x,by rw [hl,hc],hcell,hx⟩
 have hsp:a.spot=none:=by
   obtain ⟨cs,F,x,hl,hcell,_⟩:=key 0 (by omega)
   have hp:=Rep.pos (α:=α)
   have:=hcell 0 (cs[0]'(by omega)) (by rw [List.getElem?_eq_getElem])
   simpa [Addr.add] using zgl this
 obtain ⟨b,o,sp⟩:=a
 simp only at hsp
 subst hsp
 obtain ⟨F,xs,l,hl,hC,hR⟩:=zey (α:=α) (w:=w) (b:=b) (o:=o) len fun i hi=>by
   obtain ⟨cs,F,x,_,hcell,hx⟩:=key i hi
   refine ⟨cs,F,x,fun j v hv=>?_,hx⟩
   have:=hcell j v hv
   rw [hc] at this
   rwa [Addr.add_mid,Addr.add_mid] at this
 have hb:b<w.heap.size:=zdF hR (by rw [Cells.len hC,hl];exact Nat.mul_pos (by omega) Rep.pos)
 subst hl
 exact ⟨b :: F,l,some ⟨b,o,none⟩,cap,F,xs,rfl,h1,h2,hC,.inr ⟨b,o,rfl,rfl,hR,hb⟩⟩
theorem zdh {α β:Type} [Rep β] {f:α→β} {g:β→α} (hg:∀ y,f (g y)=y) {n:Nat} (h:zbj P t β n):@zbj P t α (Rep.via f) n:=by
 intro H enc w spare held cs y hy
 obtain ⟨F,x,hx⟩:=h H enc w spare held cs y hy
 exact ⟨F,g x,show rep F w cs (f (g x)) by rw [hg];exact hx⟩
theorem zdi {cs:List Value} {o a b:Nat}:(cs.drop o).take (a+b)=(cs.drop o).take a++(cs.drop (o+a)).take b:=by
 rw [List.take_add,List.drop_drop]
inductive FldR (P:Program) (n:Nat):Nat→List Field→(α:Type)→Rep α→Prop
 | one {off:Nat} {f:Field} {α:Type} [i:Rep α] (h1:f.offset=off) (h2:P.cellsOf f.type=Rep.size α) (h3:zbj P f.type α n):FldR P n off [f] α i
 | cons {off:Nat} {f:Field} {fs:List Field} {α β:Type} [i:Rep α] [j:Rep β] (h1:f.offset=off) (h2:P.cellsOf f.type=Rep.size α) (h3:zbj P f.type α n) (h4:FldR P n (off+Rep.size α) fs β j):FldR P n off (f :: fs) (α×β) inferInstance
theorem zgZ {n:Nat} {H:Type} {enc:TypeId×Value→H} {w:World} {spare:Nat→Bool} {held:Bool} {cs:List Value} {off:Nat} {fs:List Field} {α:Type} {i:Rep α} (h:FldR P n off fs α i) :
   (∀ f∈fs,∃ y,DataW.trod enc P w 0 spare held n f.type ((cs.drop f.offset).take (P.cellsOf f.type))=some y)→cs.length=off+@Rep.size α i→∃ F x,@Rep.rep α i F w (cs.drop off) x:=by
 induction h with
 | @one off f α i h1 h2 h3=>
   intro hy hl
   obtain ⟨y,hf⟩:=hy f (by simp)
   subst h1
   rw [h2,List.take_of_length_le (by simp;omega)] at hf
   exact h3 _ _ _ _ _ _ _ hf
 | @cons off f fs α β i j h1 h2 h3 h4 ih=>
   intro hy hl
   obtain ⟨y,hf⟩:=hy f (by simp)
   have hl':cs.length=off+(Rep.size α+Rep.size β):=hl
   obtain ⟨F2,x2,hx2⟩:=ih (fun g hg=>hy g (by simp [hg])) (by omega)
   subst h1
   rw [h2] at hf
   obtain ⟨F1,x1,hx1⟩:=h3 _ _ _ _ _ _ _ hf
   refine ⟨F1++F2,(x1,x2),F1,F2,_,_,rfl,?_,hx1,hx2⟩
   have:=zdi (cs:=cs) (o:=f.offset) (a:=Rep.size α) (b:=Rep.size β)
   rw [List.take_of_length_le (by simp;omega),List.take_of_length_le (l:=cs.drop (f.offset+Rep.size α)) (by simp;omega)] at this
   exact this
theorem zcX {fs:Array Field} {α:Type} [i:Rep α] {n:Nat} (ht:P.underlying t=some (.struct fs)) (hc:P.cellsOf t=Rep.size α) (hf:FldR P n 0 fs.toList α i):zbj P t α (n+1):=by
 intro H enc w spare held cs y h
 obtain ⟨xs,m,hm,_,hlen,hxl,hx⟩:=DataW.trod_struct ht h
 obtain rfl:m=n:=by omega
 have:=zgZ (enc:=enc) (w:=w) (spare:=spare) (held:=held) (cs:=cs) hf (fun f hf=>by
   obtain ⟨k,hk,hkf⟩:=List.getElem_of_mem hf
   have h1:fs[k]?=some f:=by rw [←hkf];simp
   have h2:=hx k f h1
   have hk':k<xs.length:=by rw [hxl];simpa using hk
   rw [List.getElem?_eq_getElem hk'] at h2
   exact ⟨_,h2⟩) (by rw [hlen,hc];simp)
 simpa using this
theorem zb5 {α:Type} [Rep α]:zbj P t α 0:=by intro H enc w spare held cs y h;simp [DataW.trod] at h
theorem zbo {e:TypeId} {α:Type} [Rep α] (ht:P.underlying t=some (.slice e)) (hc:P.cellsOf e=Rep.size α) (he:∀ n,zbj P e α n):∀ n,zbj P t (List α) n
 | 0=>zb5
 | n+1=>zdg ht hc (he n)
theorem zbd {fs:Array Field} {α:Type} [i:Rep α] (ht:P.underlying t=some (.struct fs)) (hc:P.cellsOf t=Rep.size α) (hf:∀ n,FldR P n 0 fs.toList α i):∀ n,zbj P t α n
 | 0=>zb5
 | n+1=>zcX ht hc (hf n)
theorem zcY {fs:Array Field} {α:Type} [Rep α] {H:Type} {enc:TypeId×Value→H} {w W:World} {r:Reach} {b0:Nat} {spare:Nat→Bool} {held:Bool} {v:Value} {d:DataW H} {p:List MemPlace} (ht:P.underlying t=some (.struct fs)) (ha:Rep.agg α=true) (hr:∀ n,zbj P t α n) (hv:Value.okWide P W r b0 t v)
   (h:DataW.Trod enc P w 0 spare held t v d p):∃ x:α,Is w v x:=by
 simp only [Value.okWide,ht] at hv
 obtain ⟨cs,rfl,_⟩:=hv
 obtain ⟨n,hn⟩:=h
 obtain ⟨F,x,hx⟩:=hr n H enc w spare held _ _ hn
 exact ⟨x,F,_,hx,by simp [mkv,ha,Value.cells]⟩
end
end Go.Sh
namespace Go.Sh
open Rep (rep)
inductive DTerm where
 | mk (kind num:Int) (name:ByteArray) (kids:List DTerm)
namespace DTerm
def kind:DTerm→Int | .mk k _ _ _=>k
def num:DTerm→Int | .mk _ n _ _=>n
def name:DTerm→ByteArray | .mk _ _ s _=>s
def kids:DTerm→List DTerm | .mk _ _ _ l=>l
def tup (t:DTerm):Int×Int×ByteArray×List DTerm:=(t.kind,t.num,t.name,t.kids)
end DTerm
theorem DTerm.eta (t:DTerm):DTerm.mk t.kind t.num t.name t.kids=t:=by cases t;rfl
theorem DTerm.ext_iff {x y:DTerm}:x=y↔(x.kind=y.kind∧x.num=y.num∧x.name=y.name∧x.kids=y.kids):=by
 constructor
 · intro h;rw [h];exact ⟨rfl,rfl,rfl,rfl⟩
 rintro ⟨h1,h2,h3,h4⟩
 rw [←DTerm.eta x,←DTerm.eta y,h1,h2,h3,h4]
theorem DTerm.kid_lt {t k:DTerm} (h:k∈t.kids):SizeOf.sizeOf k<SizeOf.sizeOf t:=by
 cases t with
 | mk a b c l=>
   have:k∈l:=h
   have:=List.sizeOf_lt_of_mem this
   simp only [DTerm.mk.sizeOf_spec];omega
theorem DTerm.ind {p:DTerm→Prop} (h:∀ t,(∀ k∈t.kids,p k)→p t) (t:DTerm):p t:=
  h t fun k hk=>DTerm.ind h k
termination_by SizeOf.sizeOf t
decreasing_by exact DTerm.kid_lt hk
mutual
def DTerm.beq:DTerm→DTerm→Bool
  | .mk a b c l,.mk a' b' c' l'=>decide (a=a')&&decide (b=b')&&decide (c=c')&&DTerm.beqL l l'
def DTerm.beqL:List DTerm→List DTerm→Bool
  | [],[]=>true
  | x :: l,y :: m=>DTerm.beq x y&&DTerm.beqL l m
  | _,_=>false
end
mutual
theorem DTerm.beq_iff:∀ (x y:DTerm),DTerm.beq x y=true↔x=y
  | .mk a b c l,.mk a' b' c' l'=>by
    simp only [DTerm.beq,Bool.and_eq_true,decide_eq_true_eq,DTerm.mk.injEq,DTerm.beqL_iff l l',and_assoc]
theorem DTerm.beqL_iff:∀ (x y:List DTerm),DTerm.beqL x y=true↔x=y
  | [],[]=>by simp [DTerm.beqL]
  | [],y :: m=>by simp [DTerm.beqL]
  | x :: l,[]=>by simp [DTerm.beqL]
  | x :: l,y :: m=>by simp only [DTerm.beqL,Bool.and_eq_true,DTerm.beq_iff x y,DTerm.beqL_iff l m,List.cons.injEq]
end
instance:DecidableEq DTerm:=fun x y=>decidable_of_iff _ (DTerm.beq_iff x y)
mutual
def zfP:DTerm→List Nat→World→List Value→Prop
  | .mk k n s ks,F,w,cs=>∃ a cap Fi xs,cs=[.int .i64 k,.int .i64 n,.string s,.slice a ks.length cap]∧I64 k∧I64 n∧s.size≤maxLen∧ks.length≤cap∧cap≤maxLen∧cellsT ks Fi w xs ∧
    ((ks=[]∧F=[])∨∃ b o,a=some ⟨b,o,none⟩∧F=b :: Fi∧w.rangeAt b o xs∧b<w.heap.size)
def cellsT:List DTerm→List Nat→World→List Value→Prop
  | [],F,_,xs=>F=[]∧xs=[]
  | y :: ys,F,w,xs=>∃ F1 F2 c1 c2,F=F1++F2∧xs=c1++c2∧zfP y F1 w c1∧cellsT ys F2 w c2
end
theorem zg0 {t:DTerm} {F:List Nat} {w:World} {cs:List Value} (h:zfP t F w cs):cs.length=4:=by
 cases t;rw [zfP] at h;obtain ⟨a,cap,Fi,xs,rfl,_⟩:=h;rfl
theorem zg1 {t:DTerm} {F:List Nat} {w:World} {cs:List Value} (h:zfP t F w cs):∀ v∈cs,v.oneCell'=true:=by
 cases t;rw [zfP] at h;obtain ⟨a,cap,Fi,xs,rfl,_⟩:=h
 intro v hv
 simp only [List.mem_cons,List.not_mem_nil,or_false] at hv
 rcases hv with rfl | rfl | rfl | rfl<;>rfl
mutual
theorem zez:∀ (t:DTerm) {F:List Nat} {w w':World} {cs:List Value},zfP t F w cs→(∀ b∈F,w'.heap[b]?=w.heap[b]?)→zfP t F w' cs
  | .mk k n s ks,F,w,w',cs,h,hk=>by
    rw [zfP] at h ⊢
    obtain ⟨a,cap,Fi,xs,hcs,i1,i2,i3,h1,h2,hc,h4⟩:=h
    rcases h4 with ⟨rfl,rfl⟩ | ⟨b,o,ha,hF,hr,hb⟩
    · exact ⟨a,cap,Fi,xs,hcs,i1,i2,i3,h1,h2,by rw [cellsT] at hc ⊢;exact hc,.inl ⟨rfl,rfl⟩⟩
    subst hF
    have hbb:=hk b (by simp)
    refine ⟨a,cap,Fi,xs,hcs,i1,i2,i3,h1,h2,zdj ks hc fun c hc=>hk c (by simp [hc]),.inr ⟨b,o,ha,rfl,zba hr hbb,?_⟩⟩
    rcases Nat.lt_or_ge b (Array.size (World.heap w')) with h' | h'
    · exact h'
    rw [Array.getElem?_eq_none h'] at hbb
    simp [Array.getElem?_eq_getElem hb] at hbb
theorem zdj:∀ (l:List DTerm) {F:List Nat} {w w':World} {cs:List Value},cellsT l F w cs→(∀ b∈F,w'.heap[b]?=w.heap[b]?)→cellsT l F w' cs
  | [],F,w,w',cs,h,_=>by rw [cellsT] at h ⊢;exact h
  | y :: ys,F,w,w',cs,h,hk=>by
    rw [cellsT] at h ⊢
    obtain ⟨F1,F2,c1,c2,rfl,rfl,h1,h2⟩:=h
    exact ⟨F1,F2,c1,c2,rfl,rfl,zez y h1 fun b hb=>hk b (by simp [hb]),zdj ys h2 fun b hb=>hk b (by simp [hb])⟩
end
mutual
theorem zgm:∀ (t:DTerm) {F:List Nat} {w:World} {cs:List Value},zfP t F w cs→∀ b∈F,b<w.heap.size
  | .mk k n s ks,F,w,cs,h,c,hm=>by
    rw [zfP] at h
    obtain ⟨a,cap,Fi,xs,hcs,i1,i2,i3,h1,h2,hc,h4⟩:=h
    rcases h4 with ⟨rfl,rfl⟩ | ⟨b,o,ha,hF,hr,hb⟩
    · cases hm
    subst hF
    rcases List.mem_cons.1 hm with rfl | hm
    · exact hb
    exact zeA ks hc c hm
theorem zeA:∀ (l:List DTerm) {F:List Nat} {w:World} {cs:List Value},cellsT l F w cs→∀ b∈F,b<w.heap.size
  | [],F,w,cs,h,c,hm=>by rw [cellsT] at h;rw [h.1] at hm;cases hm
  | y :: ys,F,w,cs,h,c,hm=>by
    rw [cellsT] at h
    obtain ⟨F1,F2,c1,c2,rfl,rfl,h1,h2⟩:=h
    rcases List.mem_append.1 hm with hm | hm
    · exact zgm y h1 c hm
    exact zeA ys h2 c hm
end
instance:Rep DTerm where
 size:=4
 agg:=true
 rep F w cs x:=zfP x F w cs
 pos:=by decide
 sz h:=by cases h
 len h:=zg0 h
 one h:=zg1 h
 keep h hk:=zez _ h hk
 lt h:=zgm _ h
theorem zcE {w:World}:∀ {l:List DTerm} {F:List Nat} {xs:List Value},cellsT l F w xs↔Cells F w xs l
 | [],F,xs=>by rw [cellsT];exact Iff.rfl
 | y :: ys,F,xs=>by
   rw [cellsT]
   constructor
   · rintro ⟨F1,F2,c1,c2,h1,h2,h3,h4⟩;exact ⟨F1,F2,c1,c2,h1,h2,h3,zcE.1 h4⟩
   rintro ⟨F1,F2,c1,c2,h1,h2,h3,h4⟩;exact ⟨F1,F2,c1,c2,h1,h2,h3,zcE.2 h4⟩
theorem zck {w:World} {F:List Nat} {cs:List Value} {t:DTerm}:rep F w cs t↔rep F w cs t.tup:=by
 obtain ⟨k,n,s,ks⟩:=t
 show zfP _ F w cs↔_
 rw [zfP]
 constructor
 · rintro ⟨a,cap,Fi,xs,rfl,i1,i2,i3,h1,h2,hc,h4⟩
   refine ⟨[],F,[.int .i64 k],_,rfl,rfl,⟨rfl,rfl,i1⟩,[],F,[.int .i64 n],_,rfl,rfl,⟨rfl,rfl,i2⟩,[],F,[.string s],_,rfl,rfl,⟨rfl,rfl,i3⟩,a,cap,Fi,xs,rfl,h1,h2,zcE.1 hc,h4⟩
 rintro ⟨_,_,_,_,rfl,rfl,⟨rfl,rfl,i1⟩,_,_,_,_,rfl,rfl,⟨rfl,rfl,i2⟩,_,_,_,_,rfl,rfl,⟨rfl,rfl,i3⟩,a,cap,Fi,xs,rfl,h1,h2,hc,h4⟩
 exact ⟨a,cap,Fi,xs,rfl,i1,i2,i3,h1,h2,zcE.2 hc,h4⟩
theorem zfA {w:World} {b o:Nat} {t:DTerm}:At w b o t↔At w b o t.tup:=
 ⟨fun ⟨F,cs,h,k⟩=>⟨F,cs,zck.1 h,k⟩,fun ⟨F,cs,h,k⟩=>⟨F,cs,zck.2 h,k⟩⟩
theorem zgn {w:World} {G:List Nat} {b o:Nat} {t:DTerm}:OAt G w b o t↔OAt G w b o t.tup:=
 ⟨fun ⟨cs,h,k⟩=>⟨cs,zck.1 h,k⟩,fun ⟨cs,h,k⟩=>⟨cs,zck.2 h,k⟩⟩
section
variable {w:World} {b o:Nat}
theorem zaG {x:DTerm} (h:At w b o x):At w b (o+0) x.kind:=zbO (α:=Int) (β:=Int×ByteArray×List DTerm) (p:=x.tup) (zfA.1 h)
theorem zaD {x:DTerm} (h:At w b o x):At w b (o+1) x.num:=zbO (α:=Int) (β:=ByteArray×List DTerm) (p:=(x.num,x.name,x.kids)) (zaR (α:=Int) (β:=Int×ByteArray×List DTerm) (p:=x.tup) (zfA.1 h))
theorem zau {x:DTerm} (h:At w b o x):At w b (o+2) x.name:=zbO (α:=ByteArray) (β:=List DTerm) (p:=(x.name,x.kids)) (zaR (α:=Int) (β:=ByteArray×List DTerm) (p:=(x.num,x.name,x.kids)) (zaR (α:=Int) (β:=Int×ByteArray×List DTerm) (p:=x.tup) (zfA.1 h)))
theorem zaj {x:DTerm} (h:At w b o x):At w b (o+3) x.kids:=zaR (α:=ByteArray) (β:=List DTerm) (p:=(x.name,x.kids)) (zaR (α:=Int) (β:=ByteArray×List DTerm) (p:=(x.num,x.name,x.kids)) (zaR (α:=Int) (β:=Int×ByteArray×List DTerm) (p:=x.tup) (zfA.1 h)))
end
theorem Lens.term {w:World} {γ:Type} {H:List Nat→World→γ→Prop} {F:List Nat} {b o:Nat} {G:List Nat} {t:DTerm} {upd:DTerm→γ} (h:Lens H F w b o G t upd) :
   Lens H F w b o G t.tup (fun p=>upd (.mk p.1 p.2.1 p.2.2.1 p.2.2.2)):=
 ⟨zgn.1 h.here,h.sub,fun w' G' y' hc hO hs=>h.back w' G' _ hc (zgn.2 hO) hs⟩
instance:RepZ DTerm:=⟨.mk 0 0 ByteArray.empty [],RepZ.zc (Int×Int×ByteArray×List DTerm),fun w=>zck.2 (RepZ.zr (α:=Int×Int×ByteArray×List DTerm) w)⟩
section
variable {γ:Type} {H:List Nat→World→γ→Prop} {F:List Nat} {w:World} {b o:Nat} {G:List Nat} {x:DTerm} {upd:DTerm→γ}
theorem zeB (h:Lens H F w b o G x upd):∃ G1,Lens H F w b (o+0) G1 x.kind (fun y=>upd (.mk y x.num x.name x.kids)):=by
 obtain ⟨G1,h1⟩:=h.term.fst;exact ⟨G1,h1⟩
theorem zeC (h:Lens H F w b o G x upd):∃ G1,Lens H F w b (o+1) G1 x.num (fun y=>upd (.mk x.kind y x.name x.kids)):=by
 obtain ⟨G1,h1⟩:=h.term.snd;obtain ⟨G2,h2⟩:=h1.fst;exact ⟨G2,h2⟩
theorem zeD (h:Lens H F w b o G x upd):∃ G1,Lens H F w b (o+2) G1 x.name (fun y=>upd (.mk x.kind x.num y x.kids)):=by
 obtain ⟨G1,h1⟩:=h.term.snd;obtain ⟨G2,h2⟩:=h1.snd;obtain ⟨G3,h3⟩:=h2.fst;exact ⟨G3,h3⟩
theorem zeE (h:Lens H F w b o G x upd):∃ G1,Lens H F w b (o+3) G1 x.kids (fun y=>upd (.mk x.kind x.num x.name y)):=by
 obtain ⟨G1,h1⟩:=h.term.snd;obtain ⟨G2,h2⟩:=h1.snd;obtain ⟨G3,h3⟩:=h2.snd;exact ⟨G3,h3⟩
end
theorem zgo {P:Program} {t:TypeId} {n:Nat} (h:zbj P t (Int×Int×ByteArray×List DTerm) n):zbj P t DTerm n:=by
 intro H enc w spare held cs y hh
 obtain ⟨F,x,hx⟩:=h H enc w spare held cs y hh
 exact ⟨F,.mk x.1 x.2.1 x.2.2.1 x.2.2.2,zck.2 hx⟩
structure DIns where
 op:Int
 arg:Int
 term:DTerm
 to:Int
theorem DIns.ext_iff {x y:DIns}:x=y↔(x.op=y.op∧x.arg=y.arg∧x.term=y.term∧x.to=y.to):=⟨fun h=>by rw [h];exact ⟨rfl,rfl,rfl,rfl⟩,fun h=>by obtain ⟨h0,h1,h2,h3⟩:=h;cases x;cases y;simp only at h0 h1 h2 h3;simp only [h0,h1,h2,h3]⟩
instance:DecidableEq DIns:=fun x y=>decidable_of_iff (x.op=y.op∧x.arg=y.arg∧x.term=y.term∧x.to=y.to) DIns.ext_iff.symm
instance:Rep DIns:=Rep.via fun x=>(x.op,x.arg,x.term,x.to)
theorem zat {w:World} {b o:Nat} {x:DIns} (h:At w b o x):At w b (o+0) x.op:=zbO (α:=Int) (β:=Int×DTerm×Int) (p:=(x.op,x.arg,x.term,x.to)) h
theorem zbH {w:World} {b o:Nat} {x:DIns} (h:At w b o x):At w b (o+1) x.arg:=zbO (α:=Int) (β:=DTerm×Int) (p:=(x.arg,x.term,x.to)) (zaR (α:=Int) (β:=Int×DTerm×Int) (p:=(x.op,x.arg,x.term,x.to)) h)
theorem zaJ {w:World} {b o:Nat} {x:DIns} (h:At w b o x):At w b (o+2) x.term:=zbO (α:=DTerm) (β:=Int) (p:=(x.term,x.to)) (zaR (α:=Int) (β:=DTerm×Int) (p:=(x.arg,x.term,x.to)) (zaR (α:=Int) (β:=Int×DTerm×Int) (p:=(x.op,x.arg,x.term,x.to)) h))
theorem zaX {w:World} {b o:Nat} {x:DIns} (h:At w b o x):At w b (o+6) x.to:=zaR (α:=DTerm) (β:=Int) (p:=(x.term,x.to)) (zaR (α:=Int) (β:=DTerm×Int) (p:=(x.arg,x.term,x.to)) (zaR (α:=Int) (β:=Int×DTerm×Int) (p:=(x.op,x.arg,x.term,x.to)) h))
instance:RepZ DIns:=⟨⟨(RepZ.zv:Int),(RepZ.zv:Int),(RepZ.zv:DTerm),(RepZ.zv:Int)⟩,RepZ.zc (Int×Int×DTerm×Int),fun w=>RepZ.zr (α:=Int×Int×DTerm×Int) w⟩
theorem zfa {γ:Type} {H:List Nat→World→γ→Prop} {F:List Nat} {w:World} {b o:Nat} {G:List Nat} {x:DIns} {upd:DIns→γ} (h:Lens H F w b o G x upd) :
   ∃ G1,Lens H F w b (o+0) G1 x.op (fun y=>upd ⟨y,x.arg,x.term,x.to⟩):=by
 have h':Lens H F w b o G (x.op,x.arg,x.term,x.to) (fun p:Int×Int×DTerm×Int=>upd ⟨p.1,p.2.1,p.2.2.1,p.2.2.2⟩):=⟨h.here,h.sub,fun w' G' y' hc hO hs=>h.back w' G' _ hc hO hs⟩
 obtain ⟨G0,h'⟩:=h'.fst
 exact ⟨_,h'⟩
theorem zfb {γ:Type} {H:List Nat→World→γ→Prop} {F:List Nat} {w:World} {b o:Nat} {G:List Nat} {x:DIns} {upd:DIns→γ} (h:Lens H F w b o G x upd) :
   ∃ G1,Lens H F w b (o+1) G1 x.arg (fun y=>upd ⟨x.op,y,x.term,x.to⟩):=by
 have h':Lens H F w b o G (x.op,x.arg,x.term,x.to) (fun p:Int×Int×DTerm×Int=>upd ⟨p.1,p.2.1,p.2.2.1,p.2.2.2⟩):=⟨h.here,h.sub,fun w' G' y' hc hO hs=>h.back w' G' _ hc hO hs⟩
 obtain ⟨G0,h'⟩:=h'.snd
 obtain ⟨G1,h'⟩:=h'.fst
 exact ⟨_,h'⟩
theorem zfc {γ:Type} {H:List Nat→World→γ→Prop} {F:List Nat} {w:World} {b o:Nat} {G:List Nat} {x:DIns} {upd:DIns→γ} (h:Lens H F w b o G x upd) :
   ∃ G1,Lens H F w b (o+2) G1 x.term (fun y=>upd ⟨x.op,x.arg,y,x.to⟩):=by
 have h':Lens H F w b o G (x.op,x.arg,x.term,x.to) (fun p:Int×Int×DTerm×Int=>upd ⟨p.1,p.2.1,p.2.2.1,p.2.2.2⟩):=⟨h.here,h.sub,fun w' G' y' hc hO hs=>h.back w' G' _ hc hO hs⟩
 obtain ⟨G0,h'⟩:=h'.snd
 obtain ⟨G1,h'⟩:=h'.snd
 obtain ⟨G2,h'⟩:=h'.fst
 exact ⟨_,h'⟩
theorem zfd {γ:Type} {H:List Nat→World→γ→Prop} {F:List Nat} {w:World} {b o:Nat} {G:List Nat} {x:DIns} {upd:DIns→γ} (h:Lens H F w b o G x upd) :
   ∃ G1,Lens H F w b (o+6) G1 x.to (fun y=>upd ⟨x.op,x.arg,x.term,y⟩):=by
 have h':Lens H F w b o G (x.op,x.arg,x.term,x.to) (fun p:Int×Int×DTerm×Int=>upd ⟨p.1,p.2.1,p.2.2.1,p.2.2.2⟩):=⟨h.here,h.sub,fun w' G' y' hc hO hs=>h.back w' G' _ hc hO hs⟩
 obtain ⟨G0,h'⟩:=h'.snd
 obtain ⟨G1,h'⟩:=h'.snd
 obtain ⟨G2,h'⟩:=h'.snd
 exact ⟨_,h'⟩
structure DCode where
 globals:List ByteArray
 locks:List ByteArray
 procs:List ByteArray
 entry:List Int
 ins:List DIns
theorem DCode.ext_iff {x y:DCode}:x=y↔(x.globals=y.globals∧x.locks=y.locks∧x.procs=y.procs∧x.entry=y.entry∧x.ins=y.ins):=⟨fun h=>by rw [h];exact ⟨rfl,rfl,rfl,rfl,rfl⟩,fun h=>by obtain ⟨h0,h1,h2,h3,h4⟩:=h;cases x;cases y;simp only at h0 h1 h2 h3 h4;simp only [h0,h1,h2,h3,h4]⟩
instance:DecidableEq DCode:=fun x y=>decidable_of_iff (x.globals=y.globals∧x.locks=y.locks∧x.procs=y.procs∧x.entry=y.entry∧x.ins=y.ins) DCode.ext_iff.symm
instance:Rep DCode:=Rep.via fun x=>(x.globals,x.locks,x.procs,x.entry,x.ins)
theorem zar {w:World} {b o:Nat} {x:DCode} (h:At w b o x):At w b (o+0) x.globals:=zbO (α:=List ByteArray) (β:=(List ByteArray)×(List ByteArray)×(List Int)×(List DIns)) (p:=(x.globals,x.locks,x.procs,x.entry,x.ins)) h
theorem zaH {w:World} {b o:Nat} {x:DCode} (h:At w b o x):At w b (o+1) x.locks:=zbO (α:=List ByteArray) (β:=(List ByteArray)×(List Int)×(List DIns)) (p:=(x.locks,x.procs,x.entry,x.ins)) (zaR (α:=List ByteArray) (β:=(List ByteArray)×(List ByteArray)×(List Int)×(List DIns)) (p:=(x.globals,x.locks,x.procs,x.entry,x.ins)) h)
theorem zav {w:World} {b o:Nat} {x:DCode} (h:At w b o x):At w b (o+2) x.procs:=zbO (α:=List ByteArray) (β:=(List Int)×(List DIns)) (p:=(x.procs,x.entry,x.ins)) (zaR (α:=List ByteArray) (β:=(List ByteArray)×(List Int)×(List DIns)) (p:=(x.locks,x.procs,x.entry,x.ins)) (zaR (α:=List ByteArray) (β:=(List ByteArray)×(List ByteArray)×(List Int)×(List DIns)) (p:=(x.globals,x.locks,x.procs,x.entry,x.ins)) h))
theorem zag {w:World} {b o:Nat} {x:DCode} (h:At w b o x):At w b (o+3) x.entry:=zbO (α:=List Int) (β:=(List DIns)) (p:=(x.entry,x.ins)) (zaR (α:=List ByteArray) (β:=(List Int)×(List DIns)) (p:=(x.procs,x.entry,x.ins)) (zaR (α:=List ByteArray) (β:=(List ByteArray)×(List Int)×(List DIns)) (p:=(x.locks,x.procs,x.entry,x.ins)) (zaR (α:=List ByteArray) (β:=(List ByteArray)×(List ByteArray)×(List Int)×(List DIns)) (p:=(x.globals,x.locks,x.procs,x.entry,x.ins)) h)))
theorem zal {w:World} {b o:Nat} {x:DCode} (h:At w b o x):At w b (o+4) x.ins:=zaR (α:=List Int) (β:=(List DIns)) (p:=(x.entry,x.ins)) (zaR (α:=List ByteArray) (β:=(List Int)×(List DIns)) (p:=(x.procs,x.entry,x.ins)) (zaR (α:=List ByteArray) (β:=(List ByteArray)×(List Int)×(List DIns)) (p:=(x.locks,x.procs,x.entry,x.ins)) (zaR (α:=List ByteArray) (β:=(List ByteArray)×(List ByteArray)×(List Int)×(List DIns)) (p:=(x.globals,x.locks,x.procs,x.entry,x.ins)) h)))
instance:RepZ DCode:=⟨⟨(RepZ.zv:List ByteArray),(RepZ.zv:List ByteArray),(RepZ.zv:List ByteArray),(RepZ.zv:List Int),(RepZ.zv:List DIns)⟩,RepZ.zc ((List ByteArray)×(List ByteArray)×(List ByteArray)×(List Int)×(List DIns)),fun w=>RepZ.zr (α:=(List ByteArray)×(List ByteArray)×(List ByteArray)×(List Int)×(List DIns)) w⟩
theorem zeF {γ:Type} {H:List Nat→World→γ→Prop} {F:List Nat} {w:World} {b o:Nat} {G:List Nat} {x:DCode} {upd:DCode→γ} (h:Lens H F w b o G x upd) :
   ∃ G1,Lens H F w b (o+0) G1 x.globals (fun y=>upd ⟨y,x.locks,x.procs,x.entry,x.ins⟩):=by
 have h':Lens H F w b o G (x.globals,x.locks,x.procs,x.entry,x.ins) (fun p:(List ByteArray)×(List ByteArray)×(List ByteArray)×(List Int)×(List DIns)=>upd ⟨p.1,p.2.1,p.2.2.1,p.2.2.2.1,p.2.2.2.2⟩):=⟨h.here,h.sub,fun w' G' y' hc hO hs=>h.back w' G' _ hc hO hs⟩
 obtain ⟨G0,h'⟩:=h'.fst
 exact ⟨_,h'⟩
theorem zeG {γ:Type} {H:List Nat→World→γ→Prop} {F:List Nat} {w:World} {b o:Nat} {G:List Nat} {x:DCode} {upd:DCode→γ} (h:Lens H F w b o G x upd) :
   ∃ G1,Lens H F w b (o+1) G1 x.locks (fun y=>upd ⟨x.globals,y,x.procs,x.entry,x.ins⟩):=by
 have h':Lens H F w b o G (x.globals,x.locks,x.procs,x.entry,x.ins) (fun p:(List ByteArray)×(List ByteArray)×(List ByteArray)×(List Int)×(List DIns)=>upd ⟨p.1,p.2.1,p.2.2.1,p.2.2.2.1,p.2.2.2.2⟩):=⟨h.here,h.sub,fun w' G' y' hc hO hs=>h.back w' G' _ hc hO hs⟩
 obtain ⟨G0,h'⟩:=h'.snd
 obtain ⟨G1,h'⟩:=h'.fst
 exact ⟨_,h'⟩
theorem zeH {γ:Type} {H:List Nat→World→γ→Prop} {F:List Nat} {w:World} {b o:Nat} {G:List Nat} {x:DCode} {upd:DCode→γ} (h:Lens H F w b o G x upd) :
   ∃ G1,Lens H F w b (o+2) G1 x.procs (fun y=>upd ⟨x.globals,x.locks,y,x.entry,x.ins⟩):=by
 have h':Lens H F w b o G (x.globals,x.locks,x.procs,x.entry,x.ins) (fun p:(List ByteArray)×(List ByteArray)×(List ByteArray)×(List Int)×(List DIns)=>upd ⟨p.1,p.2.1,p.2.2.1,p.2.2.2.1,p.2.2.2.2⟩):=⟨h.here,h.sub,fun w' G' y' hc hO hs=>h.back w' G' _ hc hO hs⟩
 obtain ⟨G0,h'⟩:=h'.snd
 obtain ⟨G1,h'⟩:=h'.snd
 obtain ⟨G2,h'⟩:=h'.fst
 exact ⟨_,h'⟩
theorem zeI {γ:Type} {H:List Nat→World→γ→Prop} {F:List Nat} {w:World} {b o:Nat} {G:List Nat} {x:DCode} {upd:DCode→γ} (h:Lens H F w b o G x upd) :
   ∃ G1,Lens H F w b (o+3) G1 x.entry (fun y=>upd ⟨x.globals,x.locks,x.procs,y,x.ins⟩):=by
 have h':Lens H F w b o G (x.globals,x.locks,x.procs,x.entry,x.ins) (fun p:(List ByteArray)×(List ByteArray)×(List ByteArray)×(List Int)×(List DIns)=>upd ⟨p.1,p.2.1,p.2.2.1,p.2.2.2.1,p.2.2.2.2⟩):=⟨h.here,h.sub,fun w' G' y' hc hO hs=>h.back w' G' _ hc hO hs⟩
 obtain ⟨G0,h'⟩:=h'.snd
 obtain ⟨G1,h'⟩:=h'.snd
 obtain ⟨G2,h'⟩:=h'.snd
 obtain ⟨G3,h'⟩:=h'.fst
 exact ⟨_,h'⟩
theorem zeJ {γ:Type} {H:List Nat→World→γ→Prop} {F:List Nat} {w:World} {b o:Nat} {G:List Nat} {x:DCode} {upd:DCode→γ} (h:Lens H F w b o G x upd) :
   ∃ G1,Lens H F w b (o+4) G1 x.ins (fun y=>upd ⟨x.globals,x.locks,x.procs,x.entry,y⟩):=by
 have h':Lens H F w b o G (x.globals,x.locks,x.procs,x.entry,x.ins) (fun p:(List ByteArray)×(List ByteArray)×(List ByteArray)×(List Int)×(List DIns)=>upd ⟨p.1,p.2.1,p.2.2.1,p.2.2.2.1,p.2.2.2.2⟩):=⟨h.here,h.sub,fun w' G' y' hc hO hs=>h.back w' G' _ hc hO hs⟩
 obtain ⟨G0,h'⟩:=h'.snd
 obtain ⟨G1,h'⟩:=h'.snd
 obtain ⟨G2,h'⟩:=h'.snd
 obtain ⟨G3,h'⟩:=h'.snd
 exact ⟨_,h'⟩
structure DTouch where
 at_:Int
 global:Int
 write:Bool
 held:Int
theorem DTouch.ext_iff {x y:DTouch}:x=y↔(x.at_=y.at_∧x.global=y.global∧x.write=y.write∧x.held=y.held):=⟨fun h=>by rw [h];exact ⟨rfl,rfl,rfl,rfl⟩,fun h=>by obtain ⟨h0,h1,h2,h3⟩:=h;cases x;cases y;simp only at h0 h1 h2 h3;simp only [h0,h1,h2,h3]⟩
instance:DecidableEq DTouch:=fun x y=>decidable_of_iff (x.at_=y.at_∧x.global=y.global∧x.write=y.write∧x.held=y.held) DTouch.ext_iff.symm
instance:Rep DTouch:=Rep.via fun x=>(x.at_,x.global,x.write,x.held)
instance:RepZ DTouch:=⟨⟨(RepZ.zv:Int),(RepZ.zv:Int),(RepZ.zv:Bool),(RepZ.zv:Int)⟩,RepZ.zc (Int×Int×Bool×Int),fun w=>RepZ.zr (α:=Int×Int×Bool×Int) w⟩
instance:Flat DTouch:=⟨fun h=>Flat.flat (α:=Int×Int×Bool×Int) h⟩
end Go.Sh
namespace Go.Proofs.YtifonhplnmpgaaaDoor
open Go Go.Sh Go.Proofs
open Rep (rep)
def zek (b:UInt8):Bool:=decide ((97:Int)≤(b.toNat:Int)∧(b.toNat:Int)≤122)
def zfQ (b:UInt8):Bool:=decide ((48:Int)≤(b.toNat:Int)∧(b.toNat:Int)≤57)
def zc2 (s:ByteArray):Bool:=decide (s.size≤12)&&(bts s).head?.any zek&&(bts s).all (fun b=>zek b || zfQ b)
def kw:List ByteArray:=[.mk #[97,110,100],.mk #[99,97,108,108],.mk #[101,108,115,101],.mk #[103,108,111,98,97,108,115],.mk #[105,102],.mk #[108,111,99,107],.mk #[108,111,99,107,115],
 .mk #[110,111,116],.mk #[112,114,111,99],.mk #[115,107,105,112],.mk #[115,112,97,119,110],.mk #[117,110,108,111,99,107],.mk #[119,104,105,108,101]]
def zaB (s:ByteArray):Bool:=zc2 s&&!decide (s∈kw)
def F67 (a0:Value) (w:World) (R:VW):Prop:=
 rB .geq 5 T0 U0 a0 (Value.int .u8 97) w fun x4=>
 BR x4
 (rB .leq 5 T0 U0 a0 (Value.int .u8 122) w fun x7=>
 R x7 w)
 (R (Value.bool false) w)
def cfg67:Cfg:=⟨extL,[],[],[],[],[],[]⟩
theorem F67_call {a0:Value} {w:World} {R:VW} (h:F67 a0 w R):cL 67 [a0] w R:=co (g:=cfg67) Tryd.func67 (by kernel_rfl) (by kernel_rfl) (by kernel_rfl) h
theorem zdK {w:World} {n:Nat}    :
   CALL Tryd.prog 67 [.int .u8 (n:Int)] w fun r w'=>Ext w w'∧(r=.bool (decide ((97:Int)≤(n:Int)∧(n:Int)≤122))):=by
 refine F67_call ?_
 unfold F67
 refine zbf ?_
 refine br (fun c1=>?_) (fun c1=>?_)
 · refine zca ?_
   refine ⟨Ext.refl w,?_⟩
   simp [c1]
 refine ⟨Ext.refl w,?_⟩
 simp [c1]
def F68 (a0:Value) (w:World) (R:VW):Prop:=
 rB .geq 5 T0 U0 a0 (Value.int .u8 48) w fun x4=>
 BR x4
 (rB .leq 5 T0 U0 a0 (Value.int .u8 57) w fun x7=>
 R x7 w)
 (R (Value.bool false) w)
def cfg68:Cfg:=⟨extL,[],[],[],[],[],[]⟩
theorem F68_call {a0:Value} {w:World} {R:VW} (h:F68 a0 w R):cL 68 [a0] w R:=co (g:=cfg68) Tryd.func68 (by kernel_rfl) (by kernel_rfl) (by kernel_rfl) h
theorem zfe {w:World} {n:Nat}    :
   CALL Tryd.prog 68 [.int .u8 (n:Int)] w fun r w'=>Ext w w'∧(r=.bool (decide ((48:Int)≤(n:Int)∧(n:Int)≤57))):=by
 refine F68_call ?_
 unfold F68
 refine zbf ?_
 refine br (fun c1=>?_) (fun c1=>?_)
 · refine zca ?_
   refine ⟨Ext.refl w,?_⟩
   simp [c1]
 refine ⟨Ext.refl w,?_⟩
 simp [c1]
def F74 (a0:Value) (w:World) (R:VW):Prop:=
 rB .geq 5 T0 U0 a0 (Value.int .u8 97) w fun x4=>
 BR x4
 (rB .leq 5 T0 U0 a0 (Value.int .u8 122) w fun x7=>
 R x7 w)
 (R (Value.bool false) w)
def cfg74:Cfg:=⟨extL,[],[],[],[],[],[]⟩
theorem F74_call {a0:Value} {w:World} {R:VW} (h:F74 a0 w R):cL 74 [a0] w R:=co (g:=cfg74) Tryd.func74 (by kernel_rfl) (by kernel_rfl) (by kernel_rfl) h
theorem zcZ {w:World} {n:Nat}    :
   CALL Tryd.prog 74 [.int .u8 (n:Int)] w fun r w'=>Ext w w'∧(r=.bool (decide ((97:Int)≤(n:Int)∧(n:Int)≤122))):=by
 refine F74_call ?_
 unfold F74
 refine zbf ?_
 refine br (fun c1=>?_) (fun c1=>?_)
 · refine zca ?_
   refine ⟨Ext.refl w,?_⟩
   simp [c1]
 refine ⟨Ext.refl w,?_⟩
 simp [c1]
def F75 (a0:Value) (w:World) (R:VW):Prop:=
 rB .geq 5 T0 U0 a0 (Value.int .u8 48) w fun x4=>
 BR x4
 (rB .leq 5 T0 U0 a0 (Value.int .u8 57) w fun x7=>
 R x7 w)
 (R (Value.bool false) w)
def cfg75:Cfg:=⟨extL,[],[],[],[],[],[]⟩
theorem F75_call {a0:Value} {w:World} {R:VW} (h:F75 a0 w R):cL 75 [a0] w R:=co (g:=cfg75) Tryd.func75 (by kernel_rfl) (by kernel_rfl) (by kernel_rfl) h
theorem zeK {w:World} {n:Nat}    :
   CALL Tryd.prog 75 [.int .u8 (n:Int)] w fun r w'=>Ext w w'∧(r=.bool (decide ((48:Int)≤(n:Int)∧(n:Int)≤57))):=by
 refine F75_call ?_
 unfold F75
 refine zbf ?_
 refine br (fun c1=>?_) (fun c1=>?_)
 · refine zca ?_
   refine ⟨Ext.refl w,?_⟩
   simp [c1]
 refine ⟨Ext.refl w,?_⟩
 simp [c1]
theorem zfB {s:ByteArray} (h:0<s.size):(bts s).head?=some ((bts s)[0]'(by rw [zaA];exact h)):=by
 rw [List.head?_eq_getElem?,List.getElem?_eq_getElem (by rw [zaA];exact h)]
theorem zdL {s:ByteArray} (h:s.size=0):zc2 s=false:=by
 have:bts s=[]:=List.eq_nil_of_length_eq_zero (by rw [zaA];exact h)
 simp [zc2,this]
theorem zdk {s:ByteArray} (h:12<s.size):zc2 s=false:=by
 simp [zc2,Nat.not_le.2 h]
theorem zeL {s:ByteArray} (h:0<s.size) (c:¬((97:Int)≤(((bts s)[0]'(by rw [zaA];exact h)).toNat:Int)∧(((bts s)[0]'(by rw [zaA];exact h)).toNat:Int)≤122)):zc2 s=false:=by
 have:zek ((bts s)[0]'(by rw [zaA];exact h))=false:=by simp only [zek,c,decide_false]
 simp [zc2,zfB h,this]
theorem zgp {s:ByteArray} {k:Nat} (h:k<s.size) (c1:¬((97:Int)≤(((bts s)[k]'(by rw [zaA];exact h)).toNat:Int)∧(((bts s)[k]'(by rw [zaA];exact h)).toNat:Int)≤122))
   (c2:¬((48:Int)≤(((bts s)[k]'(by rw [zaA];exact h)).toNat:Int)∧(((bts s)[k]'(by rw [zaA];exact h)).toNat:Int)≤57)):zc2 s=false:=by
 have h1:zek ((bts s)[k]'(by rw [zaA];exact h))=false:=by simp only [zek,c1,decide_false]
 have h2:zfQ ((bts s)[k]'(by rw [zaA];exact h))=false:=by simp only [zfQ,c2,decide_false]
 have:(bts s).all (fun b=>zek b || zfQ b)=false:=by
   rw [List.all_eq_false]
   exact ⟨_,List.getElem_mem (by rw [zaA];exact h),by simp [h1,h2]⟩
 simp [zc2,this]
theorem zcF {s:ByteArray} {k:Nat} (h:k<s.size) (hi:∀ b∈(bts s).take k,(zek b || zfQ b)=true) (c:zek ((bts s)[k]'(by rw [zaA];exact h))=true∨zfQ ((bts s)[k]'(by rw [zaA];exact h))=true) :
   ∀ b∈(bts s).take (k+1),(zek b || zfQ b)=true:=by
 rw [List.take_succ_eq_append_getElem (by rw [zaA];exact h)]
 intro b hb
 rcases List.mem_append.1 hb with hb | hb
 · exact hi b hb
 simp only [List.mem_cons,List.not_mem_nil,or_false] at hb
 subst hb
 simpa using c
theorem zfC {s:ByteArray} {k:Nat} (h0:0<s.size) (h1:s.size≤12) (c:(97:Int)≤(((bts s)[0]'(by rw [zaA];exact h0)).toNat:Int)∧(((bts s)[0]'(by rw [zaA];exact h0)).toNat:Int)≤122) (hk:s.size≤k)
   (hi:∀ b∈(bts s).take k,(zek b || zfQ b)=true):zc2 s=true:=by
 rw [List.take_of_length_le (by rw [zaA];exact hk)] at hi
 have e1:zek ((bts s)[0]'(by rw [zaA];exact h0))=true:=by simp only [zek,c,and_self,decide_true]
 have e2:(bts s).all (fun b=>zek b || zfQ b)=true:=List.all_eq_true.2 hi
 simp [zc2,zfB h0,e1,e2,h1]
def F66 (a0:Value) (w:World) (R:VW):Prop:=
 rN 9 3 a0 w fun x5=>
 rB .eql 3 T0 U0 x5 (iV 0) w fun x6=>
 BR x6
 (R (Value.bool false) w)
 (rN 9 3 a0 w fun x9=>
 rB .gtr 3 T0 U0 x9 (iV 12) w fun x10=>
 BR x10
 (R (Value.bool false) w)
 (rD (Instr.index 9 a0 (iV 0)) w fun x14=>
 cL 74 [x14] w fun x15 w=>
 rD (Op.unary .not x15) w fun x16=>
 BR x16
 (R (Value.bool false) w)
 (LOOPI [3] [(iV 0)] w fun u4 w next4=>
 rN 9 3 a0 w fun x20=>
 rC (u4 3) x20 w fun x21=>
 BR x21
 (rD (Instr.index 9 a0 (u4 3)) w fun x26=>
 cL 74 [x26] w fun x27 w=>
 rD (Op.unary .not x27) w fun x28=>
 BR x28
 (rD (Instr.index 9 a0 (u4 3)) w fun x32=>
 cL 75 [x32] w fun x33 w=>
 rD (Op.unary .not x33) w fun x34=>
 BR x34
 (R (Value.bool false) w)
 (rA (u4 3) (iV 1) w fun x23=>
 next4 [x23] w))
 (rA (u4 3) (iV 1) w fun x23=>
 next4 [x23] w))
 (R (Value.bool true) w))))
def cfg66:Cfg:=⟨extL,[],[(4,68719214604,[3])],[],[],[],[]⟩
theorem F66_call {a0:Value} {w:World} {R:VW} (h:F66 a0 w R):cL 66 [a0] w R:=co (g:=cfg66) Tryd.func66 (by kernel_rfl) (by kernel_rfl) (by kernel_rfl) h
theorem zfR {w:World} {s:ByteArray}    :
   CALL Tryd.prog 66 [.string s] w fun r w'=>Ext w w'∧(r=.bool (zc2 s)):=by
 refine F66_call ?_
 unfold F66
 refine zbU u9 ?_
 refine zan ?_
 refine br (fun c1=>?_) (fun c1=>?_)
 · refine ⟨Ext.refl w,?_⟩
   rw [zdL (by omega)]
 refine zbU u9 ?_
 refine zcb ?_
 refine br (fun c2=>?_) (fun c2=>?_)
 · refine ⟨Ext.refl w,?_⟩
   rw [zdk (by omega)]
 refine zbD (i:=0) u9 (by omega) ?_
 refine (zcZ ).mono ?_
 rintro _ w1_ ⟨hx1_,rfl⟩
 refine zak ?_
 refine br (fun c3=>?_) (fun c3=>?_)
 · refine ⟨hx1_,?_⟩
   rw [zeL (by omega) c3]
 refine zaQ (s.size) (fun k us w'=>us=[.int .i64 (k:Int)]∧Ext w1_ w'∧(∀ b∈(bts s).take k,(zek b || zfQ b)=true)) (0) (by omega) ⟨by simp,Ext.refl w1_,by simp⟩ ?_
 rintro k m4 uu4 w2_ hk4 ⟨hu,hx2_,hinv⟩
 simp only [List.map_cons,List.map_nil,List.cons.injEq,and_true] at hu
 try rw [hu]
 try clear hu
 refine zbU u9 ?_
 refine zah ?_
 refine br (fun c4=>?_) (fun c4=>?_)
 · refine zbD u9 (by omega) ?_
   refine (zcZ ).mono ?_
   rintro _ w3_ ⟨hx3_,rfl⟩
   refine zak ?_
   refine br (fun c5=>?_) (fun c5=>?_)
   · refine zbD u9 (by omega) ?_
     refine (zeK ).mono ?_
     rintro _ w4_ ⟨hx4_,rfl⟩
     refine zak ?_
     refine br (fun c6=>?_) (fun c6=>?_)
     · refine ⟨(hx1_.trans (hx2_.trans (hx3_.trans hx4_))),?_⟩
       rw [zgp (by omega) c5 c6]
     refine zao (by omega) ?_
     refine ⟨m4-1,by omega,k+1,by omega,by simp,(hx2_.trans (hx3_.trans hx4_)),?_⟩
     exact zcF (by omega) hinv (.inr (by simp only [zfQ,Decidable.not_not.1 c6,and_self,decide_true]))
   refine zao (by omega) ?_
   refine ⟨m4-1,by omega,k+1,by omega,by simp,(hx2_.trans hx3_),?_⟩
   exact zcF (by omega) hinv (.inl (by simp only [zek,Decidable.not_not.1 c5,and_self,decide_true]))
 refine ⟨(hx1_.trans hx2_),?_⟩
 rw [zfC (by omega) (by omega) (Decidable.not_not.1 c3) (by omega) hinv]
def F55 (a0:Value) (w:World) (R:VW):Prop:=
 rB .eql 9 T0 U0 a0 (Value.string (ByteArray.mk #[97,110,100])) w fun x5=>
 BR x5
 (R (Value.bool false) w)
 (rB .eql 9 T0 U0 a0 (Value.string (ByteArray.mk #[99,97,108,108])) w fun x6=>
 BR x6
 (R (Value.bool false) w)
 (rB .eql 9 T0 U0 a0 (Value.string (ByteArray.mk #[101,108,115,101])) w fun x7=>
 BR x7
 (R (Value.bool false) w)
 (rB .eql 9 T0 U0 a0 (Value.string (ByteArray.mk #[103,108,111,98,97,108,115])) w fun x8=>
 BR x8
 (R (Value.bool false) w)
 (rB .eql 9 T0 U0 a0 (Value.string (ByteArray.mk #[105,102])) w fun x9=>
 BR x9
 (R (Value.bool false) w)
 (rB .eql 9 T0 U0 a0 (Value.string (ByteArray.mk #[108,111,99,107])) w fun x10=>
 BR x10
 (R (Value.bool false) w)
 (rB .eql 9 T0 U0 a0 (Value.string (ByteArray.mk #[108,111,99,107,115])) w fun x11=>
 BR x11
 (R (Value.bool false) w)
 (rB .eql 9 T0 U0 a0 (Value.string (ByteArray.mk #[110,111,116])) w fun x12=>
 BR x12
 (R (Value.bool false) w)
 (rB .eql 9 T0 U0 a0 (Value.string (ByteArray.mk #[112,114,111,99])) w fun x13=>
 BR x13
 (R (Value.bool false) w)
 (rB .eql 9 T0 U0 a0 (Value.string (ByteArray.mk #[115,107,105,112])) w fun x14=>
 BR x14
 (R (Value.bool false) w)
 (rB .eql 9 T0 U0 a0 (Value.string (ByteArray.mk #[115,112,97,119,110])) w fun x15=>
 BR x15
 (R (Value.bool false) w)
 (rB .eql 9 T0 U0 a0 (Value.string (ByteArray.mk #[117,110,108,111,99,107])) w fun x16=>
 BR x16
 (R (Value.bool false) w)
 (rB .eql 9 T0 U0 a0 (Value.string (ByteArray.mk #[119,104,105,108,101])) w fun x17=>
 BR x17
 (R (Value.bool false) w)
 (cL 66 [a0] w fun x19 w=>
 R x19 w)))))))))))))
def cfg55:Cfg:=⟨extL,[],[],[],[],[],[]⟩
theorem F55_call {a0:Value} {w:World} {R:VW} (h:F55 a0 w R):cL 55 [a0] w R:=co (g:=cfg55) Tryd.func55 (by kernel_rfl) (by kernel_rfl) (by kernel_rfl) h
theorem zcG {w:World} {s:ByteArray}    :
   CALL Tryd.prog 55 [.string s] w fun r w'=>Ext w w'∧(r=.bool (zaB s)):=by
 refine F55_call ?_
 unfold F55
 refine zaq ?_
 refine br (fun c1=>?_) (fun c1=>?_)
 · refine ⟨Ext.refl w,?_⟩
   have hm:s∈kw:=by simp [kw, *]
   simp [zaB,hm]
 refine zaq ?_
 refine br (fun c2=>?_) (fun c2=>?_)
 · refine ⟨Ext.refl w,?_⟩
   have hm:s∈kw:=by simp [kw, *]
   simp [zaB,hm]
 refine zaq ?_
 refine br (fun c3=>?_) (fun c3=>?_)
 · refine ⟨Ext.refl w,?_⟩
   have hm:s∈kw:=by simp [kw, *]
   simp [zaB,hm]
 refine zaq ?_
 refine br (fun c4=>?_) (fun c4=>?_)
 · refine ⟨Ext.refl w,?_⟩
   have hm:s∈kw:=by simp [kw, *]
   simp [zaB,hm]
 refine zaq ?_
 refine br (fun c5=>?_) (fun c5=>?_)
 · refine ⟨Ext.refl w,?_⟩
   have hm:s∈kw:=by simp [kw, *]
   simp [zaB,hm]
 refine zaq ?_
 refine br (fun c6=>?_) (fun c6=>?_)
 · refine ⟨Ext.refl w,?_⟩
   have hm:s∈kw:=by simp [kw, *]
   simp [zaB,hm]
 refine zaq ?_
 refine br (fun c7=>?_) (fun c7=>?_)
 · refine ⟨Ext.refl w,?_⟩
   have hm:s∈kw:=by simp [kw, *]
   simp [zaB,hm]
 refine zaq ?_
 refine br (fun c8=>?_) (fun c8=>?_)
 · refine ⟨Ext.refl w,?_⟩
   have hm:s∈kw:=by simp [kw, *]
   simp [zaB,hm]
 refine zaq ?_
 refine br (fun c9=>?_) (fun c9=>?_)
 · refine ⟨Ext.refl w,?_⟩
   have hm:s∈kw:=by simp [kw, *]
   simp [zaB,hm]
 refine zaq ?_
 refine br (fun c10=>?_) (fun c10=>?_)
 · refine ⟨Ext.refl w,?_⟩
   have hm:s∈kw:=by simp [kw, *]
   simp [zaB,hm]
 refine zaq ?_
 refine br (fun c11=>?_) (fun c11=>?_)
 · refine ⟨Ext.refl w,?_⟩
   have hm:s∈kw:=by simp [kw, *]
   simp [zaB,hm]
 refine zaq ?_
 refine br (fun c12=>?_) (fun c12=>?_)
 · refine ⟨Ext.refl w,?_⟩
   have hm:s∈kw:=by simp [kw, *]
   simp [zaB,hm]
 refine zaq ?_
 refine br (fun c13=>?_) (fun c13=>?_)
 · refine ⟨Ext.refl w,?_⟩
   have hm:s∈kw:=by simp [kw, *]
   simp [zaB,hm]
 refine (zfR ).mono ?_
 rintro _ w1_ ⟨hx1_,rfl⟩
 refine ⟨hx1_,?_⟩
 have hm:s∉kw:=by simp [kw, *]
 simp [zaB,hm]
def F60 (a0:Value) (w:World) (R:VW):Prop:=
 rN 9 3 a0 w fun x5=>
 rB .lss 3 T0 U0 x5 (iV 1) w fun x6=>
 BR x6
 (R (Value.bool false) w)
 (rN 9 3 a0 w fun x9=>
 rB .gtr 3 T0 U0 x9 (iV 12) w fun x10=>
 BR x10
 (R (Value.bool false) w)
 (rD (Instr.index 9 a0 (iV 0)) w fun x14=>
 cL 67 [x14] w fun x15 w=>
 rD (Op.unary .not x15) w fun x16=>
 BR x16
 (R (Value.bool false) w)
 (LOOPI [3] [(iV 0)] w fun u4 w next4=>
 rN 9 3 a0 w fun x20=>
 rC (u4 3) x20 w fun x21=>
 BR x21
 (rD (Instr.index 9 a0 (u4 3)) w fun x26=>
 cL 67 [x26] w fun x27 w=>
 rD (Op.unary .not x27) w fun x28=>
 BR x28
 (rD (Instr.index 9 a0 (u4 3)) w fun x32=>
 cL 68 [x32] w fun x33 w=>
 rD (Op.unary .not x33) w fun x34=>
 BR x34
 (R (Value.bool false) w)
 (rA (u4 3) (iV 1) w fun x23=>
 next4 [x23] w))
 (rA (u4 3) (iV 1) w fun x23=>
 next4 [x23] w))
 (rB .eql 9 T0 U0 a0 (Value.string (ByteArray.mk #[97,110,100])) w fun x38=>
 BR x38
 (R (Value.bool false) w)
 (rB .eql 9 T0 U0 a0 (Value.string (ByteArray.mk #[99,97,108,108])) w fun x39=>
 BR x39
 (R (Value.bool false) w)
 (rB .eql 9 T0 U0 a0 (Value.string (ByteArray.mk #[101,108,115,101])) w fun x40=>
 BR x40
 (R (Value.bool false) w)
 (rB .eql 9 T0 U0 a0 (Value.string (ByteArray.mk #[103,108,111,98,97,108,115])) w fun x41=>
 BR x41
 (R (Value.bool false) w)
 (rB .eql 9 T0 U0 a0 (Value.string (ByteArray.mk #[105,102])) w fun x42=>
 BR x42
 (R (Value.bool false) w)
 (rB .eql 9 T0 U0 a0 (Value.string (ByteArray.mk #[108,111,99,107])) w fun x43=>
 BR x43
 (R (Value.bool false) w)
 (rB .eql 9 T0 U0 a0 (Value.string (ByteArray.mk #[108,111,99,107,115])) w fun x44=>
 BR x44
 (R (Value.bool false) w)
 (rB .eql 9 T0 U0 a0 (Value.string (ByteArray.mk #[110,111,116])) w fun x45=>
 BR x45
 (R (Value.bool false) w)
 (rB .eql 9 T0 U0 a0 (Value.string (ByteArray.mk #[112,114,111,99])) w fun x46=>
 BR x46
 (R (Value.bool false) w)
 (rB .eql 9 T0 U0 a0 (Value.string (ByteArray.mk #[115,107,105,112])) w fun x47=>
 BR x47
 (R (Value.bool false) w)
 (rB .eql 9 T0 U0 a0 (Value.string (ByteArray.mk #[115,112,97,119,110])) w fun x48=>
 BR x48
 (R (Value.bool false) w)
 (rB .eql 9 T0 U0 a0 (Value.string (ByteArray.mk #[117,110,108,111,99,107])) w fun x49=>
 BR x49
 (R (Value.bool false) w)
 (rB .eql 9 T0 U0 a0 (Value.string (ByteArray.mk #[119,104,105,108,101])) w fun x50=>
 BR x50
 (R (Value.bool false) w)
 (R (Value.bool true) w)))))))))))))))))
def cfg60:Cfg:=⟨extL,[],[(4,68719214604,[3])],[],[],[],[]⟩
theorem F60_call {a0:Value} {w:World} {R:VW} (h:F60 a0 w R):cL 60 [a0] w R:=co (g:=cfg60) Tryd.func60 (by kernel_rfl) (by kernel_rfl) (by kernel_rfl) h
theorem zcH {w:World} {s:ByteArray}    :
   CALL Tryd.prog 60 [.string s] w fun r w'=>Ext w w'∧(r=.bool (zaB s)):=by
 refine F60_call ?_
 unfold F60
 refine zbU u9 ?_
 refine zah ?_
 refine br (fun c1=>?_) (fun c1=>?_)
 · refine ⟨Ext.refl w,?_⟩
   simp [zaB,zdL (s:=s) (by omega)]
 refine zbU u9 ?_
 refine zcb ?_
 refine br (fun c2=>?_) (fun c2=>?_)
 · refine ⟨Ext.refl w,?_⟩
   simp [zaB,zdk (s:=s) (by omega)]
 refine zbD (i:=0) u9 (by omega) ?_
 refine (zdK ).mono ?_
 rintro _ w1_ ⟨hx1_,rfl⟩
 refine zak ?_
 refine br (fun c3=>?_) (fun c3=>?_)
 · refine ⟨hx1_,?_⟩
   simp [zaB,zeL (s:=s) (by omega) c3]
 refine zaQ (s.size) (fun k us w'=>us=[.int .i64 (k:Int)]∧Ext w1_ w'∧(∀ b∈(bts s).take k,(zek b || zfQ b)=true)) (0) (by omega) ⟨by simp,Ext.refl w1_,by simp⟩ ?_
 rintro k m4 uu4 w2_ hk4 ⟨hu,hx2_,hinv⟩
 simp only [List.map_cons,List.map_nil,List.cons.injEq,and_true] at hu
 try rw [hu]
 try clear hu
 refine zbU u9 ?_
 refine zah ?_
 refine br (fun c4=>?_) (fun c4=>?_)
 · refine zbD u9 (by omega) ?_
   refine (zdK ).mono ?_
   rintro _ w3_ ⟨hx3_,rfl⟩
   refine zak ?_
   refine br (fun c5=>?_) (fun c5=>?_)
   · refine zbD u9 (by omega) ?_
     refine (zfe ).mono ?_
     rintro _ w4_ ⟨hx4_,rfl⟩
     refine zak ?_
     refine br (fun c6=>?_) (fun c6=>?_)
     · refine ⟨(hx1_.trans (hx2_.trans (hx3_.trans hx4_))),?_⟩
       simp [zaB,zgp (s:=s) (by omega) c5 c6]
     refine zao (by omega) ?_
     refine ⟨m4-1,by omega,k+1,by omega,by simp,(hx2_.trans (hx3_.trans hx4_)),?_⟩
     exact zcF (by omega) hinv (.inr (by simp only [zfQ,Decidable.not_not.1 c6,and_self,decide_true]))
   refine zao (by omega) ?_
   refine ⟨m4-1,by omega,k+1,by omega,by simp,(hx2_.trans hx3_),?_⟩
   exact zcF (by omega) hinv (.inl (by simp only [zek,Decidable.not_not.1 c5,and_self,decide_true]))
 refine zaq ?_
 refine br (fun c7=>?_) (fun c7=>?_)
 · refine ⟨(hx1_.trans hx2_),?_⟩
   have hm:s∈kw:=by simp only [kw,List.mem_cons, *,true_or,or_true]
   simp [zaB,hm]
 refine zaq ?_
 refine br (fun c8=>?_) (fun c8=>?_)
 · refine ⟨(hx1_.trans hx2_),?_⟩
   have hm:s∈kw:=by simp only [kw,List.mem_cons, *,true_or,or_true]
   simp [zaB,hm]
 refine zaq ?_
 refine br (fun c9=>?_) (fun c9=>?_)
 · refine ⟨(hx1_.trans hx2_),?_⟩
   have hm:s∈kw:=by simp only [kw,List.mem_cons, *,true_or,or_true]
   simp [zaB,hm]
 refine zaq ?_
 refine br (fun c10=>?_) (fun c10=>?_)
 · refine ⟨(hx1_.trans hx2_),?_⟩
   have hm:s∈kw:=by simp only [kw,List.mem_cons, *,true_or,or_true]
   simp [zaB,hm]
 refine zaq ?_
 refine br (fun c11=>?_) (fun c11=>?_)
 · refine ⟨(hx1_.trans hx2_),?_⟩
   have hm:s∈kw:=by simp only [kw,List.mem_cons, *,true_or,or_true]
   simp [zaB,hm]
 refine zaq ?_
 refine br (fun c12=>?_) (fun c12=>?_)
 · refine ⟨(hx1_.trans hx2_),?_⟩
   have hm:s∈kw:=by simp only [kw,List.mem_cons, *,true_or,or_true]
   simp [zaB,hm]
 refine zaq ?_
 refine br (fun c13=>?_) (fun c13=>?_)
 · refine ⟨(hx1_.trans hx2_),?_⟩
   have hm:s∈kw:=by simp only [kw,List.mem_cons, *,true_or,or_true]
   simp [zaB,hm]
 refine zaq ?_
 refine br (fun c14=>?_) (fun c14=>?_)
 · refine ⟨(hx1_.trans hx2_),?_⟩
   have hm:s∈kw:=by simp only [kw,List.mem_cons, *,true_or,or_true]
   simp [zaB,hm]
 refine zaq ?_
 refine br (fun c15=>?_) (fun c15=>?_)
 · refine ⟨(hx1_.trans hx2_),?_⟩
   have hm:s∈kw:=by simp only [kw,List.mem_cons, *,true_or,or_true]
   simp [zaB,hm]
 refine zaq ?_
 refine br (fun c16=>?_) (fun c16=>?_)
 · refine ⟨(hx1_.trans hx2_),?_⟩
   have hm:s∈kw:=by simp only [kw,List.mem_cons, *,true_or,or_true]
   simp [zaB,hm]
 refine zaq ?_
 refine br (fun c17=>?_) (fun c17=>?_)
 · refine ⟨(hx1_.trans hx2_),?_⟩
   have hm:s∈kw:=by simp only [kw,List.mem_cons, *,true_or,or_true]
   simp [zaB,hm]
 refine zaq ?_
 refine br (fun c18=>?_) (fun c18=>?_)
 · refine ⟨(hx1_.trans hx2_),?_⟩
   have hm:s∈kw:=by simp only [kw,List.mem_cons, *,true_or,or_true]
   simp [zaB,hm]
 refine zaq ?_
 refine br (fun c19=>?_) (fun c19=>?_)
 · refine ⟨(hx1_.trans hx2_),?_⟩
   have hm:s∈kw:=by simp only [kw,List.mem_cons, *,true_or,or_true]
   simp [zaB,hm]
 refine ⟨(hx1_.trans hx2_),?_⟩
 have hm:s∉kw:=by simp only [kw,List.mem_cons,List.not_mem_nil,or_false, *,not_false_eq_true]
 simp [zaB,hm,zfC (by omega) (by omega) (Decidable.not_not.1 c3) (by omega) hinv]
def zaF:Nat→DTerm→Bool
 | n,.mk k num s ks=>
   if k=1 then decide (0≤num∧num≤1000000000)&&decide (s=ByteArray.mk #[])&&decide ((ks.length:Int)=0)
   else if k=2 then decide (num=0)&&zaB s&&decide ((ks.length:Int)=0)
   else decide (3≤k∧k≤9)&&decide (num=0)&&decide (s=ByteArray.mk #[])&&decide ((ks.length:Int)=if k=8 then 1 else 2) &&
     (match n with | 0=>false | m+1=>ks.all (zaF m))
theorem zbw {n:Nat} {t:DTerm} (h:t.kind=1):zaF n t=(decide (0≤t.num∧t.num≤1000000000)&&decide (t.name=ByteArray.mk #[])&&decide ((t.kids.length:Int)=0)):=by
 obtain ⟨k,num,s,ks⟩:=t
 have:k=1:=h
 unfold zaF;rw [if_pos this];rfl
theorem zb6 {n:Nat} {t:DTerm} (h:t.kind=2):zaF n t=(decide (t.num=0)&&zaB t.name&&decide ((t.kids.length:Int)=0)):=by
 obtain ⟨k,num,s,ks⟩:=t
 have:k=2:=h
 unfold zaF;rw [if_neg (by omega),if_pos this];rfl
theorem zax {n:Nat} {t:DTerm} (h1:¬t.kind=1) (h2:¬t.kind=2):zaF n t =
   (decide (3≤t.kind∧t.kind≤9)&&decide (t.num=0)&&decide (t.name=ByteArray.mk #[])&&decide ((t.kids.length:Int)=if t.kind=8 then 1 else 2)&&(match n with | 0=>false | m+1=>t.kids.all (zaF m))):=by
 obtain ⟨k,num,s,ks⟩:=t
 have h1:¬k=1:=h1
 have h2:¬k=2:=h2
 unfold zaF;rw [if_neg h1,if_neg h2];rfl
theorem zc5 {α:Type} {p:α→Bool} {l:List α} {k:Nat} (hk:k<l.length) (h:(l.take k).all p=true) (hp:p l[k]=true):(l.take (k+1)).all p=true:=by
 rw [List.take_succ_eq_append_getElem hk,List.all_append,h];simp [hp]
theorem zcI {α:Type} {p:α→Bool} {l:List α} {k:Nat} (hk:k<l.length) (hp:p l[k]=false):l.all p=false:=by
 rw [List.all_eq_false];exact ⟨_,List.getElem_mem hk,by simp [hp]⟩
theorem zc6 {α:Type} {p:α→Bool} {l:List α} {k:Nat} (hk:l.length≤k) (h:(l.take k).all p=true):l.all p=true:=by
 rwa [List.take_of_length_le hk] at h
def zir (f:Nat) (n:Nat):Prop:=∀ {w W:World} {v:Value} {t:DTerm} {d:Int},Is W v t→Ext W w→d=(n:Int) →
 CALL Tryd.prog f [v,.int .i64 d] w fun r w'=>Ext w w'∧r=.bool (zaF n t)
def F62 (a0 a1:Value) (w:World) (R:VW):Prop:=
 oP (Instr.box 62 a0) w fun x2 w=>
 JOIN [] (fun J18=>
 rF 62 x2 0 w fun x7=>
 rL 3 x7 w fun x8=>
 rB .eql 3 T0 U0 x8 (iV 1) w fun x10=>
 BR x10
 (rF 62 x2 1 w fun x11=>
 rL 3 x11 w fun x12=>
 rB .geq 3 T0 U0 x12 (iV 0) w fun x13=>
 BR x13
 (rF 62 x2 1 w fun x15=>
 rL 3 x15 w fun x16=>
 rB .leq 3 T0 U0 x16 (iV 1000000000) w fun x17=>
 BR x17
 (rF 62 x2 2 w fun x20=>
 rL 9 x20 w fun x21=>
 rB .eql 9 T0 U0 x21 (Value.string (ByteArray.mk #[])) w fun x22=>
 BR x22
 (rF 62 x2 3 w fun x25=>
 rL 60 x25 w fun x26=>
 rN 60 3 x26 w fun x27=>
 rB .eql 3 T0 U0 x27 (iV 0) w fun x28=>
 R x28 w)
 (R (Value.bool false) w))
 (R (Value.bool false) w))
 (R (Value.bool false) w))
 (rB .eql 3 T0 U0 x8 (iV 2) w fun x31=>
 BR x31
 (rF 62 x2 1 w fun x32=>
 rL 3 x32 w fun x33=>
 rB .eql 3 T0 U0 x33 (iV 0) w fun x34=>
 BR x34
 (rF 62 x2 2 w fun x36=>
 rL 9 x36 w fun x37=>
 cL 60 [x37] w fun x38 w=>
 BR x38
 (rF 62 x2 3 w fun x41=>
 rL 60 x41 w fun x42=>
 rN 60 3 x42 w fun x43=>
 rB .eql 3 T0 U0 x43 (iV 0) w fun x44=>
 R x44 w)
 (R (Value.bool false) w))
 (R (Value.bool false) w))
 (rB .eql 3 T0 U0 x8 (iV 3) w fun x47=>
 BR x47
 (rF 62 x2 3 w fun x53=>
 rL 60 x53 w fun x54=>
 rN 60 3 x54 w fun x55=>
 rB .neq 3 T0 U0 x55 (iV 2) w fun x56=>
 BR x56
 (R (Value.bool false) w)
 (J18 [] w))
 (rB .eql 3 T0 U0 x8 (iV 4) w fun x48=>
 BR x48
 (rF 62 x2 3 w fun x53=>
 rL 60 x53 w fun x54=>
 rN 60 3 x54 w fun x55=>
 rB .neq 3 T0 U0 x55 (iV 2) w fun x56=>
 BR x56
 (R (Value.bool false) w)
 (J18 [] w))
 (rB .eql 3 T0 U0 x8 (iV 5) w fun x49=>
 BR x49
 (rF 62 x2 3 w fun x53=>
 rL 60 x53 w fun x54=>
 rN 60 3 x54 w fun x55=>
 rB .neq 3 T0 U0 x55 (iV 2) w fun x56=>
 BR x56
 (R (Value.bool false) w)
 (J18 [] w))
 (rB .eql 3 T0 U0 x8 (iV 6) w fun x50=>
 BR x50
 (rF 62 x2 3 w fun x53=>
 rL 60 x53 w fun x54=>
 rN 60 3 x54 w fun x55=>
 rB .neq 3 T0 U0 x55 (iV 2) w fun x56=>
 BR x56
 (R (Value.bool false) w)
 (J18 [] w))
 (rB .eql 3 T0 U0 x8 (iV 7) w fun x51=>
 BR x51
 (rF 62 x2 3 w fun x53=>
 rL 60 x53 w fun x54=>
 rN 60 3 x54 w fun x55=>
 rB .neq 3 T0 U0 x55 (iV 2) w fun x56=>
 BR x56
 (R (Value.bool false) w)
 (J18 [] w))
 (rB .eql 3 T0 U0 x8 (iV 9) w fun x52=>
 BR x52
 (rF 62 x2 3 w fun x53=>
 rL 60 x53 w fun x54=>
 rN 60 3 x54 w fun x55=>
 rB .neq 3 T0 U0 x55 (iV 2) w fun x56=>
 BR x56
 (R (Value.bool false) w)
 (J18 [] w))
 (rB .eql 3 T0 U0 x8 (iV 8) w fun x58=>
 BR x58
 (rF 62 x2 3 w fun x59=>
 rL 60 x59 w fun x60=>
 rN 60 3 x60 w fun x61=>
 rB .neq 3 T0 U0 x61 (iV 1) w fun x62=>
 BR x62
 (R (Value.bool false) w)
 (J18 [] w))
 (R (Value.bool false) w)))))))))) (fun u18 w=>
 rF 62 x2 1 w fun x63=>
 rL 3 x63 w fun x64=>
 rB .neq 3 T0 U0 x64 (iV 0) w fun x65=>
 BR x65
 (R (Value.bool false) w)
 (rF 62 x2 2 w fun x67=>
 rL 9 x67 w fun x68=>
 rB .neq 9 T0 U0 x68 (Value.string (ByteArray.mk #[])) w fun x69=>
 BR x69
 (R (Value.bool false) w)
 (rB .eql 3 T0 U0 a1 (iV 0) w fun x73=>
 BR x73
 (R (Value.bool false) w)
 (rF 62 x2 3 w fun x75=>
 rL 60 x75 w fun x76=>
 rN 60 3 x76 w fun x77=>
 LOOPI [78] [(iV 0)] w fun u21 w next21=>
 rC (u21 78) x77 w fun x79=>
 BR x79
 (rX 60 x76 (u21 78) w fun x80=>
 rL 62 x80 w fun x81=>
 oP (Instr.alloc 62 true (.tuple #[])) w fun x6 w=>
 oS 62 x6 x81 w fun w=>
 rL 62 x6 w fun x82=>
 rB .sub 3 T0 U0 a1 (iV 1) w fun x84=>
 cL 62 [x82,x84] w fun x85 w=>
 rD (Op.unary .not x85) w fun x86=>
 BR x86
 (R (Value.bool false) w)
 (rA (u21 78) (iV 1) w fun x87=>
 next21 [x87] w))
 (R (Value.bool true) w)))))
def cfg62:Cfg:=⟨extL,[(18,9223372036854775696,[])],[(21,309182778366441411431104592,[78])],[],[],[],[]⟩
theorem F62_call {a0 a1:Value} {w:World} {R:VW} (h:F62 a0 a1 w R):cL 62 [a0,a1] w R:=co (g:=cfg62) Tryd.func62 (by kernel_rfl) (by kernel_rfl) (by kernel_rfl) h
theorem zd7 {w:World} {v0:Value} {W0:World} {t:DTerm} {d:Int} {n:Nat} (h0:Is W0 v0 t) (e0:Ext W0 w) (hd:d=(n:Int)) (ih:∀ m,m+1=n→zir 62 m) (hn:n≤6) :
   CALL Tryd.prog 62 [v0,.int .i64 d] w fun r w'=>Ext w w'∧(r=.bool (zaF n t)):=by
 refine F62_call ?_
 unfold F62
 refine zam zbq rfl h0 e0 fun w1_ hx1_ hA2 hV2=>?_
 refine JOIN.mk (fun us w'=>us=[]∧Ext w1_ w'∧(3≤t.kind∧t.kind≤9∧(t.kids.length:Int)=(if t.kind=8 then 1 else 2))) ?_ ?_
 · refine zaa zbP ?_
   refine zac ty3 (zaG hA2) (Ext.refl w1_) fun hI8=>?_
   refine zan ?_
   refine br (fun c1=>?_) (fun c1=>?_)
   · refine zaa zbF ?_
     refine zac ty3 (zaD hA2) (Ext.refl w1_) fun hI12=>?_
     refine zbf ?_
     refine br (fun c2=>?_) (fun c2=>?_)
     · refine zaa zbF ?_
       refine zac ty3 (zaD hA2) (Ext.refl w1_) fun hI16=>?_
       refine zca ?_
       refine br (fun c3=>?_) (fun c3=>?_)
       · refine zaa zbn ?_
         refine zai ty9 (zau hA2) (Ext.refl w1_) fun hS21=>?_
         refine zaq ?_
         refine br (fun c4=>?_) (fun c4=>?_)
         · refine zaa zaS ?_
           refine zab zc0 (zaj hA2) (Ext.refl w1_) fun v26 h26=>?_
           have hln27:=zad h26
           refine zae u60 h26 ?_
           refine zan ?_
           refine ⟨hx1_,?_⟩
           rw [zbw c1];simp only [c2,c3,c4,and_self,decide_true,Bool.true_and]
         refine ⟨hx1_,?_⟩
         rw [zbw c1];simp only [c4,decide_false,Bool.and_false,Bool.false_and]
       refine ⟨hx1_,?_⟩
       rw [zbw c1];simp only [c3,and_false,decide_false,Bool.false_and]
     refine ⟨hx1_,?_⟩
     rw [zbw c1];simp only [c2,false_and,decide_false,Bool.false_and]
   refine zan ?_
   refine br (fun c5=>?_) (fun c5=>?_)
   · refine zaa zbF ?_
     refine zac ty3 (zaD hA2) (Ext.refl w1_) fun hI33=>?_
     refine zan ?_
     refine br (fun c6=>?_) (fun c6=>?_)
     · refine zaa zbn ?_
       refine zai ty9 (zau hA2) (Ext.refl w1_) fun hS37=>?_
       refine (zcH ).mono ?_
       rintro _ w3_ ⟨hx3_,rfl⟩
       refine zej (fun c7=>?_) (fun c7=>?_)
       · refine zaa zaS ?_
         refine zab zc0 (zaj hA2) hx3_ fun v42 h42=>?_
         have hln43:=zad h42
         refine zae u60 h42 ?_
         refine zan ?_
         refine ⟨(hx1_.trans hx3_),?_⟩
         rw [zb6 c5];simp only [c6,c7,decide_true,Bool.true_and]
       refine ⟨(hx1_.trans hx3_),?_⟩
       rw [zb6 c5];simp only [c6,c7,decide_true,Bool.true_and,Bool.false_and]
     refine ⟨hx1_,?_⟩
     rw [zb6 c5];simp only [c6,decide_false,Bool.false_and]
   refine zan ?_
   refine br (fun c8=>?_) (fun c8=>?_)
   · refine zaa zaS ?_
     refine zab zc0 (zaj hA2) (Ext.refl w1_) fun v54 h54=>?_
     have hln55:=zad h54
     refine zae u60 h54 ?_
     refine zaC ?_
     refine br (fun c9=>?_) (fun c9=>?_)
     · refine ⟨hx1_,?_⟩
       rw [zax c1 c5];simp [show ¬t.kind=8 by omega,show ¬(t.kids.length:Int)=2 from c9]
     refine ⟨by simp,Ext.refl w1_,?_⟩
     split<;>omega
   refine zan ?_
   refine br (fun c10=>?_) (fun c10=>?_)
   · refine zaa zaS ?_
     refine zab zc0 (zaj hA2) (Ext.refl w1_) fun v54 h54=>?_
     have hln55:=zad h54
     refine zae u60 h54 ?_
     refine zaC ?_
     refine br (fun c11=>?_) (fun c11=>?_)
     · refine ⟨hx1_,?_⟩
       rw [zax c1 c5];simp [show ¬t.kind=8 by omega,show ¬(t.kids.length:Int)=2 from c11]
     refine ⟨by simp,Ext.refl w1_,?_⟩
     split<;>omega
   refine zan ?_
   refine br (fun c12=>?_) (fun c12=>?_)
   · refine zaa zaS ?_
     refine zab zc0 (zaj hA2) (Ext.refl w1_) fun v54 h54=>?_
     have hln55:=zad h54
     refine zae u60 h54 ?_
     refine zaC ?_
     refine br (fun c13=>?_) (fun c13=>?_)
     · refine ⟨hx1_,?_⟩
       rw [zax c1 c5];simp [show ¬t.kind=8 by omega,show ¬(t.kids.length:Int)=2 from c13]
     refine ⟨by simp,Ext.refl w1_,?_⟩
     split<;>omega
   refine zan ?_
   refine br (fun c14=>?_) (fun c14=>?_)
   · refine zaa zaS ?_
     refine zab zc0 (zaj hA2) (Ext.refl w1_) fun v54 h54=>?_
     have hln55:=zad h54
     refine zae u60 h54 ?_
     refine zaC ?_
     refine br (fun c15=>?_) (fun c15=>?_)
     · refine ⟨hx1_,?_⟩
       rw [zax c1 c5];simp [show ¬t.kind=8 by omega,show ¬(t.kids.length:Int)=2 from c15]
     refine ⟨by simp,Ext.refl w1_,?_⟩
     split<;>omega
   refine zan ?_
   refine br (fun c16=>?_) (fun c16=>?_)
   · refine zaa zaS ?_
     refine zab zc0 (zaj hA2) (Ext.refl w1_) fun v54 h54=>?_
     have hln55:=zad h54
     refine zae u60 h54 ?_
     refine zaC ?_
     refine br (fun c17=>?_) (fun c17=>?_)
     · refine ⟨hx1_,?_⟩
       rw [zax c1 c5];simp [show ¬t.kind=8 by omega,show ¬(t.kids.length:Int)=2 from c17]
     refine ⟨by simp,Ext.refl w1_,?_⟩
     split<;>omega
   refine zan ?_
   refine br (fun c18=>?_) (fun c18=>?_)
   · refine zaa zaS ?_
     refine zab zc0 (zaj hA2) (Ext.refl w1_) fun v54 h54=>?_
     have hln55:=zad h54
     refine zae u60 h54 ?_
     refine zaC ?_
     refine br (fun c19=>?_) (fun c19=>?_)
     · refine ⟨hx1_,?_⟩
       rw [zax c1 c5];simp [show ¬t.kind=8 by omega,show ¬(t.kids.length:Int)=2 from c19]
     refine ⟨by simp,Ext.refl w1_,?_⟩
     split<;>omega
   refine zan ?_
   refine br (fun c20=>?_) (fun c20=>?_)
   · refine zaa zaS ?_
     refine zab zc0 (zaj hA2) (Ext.refl w1_) fun v60 h60=>?_
     have hln61:=zad h60
     refine zae u60 h60 ?_
     refine zaC ?_
     refine br (fun c21=>?_) (fun c21=>?_)
     · refine ⟨hx1_,?_⟩
       rw [zax c1 c5];simp [c20,show ¬(t.kids.length:Int)=1 from c21]
     refine ⟨by simp,Ext.refl w1_,?_⟩
     split<;>omega
   refine ⟨hx1_,?_⟩
   rw [zax c1 c5];simp [show ¬(3≤t.kind∧t.kind≤9) by omega]
 rintro uj18 w2_ ⟨hu,hx3_,hk1,hk2,hk3⟩
 simp only [List.map_cons,List.map_nil,List.cons.injEq,and_true] at hu
 clear hu
 refine zaa zbF ?_
 refine zac ty3 (zaD hA2) hx3_ fun hI64=>?_
 refine zaC ?_
 refine br (fun c22=>?_) (fun c22=>?_)
 · refine ⟨(hx1_.trans hx3_),?_⟩
   rw [zax (by omega) (by omega)];simp [c22]
 refine zaa zbn ?_
 refine zai ty9 (zau hA2) hx3_ fun hS68=>?_
 refine zcN ?_
 refine br (fun c23=>?_) (fun c23=>?_)
 · refine ⟨(hx1_.trans hx3_),?_⟩
   rw [zax (by omega) (by omega)];simp [c23]
 refine zan ?_
 refine br (fun c24=>?_) (fun c24=>?_)
 · refine ⟨(hx1_.trans hx3_),?_⟩
   rw [zax (by omega) (by omega)];simp [show n=0 by omega]
 refine zaa zaS ?_
 refine zab zc0 (zaj hA2) hx3_ fun v76 h76=>?_
 have hln77:=zad h76
 refine zae u60 h76 ?_
 refine zaQ (t.kids.length) (fun k us w'=>us=[.int .i64 (k:Int)]∧Ext w2_ w'∧((t.kids.take k).all (zaF (n-1))=true)) (0) (by omega) ⟨by simp,Ext.refl w2_,by simp⟩ ?_
 rintro k m21 uu21 w4_ hk21 ⟨hu,hx4_,hinv⟩
 simp only [List.map_cons,List.map_nil,List.cons.injEq,and_true] at hu
 try rw [hu]
 try clear hu
 refine zah ?_
 refine br (fun c25=>?_) (fun c25=>?_)
 · refine zaf u60 zbq h76 (by omega) fun b80 o80 h80=>?_
   refine zab zbq h80 (hx3_.trans hx4_) fun v81 h81=>?_
   refine zdG zic rfl zbq rfl h81 (hx3_.trans hx4_) fun w5_ hx5_ hA6 hV6=>?_
   refine zaL hV6 (Ext.refl w5_) ?_
   refine zaW (by unfold I64;omega) ?_
   refine (ih (n-1) (by omega) h81 (hx3_.trans (hx4_.trans hx5_)) (by omega)).mono ?_
   rintro _ w6_ ⟨hx6_,rfl⟩
   refine zbg ?_
   refine zej (fun c26=>?_) (fun c26=>?_)
   · refine ⟨(hx1_.trans (hx3_.trans (hx4_.trans (hx5_.trans hx6_)))),?_⟩
     rw [zax (by omega) (by omega)]
     obtain ⟨m,rfl⟩:∃ m,n=m+1:=⟨n-1,by omega⟩
     rw [Bool.not_eq_true',Nat.add_sub_cancel] at c26
     simp only [zcI (by omega) c26,Bool.and_false]
   have hln:=zad h76
   refine zao (by omega) ?_
   refine ⟨m21-1,by omega,k+1,by omega,by simp,(hx4_.trans (hx5_.trans hx6_)),?_⟩
   exact zc5 (by omega) hinv (by simpa using c26)
 refine ⟨(hx1_.trans (hx3_.trans hx4_)),?_⟩
 rw [zax (by omega) (by omega)]
 obtain ⟨m,rfl⟩:∃ m,n=m+1:=⟨n-1,by omega⟩
 rw [Nat.add_sub_cancel] at hinv
 simp only [show 3≤t.kind∧t.kind≤9 from ⟨hk1,hk2⟩,Decidable.not_not.1 c22,Decidable.not_not.1 c23,hk3,zc6 (by omega) hinv,and_self,decide_true,Bool.and_self]
theorem zdl:∀ (n:Nat),n≤6→zir 62 n
 | n,hn=>by intro h e hd;exact zd7 h e hd (fun m hm=>zdl m (by omega)) hn
def F49 (a0:Value) (w:World) (R:VW):Prop:=
 oP (Instr.box 62 a0) w fun x1 w=>
 rL 62 x1 w fun x3=>
 cL 62 [x3,(iV 6)] w fun x4 w=>
 R x4 w
def cfg49:Cfg:=⟨extL,[],[],[],[],[],[]⟩
theorem F49_call {a0:Value} {w:World} {R:VW} (h:F49 a0 w R):cL 49 [a0] w R:=co (g:=cfg49) Tryd.func49 (by kernel_rfl) (by kernel_rfl) (by kernel_rfl) h
theorem zbM {w:World} {v0:Value} {W0:World} {t:DTerm}  (h0:Is W0 v0 t) (e0:Ext W0 w)  :
   CALL Tryd.prog 49 [v0] w fun r w'=>Ext w w'∧(r=.bool (zaF 6 t)):=by
 refine F49_call ?_
 unfold F49
 refine zam zbq rfl h0 e0 fun w1_ hx1_ hA1 hV1=>?_
 refine zaL hV1 (Ext.refl w1_) ?_
 refine ((zdl 6 (by omega)) h0 (e0.trans hx1_) rfl).mono ?_
 rintro _ w2_ ⟨hx2_,rfl⟩
 refine ⟨(hx1_.trans hx2_),?_⟩
 rfl
def F57 (a0 a1:Value) (w:World) (R:VW):Prop:=
 oP (Instr.box 62 a0) w fun x2 w=>
 rF 62 x2 0 w fun x7=>
 rL 3 x7 w fun x8=>
 rB .eql 3 T0 U0 x8 (iV 1) w fun x10=>
 BR x10
 (rF 62 x2 1 w fun x11=>
 rL 3 x11 w fun x12=>
 cL 14 [x12,(iV 0),(iV 1000000000)] w fun x13 w=>
 BR x13
 (rF 62 x2 2 w fun x15=>
 rL 9 x15 w fun x16=>
 rB .eql 9 T0 U0 x16 (Value.string (ByteArray.mk #[])) w fun x17=>
 BR x17
 (rF 62 x2 3 w fun x20=>
 rL 60 x20 w fun x21=>
 rN 60 3 x21 w fun x22=>
 rB .eql 3 T0 U0 x22 (iV 0) w fun x23=>
 R x23 w)
 (R (Value.bool false) w))
 (R (Value.bool false) w))
 (rB .eql 3 T0 U0 x8 (iV 2) w fun x26=>
 BR x26
 (rF 62 x2 1 w fun x27=>
 rL 3 x27 w fun x28=>
 rB .eql 3 T0 U0 x28 (iV 0) w fun x29=>
 BR x29
 (rF 62 x2 2 w fun x31=>
 rL 9 x31 w fun x32=>
 cL 55 [x32] w fun x33 w=>
 BR x33
 (rF 62 x2 3 w fun x36=>
 rL 60 x36 w fun x37=>
 rN 60 3 x37 w fun x38=>
 rB .eql 3 T0 U0 x38 (iV 0) w fun x39=>
 R x39 w)
 (R (Value.bool false) w))
 (R (Value.bool false) w))
 (JOIN [5] (fun J9=>
 rF 62 x2 0 w fun x41=>
 rL 3 x41 w fun x42=>
 rB .eql 3 T0 U0 x42 (iV 8) w fun x43=>
 BR x43
 (J9 [(iV 1)] w)
 (J9 [(iV 2)] w)) (fun u9 w=>
 rF 62 x2 0 w fun x44=>
 rL 3 x44 w fun x45=>
 cL 14 [x45,(iV 3),(iV 9)] w fun x46 w=>
 rD (Op.unary .not x46) w fun x47=>
 BR x47
 (R (Value.bool false) w)
 (rF 62 x2 1 w fun x49=>
 rL 3 x49 w fun x50=>
 rB .neq 3 T0 U0 x50 (iV 0) w fun x51=>
 BR x51
 (R (Value.bool false) w)
 (rF 62 x2 2 w fun x54=>
 rL 9 x54 w fun x55=>
 rB .neq 9 T0 U0 x55 (Value.string (ByteArray.mk #[])) w fun x56=>
 BR x56
 (R (Value.bool false) w)
 (rF 62 x2 3 w fun x59=>
 rL 60 x59 w fun x60=>
 rN 60 3 x60 w fun x61=>
 rB .neq 3 T0 T0 x61 (u9 5) w fun x63=>
 BR x63
 (R (Value.bool false) w)
 (rB .eql 3 T0 U0 a1 (iV 0) w fun x67=>
 BR x67
 (R (Value.bool false) w)
 (LOOPI [6] [(iV 0)] w fun u12 w next12=>
 rF 62 x2 3 w fun x70=>
 rL 60 x70 w fun x71=>
 rN 60 3 x71 w fun x72=>
 rC (u12 6) x72 w fun x73=>
 BR x73
 (rF 62 x2 3 w fun x76=>
 rL 60 x76 w fun x77=>
 rX 60 x77 (u12 6) w fun x79=>
 rL 62 x79 w fun x80=>
 rB .sub 3 T0 U0 a1 (iV 1) w fun x82=>
 cL 57 [x80,x82] w fun x83 w=>
 rD (Op.unary .not x83) w fun x84=>
 BR x84
 (R (Value.bool false) w)
 (rA (u12 6) (iV 1) w fun x75=>
 next12 [x75] w))
 (R (Value.bool true) w)))))))))
def cfg57:Cfg:=⟨extL,[(9,15393162788896,[5])],[(12,38685035931857774884946000,[6])],[],[],[],[]⟩
theorem F57_call {a0 a1:Value} {w:World} {R:VW} (h:F57 a0 a1 w R):cL 57 [a0,a1] w R:=co (g:=cfg57) Tryd.func57 (by kernel_rfl) (by kernel_rfl) (by kernel_rfl) h
theorem zd8 {w:World} {v0:Value} {W0:World} {t:DTerm} {d:Int} {n:Nat} (h0:Is W0 v0 t) (e0:Ext W0 w) (hd:d=(n:Int)) (ih:∀ m,m+1=n→zir 57 m) (hn:n≤6) :
   CALL Tryd.prog 57 [v0,.int .i64 d] w fun r w'=>Ext w w'∧(r=.bool (zaF n t)):=by
 refine F57_call ?_
 unfold F57
 refine zam zbq rfl h0 e0 fun w1_ hx1_ hA2 hV2=>?_
 refine zaa zbP ?_
 refine zac ty3 (zaG hA2) (Ext.refl w1_) fun hI8=>?_
 refine zan ?_
 refine br (fun c1=>?_) (fun c1=>?_)
 · refine zaa zbF ?_
   refine zac ty3 (zaD hA2) (Ext.refl w1_) fun hI12=>?_
   refine (l01In_ok ).mono ?_
   rintro _ w2_ ⟨hx2_,rfl⟩
   refine br (fun c2=>?_) (fun c2=>?_)
   · refine zaa zbn ?_
     refine zai ty9 (zau hA2) hx2_ fun hS16=>?_
     refine zaq ?_
     refine br (fun c3=>?_) (fun c3=>?_)
     · refine zaa zaS ?_
       refine zab zc0 (zaj hA2) hx2_ fun v21 h21=>?_
       have hln22:=zad h21
       refine zae u60 h21 ?_
       refine zan ?_
       refine ⟨(hx1_.trans hx2_),?_⟩
       rw [zbw c1];simp only [c2,c3,and_self,decide_true,Bool.true_and]
     refine ⟨(hx1_.trans hx2_),?_⟩
     rw [zbw c1];simp only [c3,decide_false,Bool.and_false,Bool.false_and]
   refine ⟨(hx1_.trans hx2_),?_⟩
   rw [zbw c1];simp only [c2,decide_false,Bool.false_and]
 refine zan ?_
 refine br (fun c4=>?_) (fun c4=>?_)
 · refine zaa zbF ?_
   refine zac ty3 (zaD hA2) (Ext.refl w1_) fun hI28=>?_
   refine zan ?_
   refine br (fun c5=>?_) (fun c5=>?_)
   · refine zaa zbn ?_
     refine zai ty9 (zau hA2) (Ext.refl w1_) fun hS32=>?_
     refine (zcG ).mono ?_
     rintro _ w3_ ⟨hx3_,rfl⟩
     refine zej (fun c6=>?_) (fun c6=>?_)
     · refine zaa zaS ?_
       refine zab zc0 (zaj hA2) hx3_ fun v37 h37=>?_
       have hln38:=zad h37
       refine zae u60 h37 ?_
       refine zan ?_
       refine ⟨(hx1_.trans hx3_),?_⟩
       rw [zb6 c4];simp only [c5,c6,decide_true,Bool.true_and]
     refine ⟨(hx1_.trans hx3_),?_⟩
     rw [zb6 c4];simp only [c5,c6,decide_true,Bool.true_and,Bool.false_and]
   refine ⟨hx1_,?_⟩
   rw [zb6 c4];simp only [c5,decide_false,Bool.false_and]
 refine JOIN.mk (fun us w'=>us=[.int .i64 (if t.kind=8 then 1 else 2)]∧Ext w1_ w'∧(True)) ?_ ?_
 · refine zaa zbP ?_
   refine zac ty3 (zaG hA2) (Ext.refl w1_) fun hI42=>?_
   refine zan ?_
   refine br (fun c7=>?_) (fun c7=>?_)
   · refine ⟨by rw [if_pos c7],Ext.refl w1_,?_⟩
     trivial
   refine ⟨by rw [if_neg c7],Ext.refl w1_,?_⟩
   trivial
 rintro uj9 w4_ ⟨hu,hx4_,hinv⟩
 simp only [List.map_cons,List.map_nil,List.cons.injEq,and_true] at hu
 try rw [hu]
 try clear hu
 refine zaa zbP ?_
 refine zac ty3 (zaG hA2) hx4_ fun hI45=>?_
 refine (l01In_ok ).mono ?_
 rintro _ w5_ ⟨hx5_,rfl⟩
 refine zak ?_
 refine br (fun c8=>?_) (fun c8=>?_)
 · refine ⟨(hx1_.trans (hx4_.trans hx5_)),?_⟩
   rw [zax c1 c4];simp only [c8,decide_false,Bool.false_and]
 refine zaa zbF ?_
 refine zac ty3 (zaD hA2) (hx4_.trans hx5_) fun hI50=>?_
 refine zaC ?_
 refine br (fun c9=>?_) (fun c9=>?_)
 · refine ⟨(hx1_.trans (hx4_.trans hx5_)),?_⟩
   rw [zax c1 c4];simp only [show ¬t.num=0 from c9,decide_false,Bool.false_and,Bool.and_false]
 refine zaa zbn ?_
 refine zai ty9 (zau hA2) (hx4_.trans hx5_) fun hS55=>?_
 refine zcN ?_
 refine br (fun c10=>?_) (fun c10=>?_)
 · refine ⟨(hx1_.trans (hx4_.trans hx5_)),?_⟩
   rw [zax c1 c4];simp only [show ¬t.name=_ from c10,decide_false,Bool.false_and,Bool.and_false]
 refine zaa zaS ?_
 refine zab zc0 (zaj hA2) (hx4_.trans hx5_) fun v60 h60=>?_
 have hln61:=zad h60
 refine zae u60 h60 ?_
 refine zaC ?_
 refine br (fun c11=>?_) (fun c11=>?_)
 · refine ⟨(hx1_.trans (hx4_.trans hx5_)),?_⟩
   rw [zax c1 c4];simp only [show ¬(t.kids.length:Int)=_ from c11,decide_false,Bool.false_and,Bool.and_false]
 refine zan ?_
 refine br (fun c12=>?_) (fun c12=>?_)
 · refine ⟨(hx1_.trans (hx4_.trans hx5_)),?_⟩
   rw [zax c1 c4];simp [show n=0 by omega]
 refine zaQ (t.kids.length) (fun k us w'=>us=[.int .i64 (k:Int)]∧Ext w5_ w'∧((t.kids.take k).all (zaF (n-1))=true)) (0) (by omega) ⟨by simp,Ext.refl w5_,by simp⟩ ?_
 rintro k m12 uu12 w6_ hk12 ⟨hu,hx6_,hinv⟩
 simp only [List.map_cons,List.map_nil,List.cons.injEq,and_true] at hu
 try rw [hu]
 try clear hu
 refine zaa zaS ?_
 refine zab zc0 (zaj hA2) (hx4_.trans (hx5_.trans hx6_)) fun v71 h71=>?_
 have hln72:=zad h71
 refine zae u60 h71 ?_
 refine zah ?_
 refine br (fun c13=>?_) (fun c13=>?_)
 · refine zaa zaS ?_
   refine zab zc0 (zaj hA2) (hx4_.trans (hx5_.trans hx6_)) fun v77 h77=>?_
   refine zaf u60 zbq h77 (by omega) fun b79 o79 h79=>?_
   refine zab zbq h79 (hx4_.trans (hx5_.trans hx6_)) fun v80 h80=>?_
   refine zaW (by unfold I64;omega) ?_
   refine (ih (n-1) (by omega) h80 (hx4_.trans (hx5_.trans hx6_)) (by omega)).mono ?_
   rintro _ w7_ ⟨hx7_,rfl⟩
   refine zbg ?_
   refine zej (fun c14=>?_) (fun c14=>?_)
   · refine ⟨(hx1_.trans (hx4_.trans (hx5_.trans (hx6_.trans hx7_)))),?_⟩
     rw [zax c1 c4]
     obtain ⟨m,rfl⟩:∃ m,n=m+1:=⟨n-1,by omega⟩
     rw [Bool.not_eq_true',Nat.add_sub_cancel] at c14
     simp only [zcI (by omega) c14,Bool.and_false]
   have hln:=zad h71
   refine zao (by omega) ?_
   refine ⟨m12-1,by omega,k+1,by omega,by simp,(hx6_.trans hx7_),?_⟩
   exact zc5 (by omega) hinv (by simpa using c14)
 refine ⟨(hx1_.trans (hx4_.trans (hx5_.trans hx6_))),?_⟩
 rw [zax c1 c4]
 obtain ⟨m,rfl⟩:∃ m,n=m+1:=⟨n-1,by omega⟩
 rw [Nat.add_sub_cancel] at hinv
 simp only [Decidable.not_not.1 c8,Decidable.not_not.1 c9,Decidable.not_not.1 c10,Decidable.not_not.1 c11,zc6 (by omega) hinv,and_self,decide_true,Bool.and_self]
theorem zdm:∀ (n:Nat),n≤6→zir 57 n
 | n,hn=>by intro h e hd;exact zd8 h e hd (fun m hm=>zdm m (by omega)) hn
def F41 (a0:Value) (w:World) (R:VW):Prop:=
 oP (Instr.box 62 a0) w fun x1 w=>
 rL 62 x1 w fun x3=>
 cL 57 [x3,(iV 6)] w fun x4 w=>
 R x4 w
def cfg41:Cfg:=⟨extL,[],[],[],[],[],[]⟩
theorem F41_call {a0:Value} {w:World} {R:VW} (h:F41 a0 w R):cL 41 [a0] w R:=co (g:=cfg41) Tryd.func41 (by kernel_rfl) (by kernel_rfl) (by kernel_rfl) h
theorem zbN {w:World} {v0:Value} {W0:World} {t:DTerm}  (h0:Is W0 v0 t) (e0:Ext W0 w)  :
   CALL Tryd.prog 41 [v0] w fun r w'=>Ext w w'∧(r=.bool (zaF 6 t)):=by
 refine F41_call ?_
 unfold F41
 refine zam zbq rfl h0 e0 fun w1_ hx1_ hA1 hV1=>?_
 refine zaL hV1 (Ext.refl w1_) ?_
 refine ((zdm 6 (by omega)) h0 (e0.trans hx1_) rfl).mono ?_
 rintro _ w2_ ⟨hx2_,rfl⟩
 refine ⟨(hx1_.trans hx2_),?_⟩
 rfl
def term0:DTerm:=.mk 0 0 (ByteArray.mk #[]) []
def F51 (a0:Value) (w:World) (R:VW):Prop:=
 oP (Instr.box 62 a0) w fun x1 w=>
 rF 62 x1 0 w fun x3=>
 rL 3 x3 w fun x4=>
 rB .eql 3 T0 U0 x4 (iV 0) w fun x5=>
 BR x5
 (rF 62 x1 1 w fun x7=>
 rL 3 x7 w fun x8=>
 rB .eql 3 T0 U0 x8 (iV 0) w fun x9=>
 BR x9
 (rF 62 x1 2 w fun x12=>
 rL 9 x12 w fun x13=>
 rB .eql 9 T0 U0 x13 (Value.string (ByteArray.mk #[])) w fun x14=>
 BR x14
 (rF 62 x1 3 w fun x17=>
 rL 60 x17 w fun x18=>
 rN 60 3 x18 w fun x19=>
 rB .eql 3 T0 U0 x19 (iV 0) w fun x20=>
 R x20 w)
 (R (Value.bool false) w))
 (R (Value.bool false) w))
 (R (Value.bool false) w)
def cfg51:Cfg:=⟨extL,[],[],[],[],[],[]⟩
theorem F51_call {a0:Value} {w:World} {R:VW} (h:F51 a0 w R):cL 51 [a0] w R:=co (g:=cfg51) Tryd.func51 (by kernel_rfl) (by kernel_rfl) (by kernel_rfl) h
theorem zd9 {w:World} {v0:Value} {W0:World} {t:DTerm}  (h0:Is W0 v0 t) (e0:Ext W0 w)  :
   CALL Tryd.prog 51 [v0] w fun r w'=>Ext w w'∧(r=.bool (decide (t=term0))):=by
 refine F51_call ?_
 unfold F51
 refine zam zbq rfl h0 e0 fun w1_ hx1_ hA1 hV1=>?_
 refine zaa zbP ?_
 refine zac ty3 (zaG hA1) (Ext.refl w1_) fun hI4=>?_
 refine zan ?_
 refine br (fun c1=>?_) (fun c1=>?_)
 · refine zaa zbF ?_
   refine zac ty3 (zaD hA1) (Ext.refl w1_) fun hI8=>?_
   refine zan ?_
   refine br (fun c2=>?_) (fun c2=>?_)
   · refine zaa zbn ?_
     refine zai ty9 (zau hA1) (Ext.refl w1_) fun hS13=>?_
     refine zaq ?_
     refine br (fun c3=>?_) (fun c3=>?_)
     · refine zaa zaS ?_
       refine zab zc0 (zaj hA1) (Ext.refl w1_) fun v18 h18=>?_
       have hln19:=zad h18
       refine zae u60 h18 ?_
       refine zan ?_
       refine ⟨hx1_,?_⟩
       congr 1
       rw [decide_eq_decide,DTerm.ext_iff]
       exact ⟨fun h=>⟨c1,c2,c3,List.eq_nil_of_length_eq_zero (by omega)⟩,fun h=>by rw [h.2.2.2];rfl⟩
     refine ⟨hx1_,?_⟩
     have:t≠term0:=fun e=>c3 (by rw [e];rfl)
     simp [this]
   refine ⟨hx1_,?_⟩
   have:t≠term0:=fun e=>c2 (by rw [e];rfl)
   simp [this]
 refine ⟨hx1_,?_⟩
 have:t≠term0:=fun e=>c1 (by rw [e];rfl)
 simp [this]
def F43 (a0 a1:Value) (w:World) (R:VW):Prop:=
 oP (Instr.box 62 a0) w fun x2 w=>
 oP (Instr.box 62 a1) w fun x3 w=>
 rF 62 x2 0 w fun x6=>
 rL 3 x6 w fun x7=>
 rF 62 x3 0 w fun x8=>
 rL 3 x8 w fun x9=>
 rB .neq 3 T0 T0 x7 x9 w fun x10=>
 BR x10
 (R (Value.bool false) w)
 (rF 62 x2 1 w fun x12=>
 rL 3 x12 w fun x13=>
 rF 62 x3 1 w fun x14=>
 rL 3 x14 w fun x15=>
 rB .neq 3 T0 T0 x13 x15 w fun x16=>
 BR x16
 (R (Value.bool false) w)
 (rF 62 x2 2 w fun x19=>
 rL 9 x19 w fun x20=>
 rF 62 x3 2 w fun x21=>
 rL 9 x21 w fun x22=>
 rB .neq 9 T0 T0 x20 x22 w fun x23=>
 BR x23
 (R (Value.bool false) w)
 (rF 62 x2 3 w fun x26=>
 rL 60 x26 w fun x27=>
 rN 60 3 x27 w fun x28=>
 rF 62 x3 3 w fun x29=>
 rL 60 x29 w fun x30=>
 rN 60 3 x30 w fun x31=>
 rB .neq 3 T0 T0 x28 x31 w fun x32=>
 BR x32
 (R (Value.bool false) w)
 (LOOPI [5] [(iV 0)] w fun u4 w next4=>
 rF 62 x2 3 w fun x35=>
 rL 60 x35 w fun x36=>
 rN 60 3 x36 w fun x37=>
 rC (u4 5) x37 w fun x38=>
 BR x38
 ((fun w=>rF 62 x2 3 w fun x41=>
 rL 60 x41 w fun x42=>
 rX 60 x42 (u4 5) w fun x44=>
 rL 62 x44 w fun x45=>
 rF 62 x3 3 w fun x46=>
 rL 60 x46 w fun x47=>
 rX 60 x47 (u4 5) w fun x49=>
 rL 62 x49 w fun x50=>
 cL 43 [x45,x50] w fun x51 w=>
 rD (Op.unary .not x51) w fun x52=>
 BR x52
 (R (Value.bool false) w)
 (rA (u4 5) (iV 1) w fun x40=>
 next4 [x40] w)) (World.drew1 w))
 (R (Value.bool true) w)))))
def cfg43:Cfg:=⟨extL,[],[(4,9007182074871856,[5])],[(6,[0,1,2,3,4,5,6,7,8,9,10,11],0)],[],[],[]⟩
theorem F43_call {a0 a1:Value} {w:World} {R:VW} (h:F43 a0 a1 w R):cL 43 [a0,a1] w R:=co (g:=cfg43) Tryd.func43 (by kernel_rfl) (by kernel_rfl) (by kernel_rfl) h
theorem zeM {w:World} {v0:Value} {W0:World} {t:DTerm} {v1:Value} {W1:World} {t2:DTerm}  (h0:Is W0 v0 t) (e0:Ext W0 w) (h1:Is W1 v1 t2) (e1:Ext W1 w) (ht:t2=term0) :
   CALL Tryd.prog 43 [v0,v1] w fun r w'=>Ext w w'∧(r=.bool (decide (t=term0))):=by
 refine F43_call ?_
 unfold F43
 subst ht
 refine zam zbq rfl h0 e0 fun w1_ hx1_ hA2 hV2=>?_
 refine zam zbq rfl h1 (e1.trans hx1_) fun w2_ hx2_ hA3 hV3=>?_
 refine zaa zbP ?_
 refine zac ty3 (zaG hA2) hx2_ fun hI7=>?_
 refine zaa zbP ?_
 refine zac ty3 (zaG hA3) (Ext.refl w2_) fun hI9=>?_
 refine zaC ?_
 refine br (fun c1=>?_) (fun c1=>?_)
 · refine ⟨(hx1_.trans hx2_),?_⟩
   have:t≠term0:=fun e=>c1 (by rw [e])
   simp [this]
 refine zaa zbF ?_
 refine zac ty3 (zaD hA2) hx2_ fun hI13=>?_
 refine zaa zbF ?_
 refine zac ty3 (zaD hA3) (Ext.refl w2_) fun hI15=>?_
 refine zaC ?_
 refine br (fun c2=>?_) (fun c2=>?_)
 · refine ⟨(hx1_.trans hx2_),?_⟩
   have:t≠term0:=fun e=>c2 (by rw [e])
   simp [this]
 refine zaa zbn ?_
 refine zai ty9 (zau hA2) hx2_ fun hS20=>?_
 refine zaa zbn ?_
 refine zai ty9 (zau hA3) (Ext.refl w2_) fun hS22=>?_
 refine zcN ?_
 refine br (fun c3=>?_) (fun c3=>?_)
 · refine ⟨(hx1_.trans hx2_),?_⟩
   have:t≠term0:=fun e=>c3 (by rw [e])
   simp [this]
 refine zaa zaS ?_
 refine zab zc0 (zaj hA2) hx2_ fun v27 h27=>?_
 have hln28:=zad h27
 refine zae u60 h27 ?_
 refine zaa zaS ?_
 refine zab zc0 (zaj hA3) (Ext.refl w2_) fun v30 h30=>?_
 have hln31:=zad h30
 refine zae u60 h30 ?_
 refine zaC ?_
 refine br (fun c4=>?_) (fun c4=>?_)
 · refine ⟨(hx1_.trans hx2_),?_⟩
   have:t≠term0:=fun e=>c4 (by rw [e])
   simp [this]
 refine zaQ (0) (fun k us w'=>us=[.int .i64 (k:Int)]∧Ext w2_ w'∧(True)) (0) (by omega) ⟨by simp,Ext.refl w2_,trivial⟩ ?_
 rintro k m4 uu4 w3_ hk4 ⟨hu,hx3_,hinv⟩
 simp only [List.map_cons,List.map_nil,List.cons.injEq,and_true] at hu
 try rw [hu]
 try clear hu
 refine zaa zaS ?_
 refine zab zc0 (zaj hA2) (hx2_.trans hx3_) fun v36 h36=>?_
 have hln37:=zad h36
 refine zae u60 h36 ?_
 refine zah ?_
 refine br (fun c5=>?_) (fun c5=>?_)
 · have hx4_:=zaw w3_
   exact absurd c5 (by have:(term0.kids.length:Int)=0:=rfl;omega)
 refine ⟨(hx1_.trans (hx2_.trans hx3_)),?_⟩
 have:t=term0:=DTerm.ext_iff.2 ⟨Decidable.not_not.1 c1,Decidable.not_not.1 c2,Decidable.not_not.1 c3,List.eq_nil_of_length_eq_zero (by have:(term0.kids.length:Int)=0:=rfl;omega)⟩
 simp [this]
def plc (s:ByteArray):List ByteArray→Int
 | []=>-1
 | x :: l=>if x=s then 0 else if plc s l<0 then -1 else plc s l+1
theorem zfD {s:ByteArray} {l:List ByteArray} (h:s∉l):plc s l=-1:=by
 induction l with
 | nil=>rfl
 | cons x l ih=>
   simp only [List.mem_cons,not_or] at h
   rw [plc,if_neg (fun e=>h.1 e.symm),ih h.2];rfl
theorem zgq {s:ByteArray}:∀ {l:List ByteArray} {k:Nat} (hk:k<l.length),s∉l.take k→l[k]=s→plc s l=k
 | x :: l,0,_,_,h=>by simp only [List.getElem_cons_zero] at h;rw [plc,if_pos h];rfl
 | x :: l,k+1,hk,hn,h=>by
   simp only [List.take_succ_cons,List.mem_cons,not_or] at hn
   have ih:=zgq (by simpa using hk) hn.2 (by simpa using h)
   rw [plc,if_neg (fun e=>hn.1 e.symm),ih,if_neg (by omega)]
   omega
theorem zcl {s:ByteArray} {l:List ByteArray}:0≤plc s l↔s∈l:=by
 induction l with
 | nil=>simp [plc]
 | cons x l ih=>
   rw [plc]
   split
   · rename_i h;simp [h]
   rename_i h
   rw [List.mem_cons,←ih]
   have:¬s=x:=fun e=>h e.symm
   simp only [this,false_or]
   split<;>omega
theorem za9 {l:List ByteArray} {k:Nat} {y:ByteArray} (hk:k<l.length) (h:y∉l.take k) (c:¬l[k]=y):y∉l.take (k+1):=by
 rw [List.take_succ_eq_append_getElem hk]
 simp only [List.mem_append,List.mem_cons,List.not_mem_nil,or_false,not_or]
 exact ⟨h,fun e=>c e.symm⟩
def F38 (a0 a1:Value) (w:World) (R:VW):Prop:=
 LOOPI [5] [(iV 0)] w fun u2 w next2=>
 rN 22 3 a0 w fun x8=>
 rC (u2 5) x8 w fun x9=>
 BR x9
 (rX 22 a0 (u2 5) w fun x14=>
 rL 9 x14 w fun x15=>
 rB .eql 9 T0 T0 x15 a1 w fun x17=>
 BR x17
 (R (u2 5) w)
 (rA (u2 5) (iV 1) w fun x11=>
 next2 [x11] w))
 (R (iV (-1)) w)
def cfg38:Cfg:=⟨extL,[],[(2,524272,[5])],[],[],[],[]⟩
theorem F38_call {a0 a1:Value} {w:World} {R:VW} (h:F38 a0 a1 w R):cL 38 [a0,a1] w R:=co (g:=cfg38) Tryd.func38 (by kernel_rfl) (by kernel_rfl) (by kernel_rfl) h
theorem zbA {w:World} {v0:Value} {W0:World} {l:(List ByteArray)} {s:ByteArray}  (h0:Is W0 v0 l) (e0:Ext W0 w)  :
   CALL Tryd.prog 38 [v0,.string s] w fun r w'=>Ext w w'∧(r=.int .i64 (plc s l)):=by
 refine F38_call ?_
 unfold F38
 refine zaQ (l.length) (fun k us w'=>us=[.int .i64 (k:Int)]∧Ext w w'∧(s∉l.take k)) (0) (by omega) ⟨by simp,Ext.refl w,by simp⟩ ?_
 rintro k m2 uu2 w1_ hk2 ⟨hu,hx1_,hinv⟩
 simp only [List.map_cons,List.map_nil,List.cons.injEq,and_true] at hu
 try rw [hu]
 try clear hu
 have hln8:=zad h0
 refine zae u22 h0 ?_
 refine zah ?_
 refine br (fun c1=>?_) (fun c1=>?_)
 · refine zaf u22 ty9 h0 (by omega) fun b14 o14 h14=>?_
   refine zai ty9 h14 (e0.trans hx1_) fun hS15=>?_
   refine zaq ?_
   refine br (fun c2=>?_) (fun c2=>?_)
   · refine ⟨hx1_,?_⟩
     rw [zgq (by omega) hinv c2]
   refine zao (by omega) ?_
   refine ⟨m2-1,by omega,k+1,by omega,by simp,hx1_,?_⟩
   exact za9 (by omega) hinv c2
 refine ⟨hx1_,?_⟩
 rw [List.take_of_length_le (by omega)] at hinv
 rw [zfD hinv]
def F61 (a0 a1:Value) (w:World) (R:VW):Prop:=
 rN 22 3 a0 w fun x7=>
 LOOPI [8] [(iV 0)] w fun u2 w next2=>
 rC (u2 8) x7 w fun x9=>
 BR x9
 (rX 22 a0 (u2 8) w fun x14=>
 rL 9 x14 w fun x15=>
 rB .eql 9 T0 T0 a1 x15 w fun x16=>
 BR x16
 (R (u2 8) w)
 (rA (u2 8) (iV 1) w fun x18=>
 next2 [x18] w))
 (R (iV (-1)) w)
def cfg61:Cfg:=⟨extL,[],[(2,524080,[8])],[],[],[],[]⟩
theorem F61_call {a0 a1:Value} {w:World} {R:VW} (h:F61 a0 a1 w R):cL 61 [a0,a1] w R:=co (g:=cfg61) Tryd.func61 (by kernel_rfl) (by kernel_rfl) (by kernel_rfl) h
theorem zff {w:World} {v0:Value} {W0:World} {l:(List ByteArray)} {s:ByteArray}  (h0:Is W0 v0 l) (e0:Ext W0 w)  :
   CALL Tryd.prog 61 [v0,.string s] w fun r w'=>Ext w w'∧(r=.int .i64 (plc s l)):=by
 refine F61_call ?_
 unfold F61
 have hln7:=zad h0
 refine zae u22 h0 ?_
 refine zaQ (l.length) (fun k us w'=>us=[.int .i64 (k:Int)]∧Ext w w'∧(s∉l.take k)) (0) (by omega) ⟨by simp,Ext.refl w,by simp⟩ ?_
 rintro k m2 uu2 w1_ hk2 ⟨hu,hx1_,hinv⟩
 simp only [List.map_cons,List.map_nil,List.cons.injEq,and_true] at hu
 try rw [hu]
 try clear hu
 refine zah ?_
 refine br (fun c1=>?_) (fun c1=>?_)
 · refine zaf u22 ty9 h0 (by omega) fun b14 o14 h14=>?_
   refine zai ty9 h14 (e0.trans hx1_) fun hS15=>?_
   refine zaq ?_
   refine br (fun c2=>?_) (fun c2=>?_)
   · refine ⟨hx1_,?_⟩
     rw [zgq (by omega) hinv c2.symm]
   refine zao (by omega) ?_
   refine ⟨m2-1,by omega,k+1,by omega,by simp,hx1_,?_⟩
   exact za9 (by omega) hinv (fun e=>c2 e.symm)
 refine ⟨hx1_,?_⟩
 rw [List.take_of_length_le (by omega)] at hinv
 rw [zfD hinv]
def F47 (a0 a1:Value) (w:World) (R:VW):Prop:=
 cL 61 [a0,a1] w fun x7 w=>
 rB .geq 3 T0 U0 x7 (iV 0) w fun x8=>
 R x8 w
def cfg47:Cfg:=⟨extL,[],[],[],[],[],[]⟩
theorem F47_call {a0 a1:Value} {w:World} {R:VW} (h:F47 a0 a1 w R):cL 47 [a0,a1] w R:=co (g:=cfg47) Tryd.func47 (by kernel_rfl) (by kernel_rfl) (by kernel_rfl) h
theorem zaY {w:World} {v0:Value} {W0:World} {l:(List ByteArray)} {s:ByteArray}  (h0:Is W0 v0 l) (e0:Ext W0 w)  :
   CALL Tryd.prog 47 [v0,.string s] w fun r w'=>Ext w w'∧(r=.bool (decide (s∈l))):=by
 refine F47_call ?_
 unfold F47
 refine (zff h0 e0).mono ?_
 rintro _ w1_ ⟨hx1_,rfl⟩
 refine zbf ?_
 refine ⟨hx1_,?_⟩
 simp [zcl]
def F56 (a0 a1:Value) (w:World) (R:VW):Prop:=
 LOOPI [5] [(iV 0)] w fun u2 w next2=>
 rN 22 3 a0 w fun x8=>
 rC (u2 5) x8 w fun x9=>
 BR x9
 (rX 22 a0 (u2 5) w fun x14=>
 rL 9 x14 w fun x15=>
 rB .eql 9 T0 T0 x15 a1 w fun x17=>
 BR x17
 (R (Value.bool true) w)
 (rA (u2 5) (iV 1) w fun x11=>
 next2 [x11] w))
 (R (Value.bool false) w)
def cfg56:Cfg:=⟨extL,[],[(2,262128,[5])],[],[],[],[]⟩
theorem F56_call {a0 a1:Value} {w:World} {R:VW} (h:F56 a0 a1 w R):cL 56 [a0,a1] w R:=co (g:=cfg56) Tryd.func56 (by kernel_rfl) (by kernel_rfl) (by kernel_rfl) h
theorem zgr {w:World} {v0:Value} {W0:World} {l:(List ByteArray)} {s:ByteArray}  (h0:Is W0 v0 l) (e0:Ext W0 w)  :
   CALL Tryd.prog 56 [v0,.string s] w fun r w'=>Ext w w'∧(r=.bool (decide (s∈l))):=by
 refine F56_call ?_
 unfold F56
 refine zaQ (l.length) (fun k us w'=>us=[.int .i64 (k:Int)]∧Ext w w'∧(s∉l.take k)) (0) (by omega) ⟨by simp,Ext.refl w,by simp⟩ ?_
 rintro k m2 uu2 w1_ hk2 ⟨hu,hx1_,hinv⟩
 simp only [List.map_cons,List.map_nil,List.cons.injEq,and_true] at hu
 try rw [hu]
 try clear hu
 have hln8:=zad h0
 refine zae u22 h0 ?_
 refine zah ?_
 refine br (fun c1=>?_) (fun c1=>?_)
 · refine zaf u22 ty9 h0 (by omega) fun b14 o14 h14=>?_
   refine zai ty9 h14 (e0.trans hx1_) fun hS15=>?_
   refine zaq ?_
   refine br (fun c2=>?_) (fun c2=>?_)
   · refine ⟨hx1_,?_⟩
     have:s∈l:=c2▸List.getElem_mem _
     simp [this]
   refine zao (by omega) ?_
   refine ⟨m2-1,by omega,k+1,by omega,by simp,hx1_,?_⟩
   exact za9 (by omega) hinv c2
 refine ⟨hx1_,?_⟩
 rw [List.take_of_length_le (by omega)] at hinv
 simp [hinv]
def F45 (a0 a1:Value) (w:World) (R:VW):Prop:=
 rN 22 3 a0 w fun x8=>
 rB .gtr 3 T0 T0 x8 a1 w fun x10=>
 BR x10
 (R (Value.bool false) w)
 (rN 22 3 a0 w fun x12=>
 LOOPI [13] [(iV 0)] w fun u4 w next4=>
 rC (u4 13) x12 w fun x14=>
 BR x14
 (rX 22 a0 (u4 13) w fun x15=>
 rL 9 x15 w fun x16=>
 cL 60 [x16] w fun x18 w=>
 rD (Op.unary .not x18) w fun x19=>
 BR x19
 (R (Value.bool false) w)
 (rA (u4 13) (iV 1) w fun x20=>
 next4 [x20] w))
 (R (Value.bool true) w))
def cfg45:Cfg:=⟨extL,[],[(4,2089040,[13])],[],[],[],[]⟩
theorem F45_call {a0 a1:Value} {w:World} {R:VW} (h:F45 a0 a1 w R):cL 45 [a0,a1] w R:=co (g:=cfg45) Tryd.func45 (by kernel_rfl) (by kernel_rfl) (by kernel_rfl) h
theorem zcm {w:World} {v0:Value} {W0:World} {l:(List ByteArray)} {m:Int}  (h0:Is W0 v0 l) (e0:Ext W0 w)  :
   CALL Tryd.prog 45 [v0,.int .i64 m] w fun r w'=>Ext w w'∧(r=.bool (decide ((l.length:Int)≤m)&&l.all zaB)):=by
 refine F45_call ?_
 unfold F45
 have hln8:=zad h0
 refine zae u22 h0 ?_
 refine zcb ?_
 refine br (fun c1=>?_) (fun c1=>?_)
 · refine ⟨Ext.refl w,?_⟩
   simp [show ¬(l.length:Int)≤m by omega]
 have hln12:=zad h0
 refine zae u22 h0 ?_
 refine zaQ (l.length) (fun k us w'=>us=[.int .i64 (k:Int)]∧Ext w w'∧((l.take k).all zaB=true)) (0) (by omega) ⟨by simp,Ext.refl w,by simp⟩ ?_
 rintro k m4 uu4 w1_ hk4 ⟨hu,hx1_,hinv⟩
 simp only [List.map_cons,List.map_nil,List.cons.injEq,and_true] at hu
 try rw [hu]
 try clear hu
 refine zah ?_
 refine br (fun c2=>?_) (fun c2=>?_)
 · refine zaf u22 ty9 h0 (by omega) fun b15 o15 h15=>?_
   refine zai ty9 h15 (e0.trans hx1_) fun hS16=>?_
   refine (zcH ).mono ?_
   rintro _ w2_ ⟨hx2_,rfl⟩
   refine zbg ?_
   refine zej (fun c3=>?_) (fun c3=>?_)
   · refine ⟨(hx1_.trans hx2_),?_⟩
     simp only [zcI (p:=zaB) (l:=l) (k:=k) (by omega) (by simpa using c3),Bool.and_false]
   have hln:=zad h0
   refine zao (by omega) ?_
   refine ⟨m4-1,by omega,k+1,by omega,by simp,(hx1_.trans hx2_),?_⟩
   exact zc5 (by omega) hinv (by simpa using c3)
 refine ⟨hx1_,?_⟩
 simp [zc6 (p:=zaB) (l:=l) (by omega) hinv,show (l.length:Int)≤m by omega]
def F36 (a0 a1:Value) (w:World) (R:VW):Prop:=
 rN 22 3 a0 w fun x7=>
 rB .gtr 3 T0 T0 x7 a1 w fun x9=>
 BR x9
 (R (Value.bool false) w)
 (LOOPI [5] [(iV 0)] w fun u4 w next4=>
 rN 22 3 a0 w fun x12=>
 rC (u4 5) x12 w fun x13=>
 BR x13
 (rX 22 a0 (u4 5) w fun x18=>
 rL 9 x18 w fun x19=>
 cL 55 [x19] w fun x20 w=>
 rD (Op.unary .not x20) w fun x21=>
 BR x21
 (R (Value.bool false) w)
 (rA (u4 5) (iV 1) w fun x15=>
 next4 [x15] w))
 (R (Value.bool true) w))
def cfg36:Cfg:=⟨extL,[],[(4,4193328,[5])],[],[],[],[]⟩
theorem F36_call {a0 a1:Value} {w:World} {R:VW} (h:F36 a0 a1 w R):cL 36 [a0,a1] w R:=co (g:=cfg36) Tryd.func36 (by kernel_rfl) (by kernel_rfl) (by kernel_rfl) h
theorem zcn {w:World} {v0:Value} {W0:World} {l:(List ByteArray)} {m:Int}  (h0:Is W0 v0 l) (e0:Ext W0 w)  :
   CALL Tryd.prog 36 [v0,.int .i64 m] w fun r w'=>Ext w w'∧(r=.bool (decide ((l.length:Int)≤m)&&l.all zaB)):=by
 refine F36_call ?_
 unfold F36
 have hln7:=zad h0
 refine zae u22 h0 ?_
 refine zcb ?_
 refine br (fun c1=>?_) (fun c1=>?_)
 · refine ⟨Ext.refl w,?_⟩
   simp [show ¬(l.length:Int)≤m by omega]
 refine zaQ (l.length) (fun k us w'=>us=[.int .i64 (k:Int)]∧Ext w w'∧((l.take k).all zaB=true)) (0) (by omega) ⟨by simp,Ext.refl w,by simp⟩ ?_
 rintro k m4 uu4 w1_ hk4 ⟨hu,hx1_,hinv⟩
 simp only [List.map_cons,List.map_nil,List.cons.injEq,and_true] at hu
 try rw [hu]
 try clear hu
 have hln12:=zad h0
 refine zae u22 h0 ?_
 refine zah ?_
 refine br (fun c2=>?_) (fun c2=>?_)
 · refine zaf u22 ty9 h0 (by omega) fun b18 o18 h18=>?_
   refine zai ty9 h18 (e0.trans hx1_) fun hS19=>?_
   refine (zcG ).mono ?_
   rintro _ w2_ ⟨hx2_,rfl⟩
   refine zbg ?_
   refine zej (fun c3=>?_) (fun c3=>?_)
   · refine ⟨(hx1_.trans hx2_),?_⟩
     simp only [zcI (p:=zaB) (l:=l) (k:=k) (by omega) (by simpa using c3),Bool.and_false]
   refine zao (by omega) ?_
   refine ⟨m4-1,by omega,k+1,by omega,by simp,(hx1_.trans hx2_),?_⟩
   exact zc5 (by omega) hinv (by simpa using c3)
 refine ⟨hx1_,?_⟩
 simp [zc6 (p:=zaB) (l:=l) (by omega) hinv,show (l.length:Int)≤m by omega]
instance decNodup:∀ (l:List ByteArray),Decidable l.Nodup
 | []=>isTrue List.nodup_nil
 | x :: l=>match decMemBA x l,decNodup l with
   | isFalse h,isTrue h'=>isTrue (List.nodup_cons.2 ⟨h,h'⟩)
   | isTrue h,_=>isFalse fun e=>(List.nodup_cons.1 e).1 h
   | _,isFalse h=>isFalse fun e=>h (List.nodup_cons.1 e).2
theorem zig {l:List ByteArray} {k:Nat} (hk:k<l.length) (h:l[k]∈l.drop (k+1)):¬l.Nodup:=fun hn=>by
 have e:l=l.take k++(l[k] :: l.drop (k+1)):=by simp
 rw [e,List.nodup_append] at hn
 exact (List.nodup_cons.1 hn.2.1).1 h
theorem zhL {l:List ByteArray} {k:Nat} (hk:k<l.length) (h:l[k]∈l.take k):¬l.Nodup:=fun hn=>by
 have e:l=l.take k++(l[k] :: l.drop (k+1)):=by simp
 rw [e,List.nodup_append] at hn
 exact hn.2.2 _ h _ List.mem_cons_self rfl
theorem zdn {l:List ByteArray} {k:Nat} (hk:k<l.length) (h:(l.take k).Nodup) (c:l[k]∉l.take k):(l.take (k+1)).Nodup:=by
 rw [List.take_succ_eq_append_getElem hk,List.nodup_append]
 refine ⟨h,by simp,fun a ha b hb e=>?_⟩
 simp only [List.mem_cons,List.not_mem_nil,or_false] at hb
 subst e;subst hb
 exact c ha
theorem zcf:∀ {l:List ByteArray},(∀ (k:Nat) (hk:k<l.length),l[k]∉l.drop (k+1))→l.Nodup
 | [],_=>List.nodup_nil
 | x :: l,h=>List.nodup_cons.2 ⟨h 0 (by simp),zcf fun k hk=>h (k+1) (by simpa using hk)⟩
def F46 (a0:Value) (w:World) (R:VW):Prop:=
 rN 22 3 a0 w fun x6=>
 LOOPI [7] [(iV 0)] w fun u2 w next2=>
 rC (u2 7) x6 w fun x8=>
 BR x8
 (rX 22 a0 (u2 7) w fun x10=>
 rL 9 x10 w fun x11=>
 rA (u2 7) (iV 1) w fun x14=>
 rD (Instr.sliceAt 22 a0 (some x14) none none) w fun x15=>
 cL 47 [x15,x11] w fun x17 w=>
 BR x17
 (R (Value.bool true) w)
 (rA (u2 7) (iV 1) w fun x18=>
 next2 [x18] w))
 (R (Value.bool false) w)
def cfg46:Cfg:=⟨extL,[],[(2,524188,[7])],[],[],[],[]⟩
theorem F46_call {a0:Value} {w:World} {R:VW} (h:F46 a0 w R):cL 46 [a0] w R:=co (g:=cfg46) Tryd.func46 (by kernel_rfl) (by kernel_rfl) (by kernel_rfl) h
theorem zco {w:World} {v0:Value} {W0:World} {l:(List ByteArray)}  (h0:Is W0 v0 l) (e0:Ext W0 w)  :
   CALL Tryd.prog 46 [v0] w fun r w'=>Ext w w'∧(r=.bool (decide (¬l.Nodup))):=by
 refine F46_call ?_
 unfold F46
 have hln6:=zad h0
 refine zae u22 h0 ?_
 refine zaQ (l.length) (fun k us w'=>us=[.int .i64 (k:Int)]∧Ext w w'∧(∀ (j:Nat) (hj:j<l.length),j<k→l[j]∉l.drop (j+1))) (0) (by omega) ⟨by simp,Ext.refl w,fun j hj h=>by omega⟩ ?_
 rintro k m2 uu2 w1_ hk2 ⟨hu,hx1_,hinv⟩
 simp only [List.map_cons,List.map_nil,List.cons.injEq,and_true] at hu
 try rw [hu]
 try clear hu
 have hln:=zad h0
 refine zah ?_
 refine br (fun c1=>?_) (fun c1=>?_)
 · refine zaf u22 ty9 h0 (by omega) fun b10 o10 h10=>?_
   refine zai ty9 h10 (e0.trans hx1_) fun hS11=>?_
   refine zao (by omega) ?_
   refine zdY u22 ty9 h0 (by omega) (by omega) fun v15 h15=>?_
   refine (zaY h15 (e0.trans hx1_)).mono ?_
   rintro _ w2_ ⟨hx2_,rfl⟩
   refine br (fun c2=>?_) (fun c2=>?_)
   · refine ⟨(hx1_.trans hx2_),?_⟩
     simp [zig (by omega) c2]
   refine zao (by omega) ?_
   refine ⟨m2-1,by omega,k+1,by omega,by simp,(hx1_.trans hx2_),?_⟩
   intro j hj hjk
   by_cases h:j=k
   · subst h;exact c2
   exact hinv j hj (by omega)
 refine ⟨hx1_,?_⟩
 simp [zcf fun j hj=>hinv j hj (by omega)]
def F37 (a0:Value) (w:World) (R:VW):Prop:=
 LOOPI [3] [(iV 0)] w fun u2 w next2=>
 rN 22 3 a0 w fun x6=>
 rC (u2 3) x6 w fun x7=>
 BR x7
 ((fun w=>rD (Instr.sliceAt 22 a0 none (some (u2 3)) none) w fun x12=>
 rX 22 a0 (u2 3) w fun x15=>
 rL 9 x15 w fun x16=>
 cL 56 [x12,x16] w fun x17 w=>
 BR x17
 (R (Value.bool true) w)
 (rA (u2 3) (iV 1) w fun x9=>
 next2 [x9] w)) (World.drew1 w))
 (R (Value.bool false) w)
def cfg37:Cfg:=⟨extL,[],[(2,262140,[3])],[(4,[0,1,2,3,4,5,6,7],0)],[],[],[]⟩
theorem F37_call {a0:Value} {w:World} {R:VW} (h:F37 a0 w R):cL 37 [a0] w R:=co (g:=cfg37) Tryd.func37 (by kernel_rfl) (by kernel_rfl) (by kernel_rfl) h
theorem zcp {w:World} {v0:Value} {W0:World} {l:(List ByteArray)}  (h0:Is W0 v0 l) (e0:Ext W0 w)  :
   CALL Tryd.prog 37 [v0] w fun r w'=>Ext w w'∧(r=.bool (decide (¬l.Nodup))):=by
 refine F37_call ?_
 unfold F37
 refine zaQ (l.length) (fun k us w'=>us=[.int .i64 (k:Int)]∧Ext w w'∧((l.take k).Nodup)) (0) (by omega) ⟨by simp,Ext.refl w,by simp⟩ ?_
 rintro k m2 uu2 w1_ hk2 ⟨hu,hx1_,hinv⟩
 simp only [List.map_cons,List.map_nil,List.cons.injEq,and_true] at hu
 try rw [hu]
 try clear hu
 have hln:=zad h0
 have hln6:=zad h0
 refine zae u22 h0 ?_
 refine zah ?_
 refine br (fun c1=>?_) (fun c1=>?_)
 · have hx2_:=zaw w1_
   refine ze6 u22 ty9 h0 (by omega) (by omega) fun v12 h12=>?_
   refine zaf u22 ty9 h0 (by omega) fun b15 o15 h15=>?_
   refine zai ty9 h15 (e0.trans (hx1_.trans hx2_)) fun hS16=>?_
   refine (zgr h12 (e0.trans (hx1_.trans hx2_))).mono ?_
   rintro _ w3_ ⟨hx3_,rfl⟩
   refine br (fun c2=>?_) (fun c2=>?_)
   · refine ⟨(hx1_.trans (hx2_.trans hx3_)),?_⟩
     simp [zhL (by omega) c2]
   refine zao (by omega) ?_
   refine ⟨m2-1,by omega,k+1,by omega,by simp,(hx1_.trans (hx2_.trans hx3_)),?_⟩
   exact zdn (by omega) hinv c2
 refine ⟨hx1_,?_⟩
 rw [List.take_of_length_le (by omega)] at hinv
 simp [hinv]
def F69 (a0 a1:Value) (w:World) (R:VW):Prop:=
 cL 47 [a0,a1] w fun x7 w=>
 BR x7
 (R a0 w)
 (oP (Instr.buildSlice 22 1 #[(0,a1)]) w fun x11 w=>
 oP (Builtin.append_ #[22,22] 22 [a0,x11].toArray) w fun x12 w=>
 R x12 w)
def cfg69:Cfg:=⟨extL,[],[],[],[],[],[]⟩
theorem F69_call {a0 a1:Value} {w:World} {R:VW} (h:F69 a0 a1 w R):cL 69 [a0,a1] w R:=co (g:=cfg69) Tryd.func69 (by kernel_rfl) (by kernel_rfl) (by kernel_rfl) h
def F63 (a0 a1:Value) (w:World) (R:VW):Prop:=
 oP (Instr.box 62 a1) w fun x3 w=>
 rF 62 x3 0 w fun x7=>
 rL 3 x7 w fun x8=>
 rB .eql 3 T0 U0 x8 (iV 2) w fun x9=>
 BR x9
 (rF 62 x3 2 w fun x11=>
 rL 9 x11 w fun x12=>
 cL 69 [a0,x12] w fun x13 w=>
 R x13 w)
 (rF 62 x3 3 w fun x14=>
 rL 60 x14 w fun x15=>
 rN 60 3 x15 w fun x16=>
 LOOPI [0,17] [a0,(iV 0)] w fun u4 w next4=>
 rC (u4 17) x16 w fun x18=>
 BR x18
 (rX 60 x15 (u4 17) w fun x19=>
 rL 62 x19 w fun x20=>
 oP (Instr.alloc 62 true (.tuple #[])) w fun x6 w=>
 oS 62 x6 x20 w fun w=>
 rL 62 x6 w fun x22=>
 cL 63 [(u4 0),x22] w fun x23 w=>
 rA (u4 17) (iV 1) w fun x24=>
 next4 [x23,x24] w)
 (R (u4 0) w))
def cfg63:Cfg:=⟨extL,[],[(4,33423425,[0,17])],[],[],[],[]⟩
theorem F63_call {a0 a1:Value} {w:World} {R:VW} (h:F63 a0 a1 w R):cL 63 [a0,a1] w R:=co (g:=cfg63) Tryd.func63 (by kernel_rfl) (by kernel_rfl) (by kernel_rfl) h
def F58 (a0 a1:Value) (w:World) (R:VW):Prop:=
 oP (Instr.box 62 a0) w fun x2 w=>
 rF 62 x2 0 w fun x7=>
 rL 3 x7 w fun x8=>
 rB .eql 3 T0 U0 x8 (iV 2) w fun x9=>
 BR x9
 (LOOPI [5] [(iV 0)] w fun u3 w next3=>
 rN 22 3 a1 w fun x12=>
 rC (u3 5) x12 w fun x13=>
 BR x13
 ((fun w=>rX 22 a1 (u3 5) w fun x18=>
 rL 9 x18 w fun x19=>
 rF 62 x2 2 w fun x20=>
 rL 9 x20 w fun x21=>
 rB .eql 9 T0 T0 x19 x21 w fun x22=>
 BR x22
 (R a1 w)
 (rA (u3 5) (iV 1) w fun x15=>
 next3 [x15] w)) (World.drew1 w))
 (rF 62 x2 2 w fun x25=>
 rL 9 x25 w fun x26=>
 oP (Instr.buildSlice 22 1 #[(0,x26)]) w fun x27 w=>
 oP (Builtin.append_ #[22,22] 22 [a1,x27].toArray) w fun x28 w=>
 R x28 w))
 (LOOPI [1,6] [a1,(iV 0)] w fun u9 w next9=>
 rF 62 x2 3 w fun x30=>
 rL 60 x30 w fun x31=>
 rN 60 3 x31 w fun x32=>
 rC (u9 6) x32 w fun x33=>
 BR x33
 (rF 62 x2 3 w fun x36=>
 rL 60 x36 w fun x37=>
 rX 60 x37 (u9 6) w fun x39=>
 rL 62 x39 w fun x40=>
 cL 58 [x40,(u9 1)] w fun x42 w=>
 rA (u9 6) (iV 1) w fun x35=>
 next9 [x42,x35] w)
 (R (u9 1) w))
def cfg58:Cfg:=⟨extL,[],[(3,16776240,[5]),(9,8795556151362,[1,6])],[(5,[0,1,2,3,4,5,6],0)],[],[],[]⟩
theorem F58_call {a0 a1:Value} {w:World} {R:VW} (h:F58 a0 a1 w R):cL 58 [a0,a1] w R:=co (g:=cfg58) Tryd.func58 (by kernel_rfl) (by kernel_rfl) (by kernel_rfl) h
def F50 (a0:Value) (w:World) (R:VW):Prop:=
 oP (Instr.box 62 a0) w fun x1 w=>
 rL 62 x1 w fun x3=>
 cL 49 [x3] w fun x4 w=>
 rD (Op.unary .not x4) w fun x5=>
 BR x5
 (R (Value.slice none 0 0) w)
 (rL 62 x1 w fun x6=>
 cL 63 [(Value.slice none 0 0),x6] w fun x7 w=>
 R x7 w)
def cfg50:Cfg:=⟨extL,[],[],[],[],[],[]⟩
theorem F50_call {a0:Value} {w:World} {R:VW} (h:F50 a0 w R):cL 50 [a0] w R:=co (g:=cfg50) Tryd.func50 (by kernel_rfl) (by kernel_rfl) (by kernel_rfl) h
def F42 (a0:Value) (w:World) (R:VW):Prop:=
 oP (Instr.box 62 a0) w fun x1 w=>
 rL 62 x1 w fun x3=>
 cL 41 [x3] w fun x4 w=>
 rD (Op.unary .not x4) w fun x5=>
 BR x5
 (oP (Instr.buildSlice 22 0 #[]) w fun x6 w=>
 R x6 w)
 (rL 62 x1 w fun x7=>
 oP (Instr.buildSlice 22 0 #[]) w fun x8 w=>
 cL 58 [x7,x8] w fun x9 w=>
 R x9 w)
def cfg42:Cfg:=⟨extL,[],[],[],[],[],[]⟩
theorem F42_call {a0:Value} {w:World} {R:VW} (h:F42 a0 w R):cL 42 [a0] w R:=co (g:=cfg42) Tryd.func42 (by kernel_rfl) (by kernel_rfl) (by kernel_rfl) h
def zgK (l:List ByteArray) (s:ByteArray):List ByteArray:=if s∈l then l else l++[s]
theorem zg2 (l:List ByteArray) (s:ByteArray):(zgK l s).length≤l.length+1:=by unfold zgK;split<;>simp
def readsT:Nat→DTerm→List ByteArray→List ByteArray
 | n,t,l=>if t.kind=2 then zgK l t.name else match n with | 0=>l | m+1=>t.kids.foldl (fun l k=>readsT m k l) l
theorem zb7 (n:Nat) (t:DTerm) (l:List ByteArray):readsT n t l=if t.kind=2 then zgK l t.name else match n with | 0=>l | m+1=>t.kids.foldl (fun l k=>readsT m k l) l:=readsT.eq_def n t l
theorem zdM {α β:Type} (f:β→α→β) (b:β) {l:List α} {k:Nat} (hk:k<l.length):(l.take (k+1)).foldl f b=f ((l.take k).foldl f b) l[k]:=by
 rw [List.take_succ_eq_append_getElem hk,List.foldl_append];rfl
theorem zdo {n:Nat} {t:DTerm} (h:zaF n t=true) (h2:¬t.kind=2):t.kids=[]∨∃ m,n=m+1∧t.kids.length≤2∧∀ k∈t.kids,zaF m k=true:=by
 by_cases h1:t.kind=1
 · rw [zbw h1] at h
   simp only [Bool.and_eq_true,decide_eq_true_eq] at h
   exact .inl (List.eq_nil_of_length_eq_zero (by omega))
 rw [zax h1 h2] at h
 simp only [Bool.and_eq_true,decide_eq_true_eq] at h
 obtain ⟨⟨_,h3⟩,h4⟩:=h
 cases n with
 | zero=>simp at h4
 | succ m=>
   refine .inr ⟨m,rfl,?_,fun k hk=>List.all_eq_true.1 h4 k hk⟩
   split at h3<;>omega
theorem zdN:∀ (n:Nat) (t:DTerm) (l:List ByteArray),zaF n t=true→(readsT n t l).length≤l.length+2^n
 | n,t,l,h=>by
   rw [zb7]
   have hp:1≤2^n:=Nat.one_le_two_pow
   split
   · have:=zg2 l t.name;omega
   rename_i h2
   rcases zdo h h2 with hk | ⟨m,rfl,hk,hall⟩
   · cases n with
     | zero=>simp
     | succ m=>simp [hk]
   show (t.kids.foldl (fun l k=>readsT m k l) l).length≤_
   have key:∀ (ks:List DTerm) (l:List ByteArray),(∀ k∈ks,zaF m k=true)→(ks.foldl (fun l k=>readsT m k l) l).length≤l.length+ks.length*2^m:=by
     intro ks
     induction ks with
     | nil=>intro l _;simp
     | cons k ks ih=>
       intro l hks
       rw [List.foldl_cons,List.length_cons,Nat.add_mul,Nat.one_mul]
       have h1:=ih (readsT m k l) fun x hx=>hks x (by simp [hx])
       have h2:=zdN m k l (hks k (by simp))
       omega
   have h1:=key t.kids l hall
   have h2:t.kids.length*2^m≤2*2^m:=Nat.mul_le_mul_right _ hk
   rw [Nat.pow_succ];omega
theorem zfE {w:World} {v:Value} {l:List ByteArray} {F:List Nat} {s:ByteArray} {ty:TypeId} {K:Value→World→Prop} (hr:RowF F 9 w v l) (hn:F.Nodup) (hs:s.size≤maxLen) (hl:l.length≤1000000)
   (k:∀ v' w',Chg F w w'→(∃ F',RowF F' 9 w' v' (l++[s])∧F'.Nodup∧∀ b∈F',b∈F∨w.heap.size≤b)→K v' w') :
   OP Tryd.prog (Instr.buildSlice 22 1 #[(0,.string s)]) w fun x w1=>OP Tryd.prog (Builtin.append_ #[22,22] ty [v,x].toArray) w1 K:=by
 refine zeu (α:=ByteArray) (x:=s) (F:=[]) u22 ty9 z9 (by decide) ⟨⟨_,⟨rfl,rfl,hs⟩,rfl⟩,List.nodup_nil,Wr.nil _⟩ fun w1 hx1 hm1=>?_
 obtain ⟨a,cap,Fi,xs,he,h1,h2,hc,h4⟩:=zbV hm1.is
 have hFi:=Cells.flat (xs:=xs) hc
 subst hFi
 refine zf5 (α:=ByteArray) (m:=[s]) u22 ty9 zc9 (hr.ext hx1) hn he hc (.inr ?_) (Wr.nil _) (by simpa using hn) (by simp only [List.length_cons,List.length_nil,zaE];omega) (by simp only [List.length_cons,List.length_nil];omega) fun v' w' F' hch hfull hr' hn' hs'=>?_
 · rcases h4 with h4 | ⟨b,o,ha,hra,_⟩
   · simp at h4
   exact ⟨b,o,ha,hra⟩
 have hown:∀ c∈v.ownBlock.toList,c∈F:=fun c hc=>by
   obtain ⟨xs,Fi,_,_,rfl,_⟩:=hr
   simp only [List.mem_append];exact .inl hc
 refine k v' w' ((Ext.chg F hx1).trans (hch.mono hown)) ⟨F',hr',hn',fun b hb=>?_⟩
 rcases hs' b hb with h | h | h
 · exact .inl h
 · simp at h
 exact .inr (Nat.le_trans hx1.size h)
theorem zfS {w:World} {v:Value} {l:List ByteArray} {F:List Nat} {s:ByteArray} (hr:RowF F 9 w v l) (hn:F.Nodup) (hs:s.size≤maxLen) (hl:l.length≤1000000) :
   CALL Tryd.prog 69 [v,.string s] w fun r w'=>Chg F w w'∧∃ F',RowF F' 9 w' r (zgK l s)∧F'.Nodup∧∀ b∈F',b∈F∨w.heap.size≤b:=by
 refine F69_call ?_
 unfold F69
 refine (zaY hr.own.is (Ext.refl w)).mono ?_
 rintro _ w1 ⟨hx1,rfl⟩
 refine br (fun c1=>?_) (fun c1=>?_)
 · exact ⟨Ext.chg F hx1,F,by unfold zgK;rw [if_pos c1];exact hr.ext hx1,hn,fun b hb=>.inl hb⟩
 refine zfE (hr.ext hx1) hn hs hl fun v' w' hc ⟨F',h1,h2,h3⟩=>⟨(Ext.chg F hx1).trans hc,F',by unfold zgK;rw [if_neg c1];exact h1,h2,fun b hb=>?_⟩
 rcases h3 b hb with h | h
 · exact .inl h
 exact .inr (Nat.le_trans hx1.size h)
def zea (F:List Nat) (w:World) (l:List ByteArray) (r:Value) (w':World):Prop:=Chg F w w'∧∃ F',RowF F' 9 w' r l∧F'.Nodup∧∀ b∈F',b∈F∨w.heap.size≤b
def ziz (n:Nat):Prop:=∀ {w W:World} {v u:Value} {t:DTerm} {l:List ByteArray} {F:List Nat},Is W v t→Ext W w→RowF F 9 w u l→F.Nodup→(∀ b∈F,W.heap.size≤b)→zaF n t=true→l.length+2^n≤1000 →
 CALL Tryd.prog 63 [u,v] w (zea F w (readsT n t l))
def ziA (n:Nat):Prop:=∀ {w W:World} {v u:Value} {t:DTerm} {l:List ByteArray} {F:List Nat},Is W v t→Ext W w→RowF F 9 w u l→F.Nodup→(∀ b∈F,W.heap.size≤b)→zaF n t=true→l.length+2^n≤1000 →
 CALL Tryd.prog 58 [v,u] w (zea F w (readsT n t l))
theorem zeb {n:Nat} {t:DTerm} {l:List ByteArray} (h:t.kind=2):readsT n t l=zgK l t.name:=by rw [zb7,if_pos h]
theorem zdp {n:Nat} {t:DTerm} {l:List ByteArray} (h:zaF n t=true) (h2:¬t.kind=2) (hl:l.length+2^n≤1000) :
   ∃ m,(t.kids=[]∨n=m+1)∧readsT n t l=t.kids.foldl (fun l k=>readsT m k l) l∧(∀ k∈t.kids,zaF m k=true)∧∀ k,k<t.kids.length→((t.kids.take k).foldl (fun l k=>readsT m k l) l).length+2^m≤1000:=by
 rcases zdo h h2 with hk | ⟨m,rfl,hk,hall⟩
 · refine ⟨0,.inl hk,?_,by simp [hk],by simp [hk]⟩
   rw [zb7,if_neg h2,hk]
   cases n<;>rfl
 refine ⟨m,.inr rfl,by rw [zb7,if_neg h2],hall,fun k hkl=>?_⟩
 rw [Nat.pow_succ] at hl
 have key:∀ (ks:List DTerm) (l:List ByteArray),(∀ k∈ks,zaF m k=true)→(ks.foldl (fun l k=>readsT m k l) l).length≤l.length+ks.length*2^m:=by
   intro ks
   induction ks with
   | nil=>intro l _;simp
   | cons k ks ih=>
     intro l hks
     rw [List.foldl_cons,List.length_cons,Nat.add_mul,Nat.one_mul]
     have h1:=ih (readsT m k l) fun x hx=>hks x (by simp [hx])
     have h2:=zdN m k l (hks k (by simp))
     omega
 have h1:=key (t.kids.take k) l fun x hx=>hall x (List.mem_of_mem_take hx)
 have h3:(t.kids.take k).length≤1:=by simp;omega
 have h4:(t.kids.take k).length*2^m≤1*2^m:=Nat.mul_le_mul_right _ h3
 omega
theorem zfF {W w:World} {b o:Nat} {t:DTerm} (h:AtB W w b o t):AtB W w b (o+3) t.kids:=by
 have h':AtB W w b o t.tup:=by obtain ⟨F,cs,hr,ha⟩:=h;exact ⟨F,cs,zck.1 hr,ha⟩
 exact h'.snd.snd.snd
theorem zec {n:Nat} (ih:∀ m,m+1=n→ziz m):ziz n:=by
 intro w W v u t l F h e hr hn hF ht hl
 refine F63_call ?_
 unfold F63
 refine zam zbq rfl h e fun w1 hx1 hA hV=>?_
 refine zaa zbP ?_
 refine zac ty3 (zaG hA) (Ext.refl w1) fun _=>?_
 refine zan ?_
 refine br (fun c1=>?_) (fun c1=>?_)
 · refine zaa zbn ?_
   refine zai ty9 (zau hA) (Ext.refl w1) fun hS=>?_
   have hp:1≤2^n:=Nat.one_le_two_pow
   refine (zfS (hr.ext hx1) hn hS (by omega)).mono ?_
   rintro r w2 ⟨hc,F',h1,h2,h3⟩
   refine ⟨(Ext.chg F hx1).trans hc,F',by rw [zeb c1];exact h1,h2,fun b hb=>?_⟩
   rcases h3 b hb with h | h
   · exact .inl h
   exact .inr (Nat.le_trans hx1.size h)
 obtain ⟨m,hm,he,hks,hlen⟩:=zdp ht c1 hl
 refine zaa zaS ?_
 refine zev zc0 (zfF (zge h hV rfl)) (e.trans hx1) (Ext.refl w1) fun v15 h15=>?_
 refine zae u60 h15 ?_
 have hll:=zad h15
 refine zaQ t.kids.length (fun k us w'=>∃ q,us=[q,.int .i64 (k:Int)]∧zea F w ((t.kids.take k).foldl (fun l k=>readsT m k l) l) q w') 0 (Nat.zero_le _) ⟨u,rfl,Ext.chg F hx1,F,by simpa using hr.ext hx1,hn,fun b hb=>.inl hb⟩ ?_
 rintro k mm uu w2 hkm ⟨q,hu,hc2,F2,hr2,hn2,hs2⟩
 obtain ⟨hu0,hu1⟩:=zhE hu
 try rw [hu0]
 try rw [hu1]
 have hF2:∀ b∈F2,W.heap.size≤b:=fun b hb=>by
   rcases hs2 b hb with h | h
   · exact hF b h
   exact Nat.le_trans e.size h
 have hxW:Ext W w2:=e.chg_trans hc2 hF
 refine zah ?_
 refine br (fun c2=>?_) (fun c2=>?_)
 · have hk:k<t.kids.length:=by omega
   obtain ⟨m',rfl⟩:∃ m',n=m'+1:=by
     rcases hm with h | h
     · rw [h] at hk;simp at hk
     exact ⟨m,h⟩
   have hmm:m'=m:=by
     rcases hm with h | h
     · rw [h] at hk;simp at hk
     omega
   subst hmm
   refine zaf u60 zbq h15 hk fun b o hA2=>?_
   refine zab zbq hA2 hxW fun v20 h20=>?_
   refine zdG zic rfl zbq rfl h20 hxW fun w3 hx3 hA3 hV3=>?_
   refine zaL hV3 (Ext.refl w3) ?_
   refine (ih m' rfl h20 (hxW.trans hx3) (hr2.ext hx3) hn2 hF2 (hks _ (List.getElem_mem hk)) (hlen k hk)).mono ?_
   rintro r w4 ⟨hc4,F4,hr4,hn4,hs4⟩
   refine zao (by omega) ?_
   refine ⟨mm-1,by omega,k+1,by omega,r,rfl,?_⟩
   refine ⟨?_,F4,by rw [zdM _ _ hk];exact hr4,hn4,fun b hb=>?_⟩
   · -- the blocks of F alone have turned
     refine ⟨hc4.os.trans (hx3.os.trans hc2.os),hc4.tape.trans (hx3.tape.trans hc2.tape),hc4.output.trans (hx3.output.trans hc2.output),Nat.le_trans hc2.size (Nat.le_trans hx3.size hc4.size),fun b hb hbF=>?_⟩
     have hb2:b<w2.heap.size:=Nat.lt_of_lt_of_le hb hc2.size
     have hbF2:b∉F2:=fun hm=>by
       rcases hs2 b hm with h | h
       · exact hbF h
       omega
     rw [hc4.block b (Nat.lt_of_lt_of_le hb2 hx3.size) hbF2,hx3.heap hb2,hc2.block b hb hbF]
   rcases hs4 b hb with h | h
   · exact hs2 b h
   have:=hx3.size;have:=hc2.size;exact .inr (by omega)
 rw [List.take_of_length_le (by omega),←he] at hr2
 exact ⟨hc2,F2,hr2,hn2,hs2⟩
theorem zdq:∀ n,ziz n
  | n=>zec fun m hm=>zdq m
termination_by n=>n
decreasing_by omega
theorem zed {n:Nat} (ih:∀ m,m+1=n→ziA m):ziA n:=by
 intro w W v u t l F h e hr hn hF ht hl
 refine F58_call ?_
 unfold F58
 have hlen:=zad hr.own.is
 have hp:1≤2^n:=Nat.one_le_two_pow
 refine zam zbq rfl h e fun w1 hx1 hA hV=>?_
 have hg1:w.heap.size<w1.heap.size:=hV.lt
 have hgF:w.heap.size∉F:=fun hm=>by have:=hr.lt _ hm;omega
 refine zaa zbP ?_
 refine zac ty3 (zaG hA) (Ext.refl w1) fun _=>?_
 refine zan ?_
 refine br (fun c1=>?_) (fun c1=>?_)
 · have hr1:=hr.ext hx1
   refine zaQ l.length (fun k us w'=>us=[.int .i64 (k:Int)]∧Ext w1 w'∧t.name∉l.take k) 0 (Nat.zero_le _) ⟨rfl,Ext.refl w1,by simp⟩ ?_
   rintro k mm uu w2 hkm ⟨hu,hx2,hinv⟩
   simp only [List.map_cons,List.map_nil,List.cons.injEq,and_true] at hu
   rw [hu]
   refine zae u22 hr1.own.is ?_
   refine zah ?_
   refine br (fun c2=>?_) (fun c2=>?_)
   · have hk:k<l.length:=by omega
     have hx3:=hx2.trans (zaw w2)
     refine zaf u22 ty9 hr1.own.is hk fun b o hA2=>?_
     refine zai ty9 hA2 hx3 fun _=>?_
     refine zaa zbn ?_
     refine zai ty9 (zau hA) hx3 fun _=>?_
     refine zaq ?_
     refine br (fun c3=>?_) (fun c3=>?_)
     · have hm:t.name∈l:=c3▸List.getElem_mem hk
       refine ⟨Ext.chg F (hx1.trans hx3),F,?_,hn,fun b hb=>.inl hb⟩
       rw [zeb c1,zgK,if_pos hm]
       exact hr1.ext hx3
     refine zao (by omega) ?_
     exact ⟨mm-1,by omega,k+1,by omega,rfl,hx3,za9 hk hinv c3⟩
   rw [List.take_of_length_le (by omega)] at hinv
   have hx3:=hx2.trans (zaw w2)
   first
     | refine zaa zbn ?_
     | skip
   refine zai ty9 (zau hA) hx2 fun hS=>?_
   refine zfE (hr1.ext hx2) hn hS (by omega) fun v' w' hc ⟨F',h1,h2,h3⟩=>?_
   refine ⟨(Ext.chg F (hx1.trans hx2)).trans hc,F',by rw [zeb c1,zgK,if_neg hinv];exact h1,h2,fun b hb=>?_⟩
   rcases h3 b hb with h | h
   · exact .inl h
   exact .inr (Nat.le_trans (hx1.trans hx2).size h)
 obtain ⟨m,hm,he,hks,hlen⟩:=zdp ht c1 hl
 refine zaQ t.kids.length (fun k us w'=>∃ q,us=[q,.int .i64 (k:Int)]∧zea F w1 ((t.kids.take k).foldl (fun l k=>readsT m k l) l) q w') 0 (Nat.zero_le _) ⟨u,rfl,Chg.refl F w1,F,by simpa using hr.ext hx1,hn,fun b hb=>.inl hb⟩ ?_
 rintro k mm uu w2 hkm ⟨q,hu,hc2,F2,hr2,hn2,hs2⟩
 obtain ⟨hu0,hu1⟩:=zhE hu
 try rw [hu0]
 try rw [hu1]
 have hF2:∀ b∈F2,W.heap.size≤b:=fun b hb=>by
   rcases hs2 b hb with h | h
   · exact hF b h
   have:=e.size;have:=hx1.size;omega
 have hxW:Ext W w2:=(e.trans hx1).chg_trans hc2 hF
 have hB2:AtB W w2 w.heap.size 0 t:=(zge h hV rfl).keep (hc2.block _ hg1 hgF)
 have hA2:=hB2.at hxW
 refine zaa zaS ?_
 refine zab zc0 (zaj hA2) (Ext.refl w2) fun v31 h31=>?_
 refine zae u60 h31 ?_
 have hll:=zad h31
 refine zah ?_
 refine br (fun c2=>?_) (fun c2=>?_)
 · have hk:k<t.kids.length:=by omega
   obtain ⟨m',rfl⟩:∃ m',n=m'+1:=by
     rcases hm with h | h
     · rw [h] at hk;simp at hk
     exact ⟨m,h⟩
   have hmm:m'=m:=by
     rcases hm with h | h
     · rw [h] at hk;simp at hk
     omega
   subst hmm
   refine zaa zaS ?_
   refine zev zc0 (zfF hB2) hxW (Ext.refl w2) fun v37 h37=>?_
   refine zaf u60 zbq h37 hk fun b o hA3=>?_
   refine zab zbq hA3 hxW fun v40 h40=>?_
   refine (ih m' rfl h40 hxW hr2 hn2 hF2 (hks _ (List.getElem_mem hk)) (hlen k hk)).mono ?_
   rintro r w4 ⟨hc4,F4,hr4,hn4,hs4⟩
   refine zao (by omega) ?_
   refine ⟨mm-1,by omega,k+1,by omega,r,rfl,?_⟩
   refine ⟨?_,F4,by rw [zdM _ _ hk];exact hr4,hn4,fun b hb=>?_⟩
   · refine ⟨hc4.os.trans hc2.os,hc4.tape.trans hc2.tape,hc4.output.trans hc2.output,Nat.le_trans hc2.size hc4.size,fun b hb hbF=>?_⟩
     have hb2:b<w2.heap.size:=Nat.lt_of_lt_of_le hb hc2.size
     have hbF2:b∉F2:=fun hm=>by
       rcases hs2 b hm with h | h
       · exact hbF h
       omega
     rw [hc4.block b hb2 hbF2,hc2.block b hb hbF]
   rcases hs4 b hb with h | h
   · exact hs2 b h
   have:=hc2.size;exact .inr (by omega)
 rw [List.take_of_length_le (by omega),←he] at hr2
 refine ⟨(Ext.chg F hx1).trans hc2,F2,hr2,hn2,fun b hb=>?_⟩
 rcases hs2 b hb with h | h
 · exact .inl h
 exact .inr (Nat.le_trans hx1.size h)
theorem zdr:∀ n,ziA n
  | n=>zed fun m hm=>zdr m
termination_by n=>n
decreasing_by omega
def zaU (t:DTerm):List ByteArray:=if zaF 6 t=true then readsT 6 t [] else []
theorem zg3 {α:Type} [Rep α] (e:TypeId) (w:World):RowF (α:=α) [] e w (.slice none 0 0) []:=⟨[],[],⟨by simp,.inl ⟨rfl,rfl⟩⟩,⟨rfl,rfl⟩,rfl,Wr.nil _⟩
theorem zcg {w W:World} {v:Value} {t:DTerm} (h:Is W v t) (e:Ext W w):CALL Tryd.prog 50 [v] w fun r w'=>Ext w w'∧Is w' r (zaU t):=by
 refine F50_call ?_
 unfold F50
 refine zam zbq rfl h e fun w1 hx1 hA hV=>?_
 refine zaL hV (Ext.refl w1) ?_
 refine (zbM h (e.trans hx1)).mono ?_
 rintro _ w2 ⟨hx2,rfl⟩
 refine zbg ?_
 refine zej (fun c=>?_) (fun c=>?_)
 · refine ⟨hx1.trans hx2,?_⟩
   unfold zaU
   rw [if_neg (by simpa using c)]
   exact zh3 rfl
 have c:zaF 6 t=true:=by simpa using c
 refine zaL hV hx2 ?_
 refine (zdq 6 h ((e.trans hx1).trans hx2) (zg3 _ _) List.nodup_nil (by simp) c (by decide)).mono ?_
 rintro r w3 ⟨hc,F',hr,hn,hs⟩
 refine ⟨(hx1.trans hx2).trans (Chg.ext hc),?_⟩
 unfold zaU
 rw [if_pos c]
 exact hr.own.is
theorem zch {w W:World} {v:Value} {t:DTerm} (h:Is W v t) (e:Ext W w):CALL Tryd.prog 42 [v] w fun r w'=>Ext w w'∧Is w' r (zaU t):=by
 refine F42_call ?_
 unfold F42
 refine zam zbq rfl h e fun w1 hx1 hA hV=>?_
 refine zaL hV (Ext.refl w1) ?_
 refine (zbN h (e.trans hx1)).mono ?_
 rintro _ w2 ⟨hx2,rfl⟩
 refine zbg ?_
 refine zej (fun c=>?_) (fun c=>?_)
 · refine zet (α:=ByteArray) u22 ty9 fun a w3 hx3 hr3=>?_
   refine ⟨(hx1.trans hx2).trans hx3,?_⟩
   unfold zaU
   rw [if_neg (by simpa using c)]
   exact hr3.is
 have c:zaF 6 t=true:=by simpa using c
 refine zaL hV hx2 ?_
 refine zet (α:=ByteArray) u22 ty9 fun a w3 hx3 hr3=>?_
 obtain ⟨F,hr,hn,hl⟩:=hr3
 have hx13:=(hx1.trans hx2)
 refine (zdr 6 h ((e.trans hx13).trans hx3) hr hn (fun b hb=>Nat.le_trans (e.trans hx13).size (hl b hb)) c (by decide)).mono ?_
 rintro r w4 ⟨hc,F',hr',hn',hs'⟩
 refine ⟨(hx13.trans hx3).chg_trans hc (fun b hb=>Nat.le_trans hx13.size (hl b hb)),?_⟩
 unfold zaU
 rw [if_pos c]
 exact hr'.own.is
end Go.Proofs.YtifonhplnmpgaaaDoor
