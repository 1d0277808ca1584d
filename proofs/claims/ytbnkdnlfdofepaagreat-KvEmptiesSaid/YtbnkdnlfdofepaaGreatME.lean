/- The disk's functions that turn one file: Append, Sync, Cut. slices.Clone of bytes. The disk's other functions: New, Read, Synced, Names, Arm, Down, Grow. The disk's names. The disk's crash. The disk's contracts as a law meets them: the disk lies in memory that the law's own call made. -/
import Derived.Test.YtbnkdnlfdofepaaGreatMD
import Derived.Test.YtbnkdnlfdofepaaGreatRows
import Derived.Test.YtbnkdnlfdofepaaGreatMA
set_option linter.unusedVariables false
set_option linter.unusedSimpArgs false
namespace Go.Proofs.YtbnkdnlfdofepaaGreat
open Go.RowKit
set_option maxRecDepth 100000
theorem map_set {α β:Type} {key:α->Bs} {key':β->Bs} (φ:α->β) (hk:∀x,key' (φ x)=key x) (l:List α) (s:Bs) (g:α->α) (g':β->β) (hg:∀x∈l,key x=s->φ (g x)=g' (φ x)):(dE key l s g).map φ=dE key' (l.map φ) s g':=by
 unfold dE
 rw [List.map_map,List.map_map]
 apply List.map_congr_left
 intro x hx
 simp only [Function.comp,hk]
 split
 ·rename_i e;exact hg x hx e
 ·rfl
theorem Lay.VM {w w':World} {d:Nat} {m m':MD} {v:Value} {ga:Option Nat} {fs:List FM} (h:Lay w d m v ga fs) {s:Bs} {f:FM} (hf:aO FM.key fs s=some f) (g:FM->FM) (hp:∀x,(g x).p=x.p) (hk:∀x,(g x).key=x.key)
  {T:Nat->Prop} (hu:Upd T w w') (hT:∀b,T b->b=f.p\/f.ob=some b) (hn:dY w' (g f)) (hob:(g f).ob=f.ob\/∀c,(g f).ob=some c->w.heap.size<=c)
  (hl:m'.limit=m.limit) (ha:m'.armed=m.armed) (hd:m'.down=m.down) (Eg:m'.fs=(dE FM.key fs s g).map FM.abs) (ok:m'.Ok):Lay w' d m' v ga (dE FM.key fs s g):=by
 obtain ⟨hm,hks⟩:=get_mem hf
 have hr:=h.rising
 have only:∀x∈fs,x.key=s->x=f:=fun x hx e=>by
  have:=hr.sO.2 ⟨hx,e⟩;rw [hf] at this;exact (Option.some.inj this).symm
 have hTd:¬T d:=fun ht=>by
  rcases hT d ht with e|e
  ·exact h.Qg hm e.symm
  ·exact h.Ld hm e
 refine ⟨?_, ?_, ?_,Eg, ?_, ?_,ok⟩
 ·have:=h.disk.upd hu hTd
  rw [hl,ha,hd];exact this
 ·have e1:(dE FM.key fs s g).length=fs.length:=by simp [dE]
  have e2:(dE FM.key fs s g).map (fun f=>uD f.p)=fs.map fun f=>uD f.p:=by
   unfold dE;rw [List.map_map];apply List.map_congr_left;intro x _;simp only [Function.comp];split<;>simp [hp]
  rw [e1,e2]
  refine h.arr.upd hu (fun c hc ht=> ?_)
  rcases hT c ht with e|e
  ·exact h.Qh hm (by rw [hc,e])
  ·exact h.NH hm e (by rw [hc])
 ·intro x hx
  obtain ⟨y,hy,rfl⟩:=List.mem_map.1 hx
  by_cases e:y.key=s
  ·rw [if_pos e];have:=only y hy e;subst this;exact hn
  ·rw [if_neg e]
   have hne:y≠f:=fun e'=>e (e'▸hks)
   refine (h.files y hy).upd hu (fun ht=> ?_) (fun c hc ht=> ?_)
   ·rcases hT _ ht with e'|e'
    ·exact hne (wY h.pn hy hm e')
    ·exact h.pY hy hm e'
   ·rcases hT _ ht with e'|e'
    ·exact h.pY hm hy (by rw [hc,e'])
    ·exact hne (qf h.bn hy hm hc e')
 ·have:(dE FM.key fs s g).map FM.p=fs.map FM.p:=by
   unfold dE;rw [List.map_map];apply List.map_congr_left;intro x _;simp only [Function.comp];split<;>simp [hp]
  rw [this];exact h.pn
 ·have hb:fs.Pairwise fun a b=>∀c,a.ob=some c->∀e,b.ob=some e->c≠e:=List.pairwise_filterMap.1 h.bn
  refine List.pairwise_filterMap.2 (List.pairwise_map.2 (List.pairwise_iff_getElem.2 fun i j hi hj hij=> ?_))
  have hb':=List.pairwise_iff_getElem.1 hb i j hi hj hij
  have nf:∀(k:Nat) (hk':k < fs.length),¬(fs[k]).key=s->∀c,(fs[k]).ob=some c->(g f).ob≠some c:=fun k hk' aav c hc e=>by
   rcases hob with ho|ho
   ·rw [ho] at e
    have:=qf h.bn (List.getElem_mem hk') hm hc e
    rw [this] at aav;exact aav hks
   ·have h1:=ho c e
    have h2:=(h.files _ (List.getElem_mem hk')).own.lt c hc
    omega
  intro c hc e he
  by_cases e1:(fs[i]).key=s
  ·rw [if_pos e1] at hc
   have hif:=only _ (List.getElem_mem hi) e1
   by_cases e2:(fs[j]).key=s
   ·exact absurd (hr.key_inj hi hj (e1.trans e2.symm)) (by omega)
   ·rw [if_neg e2] at he
    rw [hif] at hc
    intro e3;subst e3
    exact nf j hj e2 c he hc
  ·rw [if_neg e1] at hc
   by_cases e2:(fs[j]).key=s
   ·rw [if_pos e2] at he
    rw [only _ (List.getElem_mem hj) e2] at he
    intro e3;subst e3
    exact nf i hi e1 c hc he
   ·rw [if_neg e2] at he
    exact hb' c hc e he
theorem Gt {w:World} {d:Nat} {ga:Option Nat} {fs:List FM} {s:Bs} {f:FM} (hf:aO FM.key fs s=some f) (hr:ay FM.key fs) (g:FM->FM) (hp:∀x,(g x).p=x.p) (hob:(g f).ob=f.ob\/∀c,(g f).ob=some c->w.heap.size<=c):
  ∀b,DS d ga (dE FM.key fs s g) b->DS d ga fs b\/w.heap.size<=b:=by
 rintro b (h|h|⟨x,hx,h⟩)
 ·exact .inl (.inl h)
 ·exact .inl (.inr (.inl h))
 ·obtain ⟨y,hy,rfl⟩:=List.mem_map.1 hx
  by_cases e:y.key=s
  ·have hyf:y=f:=by have:=hr.sO.2 ⟨hy,e⟩;rw [hf] at this;exact (Option.some.inj this).symm
   subst hyf
   rw [if_pos e] at h
   rcases h with h|h
   ·exact .inl (.inr (.inr ⟨y,hy, .inl (by rw [h,hp])⟩))
   ·rcases hob with ho|ho
    ·rw [ho] at h;exact .inl (.inr (.inr ⟨y,hy, .inr h⟩))
    ·exact .inr (ho b h)
  ·rw [if_neg e] at h
   exact .inl (.inr (.inr ⟨y,hy,h⟩))
theorem uF (l:Bs):∀u∈l.map bv,u.oneCell'=true:=by
 intro u hu;obtain ⟨x,_,rfl⟩:=List.mem_map.1 hu;rfl
theorem Y2:(Tryz.prog.info? 5).map (fun i=>(i.zero,i.size,i.bytes))=some (some (.int .u8 0),1,1):=by kernel_rfl
theorem zf {w w1 w2:World} {d:Nat} {m:MD} {v:Value} {ga:Option Nat} {fs:List FM} {r:Value} (h:Lay w1 d m v ga fs) (hu1:Upd (DS d ga fs) w w1) {s:Bs} {f:FM} (hf:aO FM.key fs s=some f) (g:FM->FM) (g':MF->MF) (hp:∀x,(g x).p=x.p) (hk:∀x,(g x).key=x.key)
  {T:Nat->Prop} (hu:Upd T w1 w2) (hT:∀b,T b->b=f.p\/f.ob=some b) (hn:dY w2 (g f)) (hob:(g f).ob=f.ob\/∀c,(g f).ob=some c->w1.heap.size<=c)
  (Eg:(g f).abs=g' f.abs) (ok:MD.Ok {m with fs:=dE MF.name m.fs s g'}) {e:Ending} (he:e= .returned r):
  dN w d (DS d ga fs) r {m with fs:=dE MF.name m.fs s g'} e w2:=by
 obtain ⟨hm,hks⟩:=get_mem hf
 have hr:=h.rising
 have abQ:(g f).ob=f.ob\/∀c,(g f).ob=some c->w.heap.size<=c:=by
  rcases hob with h|h
  ·exact .inl h
  ·exact .inr fun c hc=>Nat.le_trans hu1.size (h c hc)
 have e1:dE MF.name m.fs s g'=(dE FM.key fs s g).map FM.abs:=by
  rw [h.abs,map_set (key:=FM.key) (key':=MF.name) FM.abs (fun _=>rfl) fs s g g' (fun x hx e=>by
   have:=hr.sO.2 ⟨hx,e⟩;rw [hf] at this;cases this;exact Eg)]
 refine ⟨he,DS d ga (dE FM.key fs s g),⟨v,ga,_,h.VM hf g hp hk hu hT hn hob rfl rfl rfl e1 ok,rfl⟩,hu1.trans hu (fun b hb=> ?_),Gt hf hr g hp abQ⟩
 rcases hT b hb with e|e
 ·exact .inl (.inr (.inr ⟨f,hm, .inl e⟩))
 ·exact .inl (.inr (.inr ⟨f,hm, .inr e⟩))
set_option maxHeartbeats 800000 in
theorem Qk {w:World} {d:Nat} {m:MD} {S:Nat->Prop} (h:bQ w d m S) (hn:m.fs.length<=1099511627775) (s:ByteArray):
  Calls Tryz.prog 108 #[.pointer (some ⟨d,0,none⟩), .string s] w (dN w d S (.int .i64 (m.sync s.data.toList).1) (m.sync s.data.toList).2):=by
 obtain ⟨v,ga,fs,hl,rfl⟩:=h
 have hfl:fs.length<=1099511627776:=by
   have:fs.length=m.fs.length:=by rw [hl.abs,List.length_map]
   omega
 have HL:=Lib.hid hl
 cases hg:aO FM.key fs s.data.toList with
 |none=>
  have e1:m.sync s.data.toList=(22,m):=by simp [MD.sync,nP hl hg]
  rw [e1]
  have FC:=Lib.hid (lg hl s hfl hg)
  clear hl hg e1
  go_enter Tryz.func108,Tryz.ntmps108
  go_wp2_with (go_at_call 95;refine FC.out.mono ?_;rintro e w' ⟨rfl,rfl⟩)
  go_ret
  exact dN.same rfl ⟨v,ga,fs,HL.out,rfl⟩ (Upd.refl _ _)
 |some f=>
  have FC:=Lib.hid (kZ hl s hfl hg)
  have PC:=lh hl.disk hl.ok.Jb hl.ok.Jc
  have hget:=lS hl hg
  cases hd:m.count.down with
  |true=>
   have e1:m.sync s.data.toList=(13,m.count):=by simp [MD.sync,hget,hd]
   rw [e1]
   rw [hd] at PC
   have PC':=Lib.hid PC
   clear PC hl hg e1 hd hget
   go_enter Tryz.func108,Tryz.ntmps108
   go_wp2_with (first
    |(go_at_call 95;refine FC.out.mono ?_;rintro e w' ⟨rfl,rfl⟩)
    |(go_at_call 93;refine PC'.out.mono ?_;rintro e w1 ⟨rfl,h1,h2⟩;have H1:=Lib.hid (HL.out.count h1 h2);have H2:=Lib.hid h2;clear h1 h2))
   go_ret
   exact dN.same rfl ⟨v,ga,fs,H1.out,rfl⟩ (dR H2.out)
  |false=>
   have e1:m.sync s.data.toList=(0,{m.count with fs:=dE MF.name m.count.fs s.data.toList fun f=>{f with synced:=f.b.length}}):=by simp [MD.sync,hget,hd,MD.bT]
   have hok:=hl.ok.sync s.data.toList
   rw [e1] at hok ⊢
   rw [hd] at PC
   have PC':=Lib.hid PC
   have HOK:=Lib.hid hok
   have HG:=Lib.hid hg
   have hfm:=(get_mem hg).1
   obtain ⟨fa,fc,hv,hle,hcm⟩:=(hl.files f hfm).slice
   clear PC hl hg e1 hd hget hok
   obtain ⟨fp,fname,fv,fb,fsy,fob⟩:=f
   dsimp only at*
   subst hv
   go_enter Tryz.func108,Tryz.ntmps108
   go_wp2_with (first
    |(go_at_call 95;refine FC.out.mono ?_;rintro e w' ⟨rfl,rfl⟩)
    |(
      go_at_call 93;refine PC'.out.mono ?_;rintro e w1 ⟨rfl,h1,h2⟩;have H1:=Lib.hid (HL.out.count h1 h2);have H2:=Lib.hid h2
      have hfa:=(H1.out.files _ hfm)
      have cf:w1.cell? ⟨fp,1,none⟩=some (.slice fa fb.length fc):=hfa.blk.cell 1
      have cf2:w1.cell? ⟨fp,2,none⟩=some (.int .i64 fsy):=hfa.blk.cell 2
      have ff:w1.frozen? ⟨fp,2,none⟩=false:=hfa.blk.frozen 2
      clear h1 h2 hfa))
   go_ret
   have hfa:=(H1.out.files _ hfm)
   exact zf H1.out (dR H2.out) HG.out (fun x=>{x with synced:=x.b.length}) _ (fun _=>rfl) (fun _=>rfl) (T:=fun b=>b=fp) ((Upd.refl (fun b=>b=fp) _).setCell (p:=⟨fp,2,none⟩) (.inl rfl) _) (fun b hb=> .inl hb) ⟨hfa.blk.set 2 _,hfa.own.setOther (H1.out.pY hfm hfm) _⟩ (.inl rfl) rfl HOK.out rfl
theorem dY.aaw {w:World} {f:FM} (h:dY w f) {k:Nat} (hk:k<=f.b.length) {fa:Option Addr} {c:Nat} (hv:f.v= .slice fa f.b.length c):Own w 5 1 (.slice fa k k) k ((f.b.take k).map bv) f.ob:=by
 have ho:=h.own
 rw [hv] at ho
 refine ⟨by simp;omega, ?_⟩
 rcases ho.2 with ⟨h1,h2,h3⟩|⟨g,cap,cur,h1,h2,h3,h4,h5,h6,h7⟩
 ·simp only [Value.slice.injEq] at h1
  obtain ⟨rfl,h8,rfl⟩:=h1
  have:k=0:=by omega
  subst this
  exact .inl ⟨rfl,rfl,h3⟩
 ·simp only [Value.slice.injEq] at h1
  obtain ⟨rfl,h8,rfl⟩:=h1
  refine .inr ⟨g,k,cur,rfl,h2,h3,Nat.le_refl _,by omega,by omega, ?_⟩
  rw [Nat.mul_one] at h7 ⊢
  rw [List.map_take,<-h7,List.take_take,Nat.min_eq_left hk]
set_option maxHeartbeats 800000 in
theorem VN {w:World} {d:Nat} {m:MD} {S:Nat->Prop} (h:bQ w d m S) (hn:m.fs.length<=1099511627775) (s:ByteArray) (n:Int):
  Calls Tryz.prog 121 #[.pointer (some ⟨d,0,none⟩), .string s, .int .i64 n] w (dN w d S (.int .i64 (m.cut s.data.toList n).1) (m.cut s.data.toList n).2):=by
 obtain ⟨v,ga,fs,hl,rfl⟩:=h
 have hfl:fs.length<=1099511627776:=by
   have:fs.length=m.fs.length:=by rw [hl.abs,List.length_map]
   omega
 have HL:=Lib.hid hl
 cases hg:aO FM.key fs s.data.toList with
 |none=>
  have e1:m.cut s.data.toList n=(22,m):=by simp [MD.cut,nP hl hg]
  rw [e1]
  have FC:=Lib.hid (lg hl s hfl hg)
  clear hl hg e1
  go_enter Tryz.func121,Tryz.ntmps121
  go_wp2_with (go_at_call 95;refine FC.out.mono ?_;rintro e w' ⟨rfl,rfl⟩)
  go_ret
  exact dN.same rfl ⟨v,ga,fs,HL.out,rfl⟩ (Upd.refl _ _)
 |some f=>
  have FC:=Lib.hid (kZ hl s hfl hg)
  have PC:=lh hl.disk hl.ok.Jb hl.ok.Jc
  have hget:=lS hl hg
  have HG:=Lib.hid hg
  have hfm:=(get_mem hg).1
  obtain ⟨fa,fc,hv,hle,hcm⟩:=(hl.files f hfm).slice
  have hfa:=hl.files f hfm
  have c1:w.cell? ⟨f.p,1,none⟩=some (.slice fa f.b.length fc):=by rw [<-hv];exact hfa.blk.cell 1
  unfold maxLen at hcm
  by_cases hbad:n < 0\/(f.b.length:Int) < n
  ·have e1:m.cut s.data.toList n=(1,m):=by simp only [MD.cut,hget];rw [if_pos];exact hbad
   rw [e1]
   have hlen:(f.b.length:Int)<=9223372036854775807:=by omega
   generalize f.b.length=L at*
   clear PC hl hg e1 hget hfa hv
   rcases hbad with hb|hb
   ·go_enter Tryz.func121,Tryz.ntmps121
    go_wp2_with (go_at_call 95;refine FC.out.mono ?_;rintro e w' ⟨rfl,rfl⟩)
    go_ret
    exact dN.same rfl ⟨v,ga,fs,HL.out,rfl⟩ (Upd.refl _ _)
   ·have hb0:0<=n:=by omega
    go_enter Tryz.func121,Tryz.ntmps121
    go_wp2_with (go_at_call 95;refine FC.out.mono ?_;rintro e w' ⟨rfl,rfl⟩)
    go_ret
    exact dN.same rfl ⟨v,ga,fs,HL.out,rfl⟩ (Upd.refl _ _)
  ·obtain ⟨k,rfl⟩:∃k:Nat,n=k:=⟨n.toNat,by omega⟩
   have hk:k<=f.b.length:=by omega
   cases hd:m.count.down with
   |true=>
    have e1:m.cut s.data.toList k=(13,m.count):=by simp only [MD.cut,hget];rw [if_neg (by exact hbad),if_pos hd]
    rw [e1]
    rw [hd] at PC
    have PC':=Lib.hid PC
    generalize f.b.length=L at*
    clear PC hl hg e1 hd hget hfa hv hbad
    go_enter Tryz.func121,Tryz.ntmps121
    go_wp2_with (first
     |(go_at_call 95;refine FC.out.mono ?_;rintro e w' ⟨rfl,rfl⟩)
     |(go_at_call 93;refine PC'.out.mono ?_;rintro e w1 ⟨rfl,h1,h2⟩;have H1:=Lib.hid (HL.out.count h1 h2);have H2:=Lib.hid h2;clear h1 h2))
    go_ret
    exact dN.same rfl ⟨v,ga,fs,H1.out,rfl⟩ (dR H2.out)
   |false=>
    have e1:m.cut s.data.toList k=(0,{m.count with fs:=dE MF.name m.count.fs s.data.toList fun f=>{f with b:=f.b.take k,synced:=k}}):=by
     simp only [MD.cut,hget];rw [if_neg (by exact hbad),if_neg (by simp [hd]),MD.bT];rfl
    have hok:=hl.ok.cut s.data.toList k
    rw [e1] at hok ⊢
    rw [hd] at PC
    have PC':=Lib.hid PC
    have HOK:=Lib.hid hok
    have HV:=Lib.hid hv
    clear PC hl hg e1 hd hget hok hfa hv hbad
    obtain ⟨fp,fname,fv,fb,fsy,fob⟩:=f
    dsimp only at*
    go_enter Tryz.func121,Tryz.ntmps121
    go_wp2_with (first
     |(go_at_call 95;refine FC.out.mono ?_;rintro e w' ⟨rfl,rfl⟩)
     |(
       go_at_call 93;refine PC'.out.mono ?_;rintro e w1 ⟨rfl,h1,h2⟩;have H1:=Lib.hid (HL.out.count h1 h2);have H2:=Lib.hid h2
       have hfa:=(H1.out.files _ hfm)
       have cf:w1.cell? ⟨fp,1,none⟩=some (.slice fa fb.length fc):=by rw [<-HV.out];exact hfa.blk.cell 1
       have cf2:w1.cell? ⟨fp,2,none⟩=some (.int .i64 fsy):=hfa.blk.cell 2
       have ff1:w1.frozen? ⟨fp,1,none⟩=false:=hfa.blk.frozen 1
       have ff:w1.frozen? ⟨fp,2,none⟩=false:=hfa.blk.frozen 2
       clear h1 h2 hfa))
    go_ret
    have hfa:=(H1.out.files _ hfm)
    have hcut:=hfa.aaw hk HV.out
    exact zf H1.out (dR H2.out) HG.out (fun x=>{x with v:= .slice fa k k,b:=x.b.take k,synced:=k}) _ (fun _=>rfl) (fun _=>rfl) (T:=fun b=>b=fp) (((Upd.refl (fun b=>b=fp) _).setCell (p:=⟨fp,1,none⟩) (.inl rfl) _).setCell (p:=⟨fp,2,none⟩) (.inl rfl) _) (fun b hb=> .inl hb)
     ⟨(
       hfa.blk.set 1 _).set 2 _,by
       have:=(hcut.setOther (a:=⟨fp,1,none⟩) (H1.out.pY hfm hfm) (.slice fa k k)).setOther (a:=⟨fp,2,none⟩) (H1.out.pY hfm hfm) (.int .i64 k)
       have e:(fb.take k).length=k:=by simp;omega
       show Own _ _ _ _ (fb.take k).length _ _
       rw [e];exact this⟩ (.inl rfl) rfl HOK.out rfl
theorem dN.res {w w':World} {d:Nat} {S:Nat->Prop} {r r':Value} {m:MD} {e:Ending} (hr:r=r') (h:dN w d S r m e w'):dN w d S r' m e w':=hr▸h
set_option maxHeartbeats 800000 in
theorem Jk {w:World} {d:Nat} {m:MD} {S:Nat->Prop} (h:bQ w d m S) (hn:m.fs.length<=1099511627775) (s:ByteArray) (vb:Value) (b:Bs) (hrd:Rd w 1 vb b.length (b.map bv)) (hsep:0 < b.length->∀g,vb.ownBlock=some g->¬S g):
  Calls Tryz.prog 51 #[.pointer (some ⟨d,0,none⟩), .string s,vb] w (dN w d S (.int .i64 (m.append s.data.toList b).1) (m.append s.data.toList b).2):=by
 obtain ⟨v,ga,fs,hl,rfl⟩:=h
 have hfl:fs.length<=1099511627776:=by
   have:fs.length=m.fs.length:=by rw [hl.abs,List.length_map]
   omega
 have HL:=Lib.hid hl
 obtain ⟨_,hbm,ba,bc,rfl,hbl,Ql,_,_⟩:=id hrd
 unfold maxLen at hbm Ql
 have HR:=Lib.hid hrd
 have HS:=Lib.hid hsep
 cases hg:aO FM.key fs s.data.toList with
 |none=>
  have e1:m.append s.data.toList b=(22,m):=by simp [MD.append,nP hl hg]
  rw [e1]
  have FC:=Lib.hid (lg hl s hfl hg)
  clear hl hg e1 hrd hsep
  go_enter Tryz.func51,Tryz.ntmps51
  go_wp2_with (go_at_call 95;refine FC.out.mono ?_;rintro e w' ⟨rfl,rfl⟩)
  go_ret
  exact dN.same rfl ⟨v,ga,fs,HL.out,rfl⟩ (Upd.refl _ _)
 |some f=>
  have FC:=Lib.hid (kZ hl s hfl hg)
  have PC:=lh hl.disk hl.ok.Jb hl.ok.Jc
  have hget:=lS hl hg
  have HG:=Lib.hid hg
  have hfm:=(get_mem hg).1
  have c3:w.cell? ⟨d,3,none⟩=some (.bool m.down):=hl.disk.cell 3
  cases hdn:m.down with
  |true=>
   have e1:m.append s.data.toList b=(13,m.count):=by simp only [MD.append,hget];rw [if_pos (.inl hdn)]
   rw [e1]
   rw [hdn] at c3
   have PC':=Lib.hid PC
   clear PC hl hg e1 hget hrd hsep hdn
   go_enter Tryz.func51,Tryz.ntmps51
   go_wp2_with (first
    |(go_at_call 95;refine FC.out.mono ?_;rintro e w' ⟨rfl,rfl⟩)
    |(go_at_call 93;refine PC'.out.mono ?_;rintro e w1 ⟨rfl,h1,h2⟩;have H1:=Lib.hid (HL.out.count h1 h2);have H2:=Lib.hid h2;clear h1 h2))
   go_quiet (fail)
   go_wp2
   go_ret
   exact dN.same rfl ⟨v,ga,fs,H1.out.upd (S:=dG) ((Upd.refl _ _).drewN _) (fun _ _ h=>h),rfl⟩ ((dR H2.out).drewN _)
  |false=>
   have hlim0:=hl.ok.aaq
   have XQ:=hl.ok.VJ
   have hroom:=hl.ok.room
   by_cases hfull:m.limit - m.used < b.length
   ·have e1:m.append s.data.toList b=(13,m.count):=by simp only [MD.append,hget];rw [if_pos (.inr hfull)]
    rw [e1]
    rw [hdn] at c3
    have PC':=Lib.hid PC
    have Y3:=Lib.hid (MD.qR m)
    have HUS:=Lib.hid (MD.uC m)
    clear PC hl hg e1 hget hrd hsep hdn
    generalize m.used=U at*
    generalize m.limit=LI at*
    generalize b.length=BL at*
    go_enter Tryz.func51,Tryz.ntmps51
    go_wp2_with (first
     |(go_at_call 95;refine FC.out.mono ?_;rintro e w' ⟨rfl,rfl⟩)
     |(
       go_at_call 93;refine PC'.out.mono ?_;rintro e w1 ⟨rfl,h1,h2⟩;have H1:=Lib.hid (HL.out.count h1 h2);have H2:=Lib.hid h2
       have c0:w1.cell? ⟨d,0,none⟩=some (.int .i64 LI):=by rw [<-Y3.out];exact H1.out.disk.cell 0
       clear h1 h2))
    have UC:∀n,Calls Tryz.prog 96 #[.pointer (some ⟨d,0,none⟩)] (w1.drewN n) fun e w'=>e= .returned (.int .i64 U)/\w'=w1.drewN n:=fun n=>by
     have:=Gm (H1.out.upd (S:=dG) ((Upd.refl _ _).drewN n) (fun _ _ h=>h)) hfl
     rw [HUS.out] at this;exact this
    have UCH:=Lib.hid UC
    clear UC
    go_quiet ((go_at_call 96;exact Calls.quiet_of_same (UCH.out _)))
    go_wp2
    go_ret
    exact dN.same rfl ⟨v,ga,fs,H1.out.upd (S:=dG) ((Upd.refl _ _).drewN _) (fun _ _ h=>h),rfl⟩ ((dR H2.out).drewN _)
   ·have e1:m.append s.data.toList b=(if m.count.down=true then 13 else 0,{m.count with fs:=dE MF.name m.count.fs s.data.toList fun f=>{f with b:=f.b++b}}):=by
     simp only [MD.append,hget];rw [if_neg (by rintro (h|h);rw [hdn] at h;cases h;exact hfull h),MD.bT]
    have hok:=hl.ok.append s.data.toList b
    rw [e1] at hok ⊢
    rw [hdn] at c3
    have PC':=Lib.hid PC
    have HOK:=Lib.hid hok
    have Y3:=Lib.hid (MD.qR m)
    have HUS:=Lib.hid (MD.uC m)
    obtain ⟨fa,fc,hv,hle,hcm⟩:=(hl.files f hfm).slice
    have HV:=Lib.hid hv
    have hfu:(f.b.length:Int)<=m.used:=by
     have h1:=MD.fM hl.ok.rising (lS hl hg)
     rw [MD.iO]
     have:f.abs.b=f.b:=rfl
     rw [this] at h1
     omega
    have H1c:=Lib.hid (uF b)
    clear PC hl hg e1 hget hrd hsep hdn hok hv
    generalize m.used=U at*
    generalize m.limit=LI at*
    obtain ⟨fp,fname,fv,fb,fsy,fob⟩:=f
    dsimp only at*
    rcases Bool.eq_false_or_eq_true m.count.down with hd|hd
    all_goals
     rw [hd] at PC'
     generalize aax:(if m.count.down=true then (13:Int) else 0)=RES at*
     have abR:=Lib.hid aax
     have HD:=Lib.hid hd
     clear hd aax
     go_enter Tryz.func51,Tryz.ntmps51
     go_wp2_with (first
      |(go_at_call 95;refine FC.out.mono ?_;rintro e w' ⟨rfl,rfl⟩)
      |(
        go_at_call 93;refine PC'.out.mono ?_;rintro e w1 ⟨rfl,h1,h2⟩;have H1:=Lib.hid (HL.out.count h1 h2);have H2:=Lib.hid h2
        have c0:w1.cell? ⟨d,0,none⟩=some (.int .i64 LI):=by rw [<-Y3.out];exact H1.out.disk.cell 0
        have hfa:=(H1.out.files _ hfm)
        have cf:w1.cell? ⟨fp,1,none⟩=some (.slice fa fb.length fc):=by rw [<-HV.out];exact hfa.blk.cell 1
        clear h1 h2 hfa))
     have UC:∀n,Calls Tryz.prog 96 #[.pointer (some ⟨d,0,none⟩)] (w1.drewN n) fun e w'=>e= .returned (.int .i64 U)/\w'=w1.drewN n:=fun n=>by
      have:=Gm (H1.out.upd (S:=dG) ((Upd.refl _ _).drewN n) (fun _ _ h=>h)) hfl
      rw [HUS.out] at this;exact this
     have UCH:=Lib.hid UC
     clear UC
     go_quiet ((go_at_call 96;exact Calls.quiet_of_same (UCH.out _)))
     have hfa:=(H1.out.files _ hfm)
     have HOW:Hid (Own w1 5 1 (.slice fa fb.length fc) fb.length (fb.map bv) fob):=by have:=hfa.own;dsimp only at this;rw [HV.out] at this;exact this
     have HRD:Hid (Rd w1 1 (.slice ba b.length bc) b.length (b.map bv)):=HR.out.upd H2.out (fun h0 g hg e=>HS.out h0 g hg (.inl e))
     have HFB:=Lib.hid hfa.blk
     have HPO:=Lib.hid (H1.out.pY hfm hfm)
     clear hfa
     dsimp only at HFB HPO
     go_wp2_with (
       at_builtin;refine jM rfl _ _ _ rfl 5 1 1 _ Tryz.underlying23 Y2 rfl (by decide) fb.length (fb.map bv) fob (HOW.out.drewN _) b.length (b.map bv) (HRD.out.drewN _) H1c.out (by unfold maxLen;omega) (by omega) ?_
       intro v' w2 ob' h2 h3 h4
       have hb2:Blk w2 fp #[.string fname,fv, .int .i64 fsy] 127:=(HFB.out.drewN _).upd h3 HPO.out
       have ff:=hb2.frozen 1
       have cf2:w2.cell? ⟨fp,1,none⟩=some fv:=hb2.cell 1
       obtain ⟨a',c',rfl⟩:=h2.shape
       have HB2:=Lib.hid hb2;have H2':=Lib.hid h2;have H3:=Lib.hid h3;have H4:=Lib.hid h4;clear hb2 h2 h3 h4)
     go_ret
     have hob:ob'≠some fp:=by
      rcases H4.out with h|h
      ·rw [h];exact HPO.out
      ·intro e;have h5:=h fp e;have h6:=HFB.out.lt;simp at h5;omega
     have hpost:∀{r:Value} {e:Ending},e= .returned r->dN w' d (DS d ga fs) r {m.count with fs:=dE MF.name m.count.fs s.data.toList fun f=>{f with b:=f.b++b}} e (w2.setCell ⟨fp,1,none⟩ (.slice a' (fb.length+b.length) c')):=fun he=>zf (w2:=w2.setCell ⟨fp,1,none⟩ (.slice a' (fb.length+b.length) c')) H1.out (dR H2.out) HG.out (fun x=>{x with v:= .slice a' (fb.length+b.length) c',b:=x.b++b,ob:=ob'}) _ (fun _=>rfl) (fun _=>rfl) (T:=fun k=>k=fp\/fob=some k)
      ((((Upd.refl _ _).drewN _).trans H3.out (fun k hk=> .inl (.inr hk))).setCell (p:=⟨fp,1,none⟩) (.inl (.inl rfl)) _) (fun k hk=>hk)
      ⟨HB2.out.set 1 _,by
       have:=H2'.out.setOther (a:=⟨fp,1,none⟩) hob (.slice a' (fb.length+b.length) c')
       show Own _ _ _ (.slice a' (fb.length+b.length) c') (fb++b).length ((fb++b).map bv) ob'
       rw [List.map_append,List.length_append]
       exact this⟩ (by
       rcases H4.out with h|h
       ·exact .inl h
       ·exact .inr fun c hc=>by have:=h c hc;simpa using this) rfl HOK.out he
     refine dN.res ?_ (hpost rfl)
     rw [<-abR.out,HD.out];rfl
end Go.Proofs.YtbnkdnlfdofepaaGreat
namespace Go.Proofs.YtbnkdnlfdofepaaGreat
open Go.RowKit
set_option maxRecDepth 100000
def Qm (w:World) (e:TypeId) (size n:Nat) (xs:List Value) (en:Ending) (w':World):Prop:=
 ∃v' ob',en= .returned v'/\Own w' e size v' n xs ob'/\Below w.heap.size w w'/\∀g,ob'=some g->w.heap.size<=g
theorem VO:(Tryz.prog.info? 5).map (fun i=>(i.zero,i.size,i.bytes))=some (some (.int .u8 0),1,1):=by kernel_rfl
set_option maxHeartbeats 400000 in
theorem clone_any {w:World} {vb:Value} {n:Nat} {xs:List Value} (h:Rd w 1 vb n xs) (h1:∀u∈xs,u.oneCell'=true) (hn:n<=70368744177664):
  Calls Tryz.prog 112 #[vb] w (Qm w 5 1 n xs):=by
 obtain ⟨hl,hbm,ba,bc,rfl,hbl,Ql,hnone,_⟩:=id h
 unfold maxLen at hbm Ql
 have H:=Lib.hid h
 have H1:=Lib.hid h1
 cases ba with
 |none=>
  obtain ⟨rfl,rfl⟩:=hnone rfl
  have hx:xs=[]:=List.eq_nil_of_length_eq_zero (by simpa using hl)
  subst hx
  clear hl h h1 hnone
  have hq:=fun w=>Lib.run_eql_slice_nil (P:=Tryz.prog) w 23 5 none 0 0 0 0 Tryz.underlying23
  go_enter Tryz.func112,Tryz.ntmps112
  go_wp2
  go_ret
  exact ⟨_,_,rfl,Own.nil _ _ _,Below.refl _ _,fun g hg=>by cases hg⟩
 |some a=>
  clear hl h h1 hnone
  have hq:=fun w=>Lib.run_eql_slice_nil (P:=Tryz.prog) w 23 5 (some a) n bc 0 0 Tryz.underlying23
  have hnil:Hid (Own (w.alloc (.cells #[] 5)) 5 1 (.slice (some ⟨w.heap.size,0,none⟩) 0 0) 0 [] (some w.heap.size)):=⟨rfl, .inr ⟨w.heap.size,0, #[],rfl,rfl,Blk.new _ _ _,Nat.le_refl _,by unfold maxLen;omega,by simp,rfl⟩⟩
  go_enter Tryz.func112,Tryz.ntmps112
  go_wp2_with (at_builtin;refine jM rfl _ _ _ rfl 5 1 1 _ Tryz.underlying23 VO rfl (by decide) 0 [] _ hnil.out n xs (H.out.alloc _) H1.out (by unfold maxLen;omega) (by omega) ?_;intro v' w2 ob' h2 h3 h4;have H2:=Lib.hid h2;have H3:=Lib.hid h3;have H4:=Lib.hid h4;clear h2 h3 h4)
  go_ret
  refine ⟨_,ob',rfl,by simpa using H2.out, ?_,fun g hg=> ?_⟩
  ·exact Upd.toBelow ((((Upd.refl dG w).alloc _).trans H3.out (fun k hk=> .inr (by cases hk;exact Nat.le_refl _))))
  ·rcases H4.out with h|h
   ·rw [h] at hg;cases hg;exact Nat.le_refl _
   ·have:=h g hg;simp at this;omega
end Go.Proofs.YtbnkdnlfdofepaaGreat
namespace Go.Proofs.YtbnkdnlfdofepaaGreat
open Go.RowKit
set_option maxRecDepth 100000
set_option maxHeartbeats 400000 in
theorem VP (n:Int) (w:World) (h:n < 0\/16777216 < n):Calls Tryz.prog 70 #[.int .i64 n] w fun e w'=>e= .returned (.tuple #[.pointer none, .int .i64 1])/\w'=w:=by
 rcases h with h|h
 ·go_enter Tryz.func70,Tryz.ntmps70
  go_wp2
  go_ret2
  exact ⟨rfl,rfl⟩
 ·have h0:0<=n:=by omega
  go_enter Tryz.func70,Tryz.ntmps70
  go_wp2
  go_ret2
  exact ⟨rfl,rfl⟩
def VQ (w:World) (n:Int) (e:Ending) (w':World):Prop:=
 ∃d S,e= .returned (.tuple #[.pointer (some ⟨d,0,none⟩), .int .i64 0])/\bQ w' d (MD.new n) S/\Below w.heap.size w w'/\∀b,S b->w.heap.size<=b
set_option maxHeartbeats 400000 in
theorem Y4 (n:Int) (w:World) (h0:0<=n) (h1:n<=16777216):Calls Tryz.prog 70 #[.int .i64 n] w (VQ w n):=by
 have hl:Lay (w.alloc (.cells #[.int .i64 n, .slice none 0 0, .int .i64 0, .bool false] 124)) w.heap.size (MD.new n) (.slice none 0 0) none []:=
  ⟨Blk.new _ _ _,Own.nil _ _ _,by simp,rfl,by simp,by simp,MD.Ok.new h0 h1⟩
 have HL:=Lib.hid hl
 clear hl
 go_enter Tryz.func70,Tryz.ntmps70
 go_wp2
 go_ret2
 refine ⟨_,_,rfl,⟨_,_,_,HL.out,rfl⟩,(Below.refl _ _).alloc (Nat.le_refl _) _, ?_⟩
 rintro b (rfl|h|⟨f,hf,_⟩)
 ·exact Nat.le_refl _
 ·cases h
 ·cases hf
def Gu (w:World) (o:Option MF) (e:Ending) (w':World):Prop:=
 match o with
 |none=>e= .returned (.tuple #[.slice none 0 0, .bool false])/\w'=w
 |some f=>∃v ob,e= .returned (.tuple #[v, .bool true])/\Own w' 5 1 v f.b.length (f.b.map bv) ob/\Below w.heap.size w w'/\∀g,ob=some g->w.heap.size<=g
theorem Qn {m:MD} (h:m.Ok) {f:MF} (hf:f∈m.fs):f.b.length<=16777216:=by
 have h1:=MD.fM h.rising (h.rising.get_of_mem hf)
 have h2:=h.room
 have h3:=h.VJ
 rw [MD.iO] at h2
 omega
set_option maxHeartbeats 400000 in
theorem Qo {w:World} {d:Nat} {m:MD} {S:Nat->Prop} (h:bQ w d m S) (hn:m.fs.length<=1099511627775) (s:ByteArray):
  Calls Tryz.prog 116 #[.pointer (some ⟨d,0,none⟩), .string s] w (Gu w (m.get s.data.toList)):=by
 obtain ⟨v,ga,fs,hl,rfl⟩:=h
 have hfl:fs.length<=1099511627776:=by
   have:fs.length=m.fs.length:=by rw [hl.abs,List.length_map]
   omega
 cases hg:aO FM.key fs s.data.toList with
 |none=>
  rw [nP hl hg]
  have FC:=Lib.hid (lg hl s hfl hg)
  clear hl hg
  go_enter Tryz.func116,Tryz.ntmps116
  go_wp2_with (go_at_call 95;refine FC.out.mono ?_;rintro e w' ⟨rfl,rfl⟩)
  go_ret2
  exact ⟨rfl,rfl⟩
 |some f=>
  rw [lS hl hg]
  have FC:=Lib.hid (kZ hl s hfl hg)
  have hfm:=(get_mem hg).1
  have hfa:=hl.files f hfm
  have hlen:f.b.length<=16777216:=Qn hl.ok (f:=f.abs) (by rw [hl.abs];exact List.mem_map_of_mem hfm)
  have c1:w.cell? ⟨f.p,1,none⟩=some f.v:=hfa.blk.cell 1
  obtain ⟨fa,fc,hv,_,_⟩:=hfa.slice
  have CC:=clone_any hfa.own.rd (uF _) (by omega)
  rw [hv] at c1 CC
  have CCH:=Lib.hid CC
  have e:f.abs.b=f.b:=rfl
  clear hl hg hfa CC hv
  go_enter Tryz.func116,Tryz.ntmps116
  go_wp2_with (first
   |(go_at_call 95;refine FC.out.mono ?_;rintro e w' ⟨rfl,rfl⟩)
   |(go_at_call 112;refine CCH.out.mono ?_;rintro e w1 ⟨v',ob',rfl,h1,h2,h3⟩;have H1:=Lib.hid h1;have H2:=Lib.hid h2;have H3:=Lib.hid h3;clear h1 h2 h3))
  go_ret2
  exact ⟨_,ob',rfl,H1.out,H2.out,H3.out⟩
end Go.Proofs.YtbnkdnlfdofepaaGreat
namespace Go.Proofs.YtbnkdnlfdofepaaGreat
open Go.RowKit
set_option maxRecDepth 100000
theorem VS:(Tryz.prog.info? 9).map (fun i=>(i.zero,i.size,i.bytes))=some (some (.string default),1,16):=by kernel_rfl
def VT (l:Bs):Value:= .string (bsv l)
def Qp (w:World) (fs:List FM) (k:Nat) (vo:Value) (wr:World):Prop:=
 ∃ob,Own wr 9 1 vo k ((fs.take k).map fun f=> .string f.name) ob/\Below w.heap.size w wr/\∀g,ob=some g->w.heap.size<=g
set_option maxHeartbeats 1000000 in
theorem NL {w:World} {d:Nat} {m:MD} {S:Nat->Prop} (h:bQ w d m S) (hn:m.fs.length<=1099511627775):
  Calls Tryz.prog 49 #[.pointer (some ⟨d,0,none⟩)] w (Qm w 9 1 m.fs.length (m.fs.map fun f=>VT f.name)):=by
 obtain ⟨v,ga,fs,hl,rfl⟩:=h
 have hlen:m.fs.length=fs.length:=by rw [hl.abs,List.length_map]
 have hmap:(m.fs.map fun f=>VT f.name)=fs.map fun f=> .string f.name:=by rw [hl.abs,List.map_map];rfl
 rw [hlen,hmap]
 have hfl:fs.length<=1099511627776:=by omega
 have hc1:w.cell? ⟨d,1,none⟩=some v:=hl.disk.cell 1
 have H:=Lib.hid hl
 clear hlen hmap hn
 rcases hl.arr.2 with ⟨rfl,h0,_⟩|⟨g,cap,cur,rfl,_,_,hcap,hcm,_⟩
 ·have e:fs=[]:=List.eq_nil_of_length_eq_zero h0
  subst e
  clear hl
  go_enter Tryz.func49,Tryz.ntmps49
  go_wp2
  refine wp_loop_rounds 1 ?_
  rw [rounds_succ]
  go_wp2_with fail
  go_ret
  exact ⟨_,_,rfl,Own.nil _ _ _,Below.refl _ _,fun g hg=>by cases hg⟩
 ·clear hl
  go_enter Tryz.func49,Tryz.ntmps49
  go_wp2
  go_loopw [3,11] (fun vo vi wr=>∃k:Nat,k<=fs.length/\vi= .int .i64 k/\Qp w fs k vo wr) (fun _ vi _=>fs.length - (intOf vi).toNat)
  case atStart=>exact ⟨0,Nat.zero_le _,rfl,none,Own.nil _ _ _,Below.refl _ _,fun g hg=>by cases hg⟩
  case round=>
   obtain ⟨k,hk,rfl,ob,h1,h2,h3⟩:=hrel
   have H1:=Lib.hid h1
   have H2:=Lib.hid h2
   have H3:=Lib.hid h3
   clear h1 h2 h3
   by_cases hlt:k < fs.length
   ·have hl:=H.out.upd (S:=dG) (Upd.of_below H2.out) (fun _ _ h=>h)
    have c1:wr.cell? ⟨g,k,none⟩=some (.pointer (some ⟨(fs[k]).p,0,none⟩)):=hl.arr.cellAt (by rw [List.getElem?_map,List.getElem?_eq_getElem hlt];rfl)
    have c2:wr.cell? ⟨(fs[k]).p,0,none⟩=some (.string (fs[k]).name):=(hl.files _ (List.getElem_mem hlt)).blk.cell 0
    have hs:(fs.take (k+1)).map (fun f=>Value.string f.name)=(fs.take k).map (fun f=>Value.string f.name)++[.string (fs[k]).name]:=by
     rw [List.take_succ_eq_append_getElem hlt,List.map_append];rfl
    have HS:=Lib.hid hs
    generalize (fs[k]).name=nm at*
    generalize (fs[k]).p=pp at*
    clear hl hs
    obtain ⟨va,vc,rfl⟩:=H1.out.shape
    go_wp2_with (
      at_builtin;refine jM rfl _ _ _ rfl 9 1 16 _ Tryz.underlying42 VS rfl (by decide) k _ ob (H1.out.alloc _) 1 [.string nm] (Yo (Blk.new _ _ _)) (by simp [Value.oneCell']) (by unfold maxLen;omega) (by omega) ?_
      intro v' w2 ob' h2 h3 h4;have A2:=Lib.hid h2;have A3:=Lib.hid h3;have A4:=Lib.hid h4;clear h2 h3 h4)
    go_roundw
    case rel=>
     refine ⟨k+1,by omega,by go_num,ob', ?_, ?_, ?_⟩
     ·rw [HS.out];exact A2.out
     ·have hu:Upd (fun b=>ob=some b) wr w2:=(((Upd.refl _ wr).alloc _).trans A3.out (fun b hb=> .inl hb))
      exact Upd.toBelow ((Upd.of_below (S:=dG) H2.out).trans hu (fun b hb=> .inr (H3.out b hb)))
     ·exact PE A4.out H3.out (Nat.le_trans H2.out.size (by simp))
    case measure=>simp [intOf];omega
   ·obtain rfl:k=fs.length:=by omega
    go_wp2
    go_ret
    have:=H1.out
    rw [List.take_length] at this
    exact ⟨_,ob,rfl,this,H2.out,H3.out⟩
end Go.Proofs.YtbnkdnlfdofepaaGreat
namespace Go.Proofs.YtbnkdnlfdofepaaGreat
open Go.RowKit
set_option maxRecDepth 100000
end Go.Proofs.YtbnkdnlfdofepaaGreat
namespace Go.Proofs.YtbnkdnlfdofepaaGreat
open Go.RowKit
set_option maxRecDepth 100000
structure At (w0 w:World) (d:Nat) (m:MD) (S:Nat->Prop):Prop where
 rep:bQ w d m S
 since:∀b,S b->w0.heap.size<=b
 below:Below w0.heap.size w0 w
namespace At
variable {w0 w:World} {d:Nat} {m:MD} {S:Nat->Prop}
theorem mem (h:At w0 w d m S) {w':World} (hb:Below w.heap.size w w'):At w0 w' d m S:=
 ⟨h.rep.below hb,h.since,h.below.trans (hb.mono h.below.size)⟩
theorem upd (h:At w0 w d m S) {T:Nat->Prop} {w':World} (hu:Upd T w w') (h1:∀b,S b->¬T b) (h2:∀b,T b->w0.heap.size<=b):At w0 w' d m S:=
 ⟨h.rep.upd hu h1,h.since,Upd.toBelow ((Upd.of_below (S:=dG) h.below).trans hu (fun b hb=> .inr (h2 b hb)))⟩
theorem ok (h:At w0 w d m S):m.Ok:=h.rep.ok
theorem lt (h:At w0 w d m S) {b:Nat} (hb:S b):b < w.heap.size:=h.rep.lt hb
end At
/-! ### small functions of the statements' packages -/
end Go.Proofs.YtbnkdnlfdofepaaGreat
