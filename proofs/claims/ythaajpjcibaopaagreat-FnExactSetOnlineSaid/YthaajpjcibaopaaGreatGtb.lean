/- Of this proof. -/
import Derived.Test.YthaajpjcibaopaaGreatGtbs
namespace Gi
open Go Go.RowKit
set_option linter.unusedVariables false
set_option linter.unusedSimpArgs false
set_option maxRecDepth 4000
section
variable {ext : Nat → List V → Option V}
theorem strs {rows : List (List PV)} (h : Has (.lst t_StringS) (.lst rows)) : ∀ r ∈ rows, ∃ s : List UInt8, r = [.str s] ∧ s.length ≤ maxLen := by
 obtain ⟨_, hr⟩ := Has_rows h
 intro r m
 obtain ⟨p0, r1, rfl, g0, k1⟩ := HasL_cons (hr r m)
 obtain rfl := HasL_nil k1
 obtain ⟨c0, rfl⟩ := Has_str g0
 exact ⟨c0, rfl, g0⟩
theorem toField_to : ToOK Ph ext 89 t_Field := genTo_ok (ss := d_Field) rfl (ofAll ⟨rfl, rfl, trivial⟩)
theorem szField_to : SzOK Ph ext 87 t_Field := genSz_ok (ss := d_Field) rfl (ofAll ⟨rfl, rfl, trivial⟩)
theorem eqField_to : EqOK Ph ext 91 t_Field := genEq_ok (ss := d_Field) rfl (ofAll ⟨rfl, rfl, trivial⟩)
theorem toFieldS_to : ToSOK Ph ext 66 t_FieldS := toS_gen rfl rfl rfl rfl (by decide) (by decide) toField_to (fun _ => rfl)
theorem szFieldS_to : SzSOK Ph ext 64 t_FieldS := szS_gen rfl rfl szField_to
theorem eqFieldS_to : EqSOK Ph ext 69 t_FieldS := eqS_gen rfl rfl eqField_to
theorem toKey_to : ToOK Ph ext 34 t_Key := genTo_ok (ss := d_Key) rfl (ofAll ⟨rfl, rfl, rfl, trivial⟩)
theorem szKey_to : SzOK Ph ext 30 t_Key := genSz_ok (ss := d_Key) rfl (ofAll ⟨rfl, rfl, rfl, trivial⟩)
theorem eqKey_to : EqOK Ph ext 38 t_Key := genEq_ok (ss := d_Key) rfl (ofAll ⟨rfl, rfl, rfl, trivial⟩)
theorem toRecord_to : ToOK Ph ext 35 t_Record := genTo_ok (ss := d_Record) rfl (ofAll ⟨⟨toFieldS_to, rfl⟩, trivial⟩)
theorem szRecord_to : SzOK Ph ext 31 t_Record := genSz_ok (ss := d_Record) rfl (ofAll ⟨szFieldS_to, trivial⟩)
theorem eqRecord_to : EqOK Ph ext 39 t_Record := genEq_ok (ss := d_Record) rfl (ofAll ⟨eqFieldS_to, trivial⟩)
theorem toItem_to : ToOK Ph ext 7 t_Item := genTo_ok (ss := d_Item) rfl (ofAll ⟨⟨toKey_to, fun _ => rfl⟩, ⟨toRecord_to, nofun⟩, trivial⟩)
theorem szItem_to : SzOK Ph ext 5 t_Item := genSz_ok (ss := d_Item) rfl (ofAll ⟨szKey_to, szRecord_to, trivial⟩)
theorem eqItem_to : EqOK Ph ext 9 t_Item := genEq_ok (ss := d_Item) rfl (ofAll ⟨eqKey_to, eqRecord_to, trivial⟩)
theorem toLoaded_to : ToOK Ph ext 73 t_Loaded := genTo_ok (ss := d_Loaded) rfl (ofAll ⟨rfl, rfl, trivial⟩)
theorem szLoaded_to : SzOK Ph ext 70 t_Loaded := genSz_ok (ss := d_Loaded) rfl (ofAll ⟨rfl, rfl, trivial⟩)
theorem eqLoaded_to : EqOK Ph ext 76 t_Loaded := genEq_ok (ss := d_Loaded) rfl (ofAll ⟨rfl, rfl, trivial⟩)
theorem toLoadedS_to : ToSOK Ph ext 42 t_LoadedS := toS_gen rfl rfl rfl rfl (by decide) (by decide) toLoaded_to (fun _ => rfl)
theorem szLoadedS_to : SzSOK Ph ext 40 t_LoadedS := szS_gen rfl rfl szLoaded_to
theorem eqLoadedS_to : EqSOK Ph ext 44 t_LoadedS := eqS_gen rfl rfl eqLoaded_to
theorem toInstr_to : ToOK Ph ext 93 t_Instr := genTo_ok (ss := d_Instr) rfl (ofAll ⟨rfl, rfl, rfl, rfl, trivial⟩)
theorem szInstr_to : SzOK Ph ext 92 t_Instr := genSz_ok (ss := d_Instr) rfl (ofAll ⟨rfl, rfl, rfl, rfl, trivial⟩)
theorem eqInstr_to : EqOK Ph ext 94 t_Instr := genEq_ok (ss := d_Instr) rfl (ofAll ⟨rfl, rfl, rfl, rfl, trivial⟩)
theorem toInstrS_to : ToSOK Ph ext 74 t_InstrS := toS_gen rfl rfl rfl rfl (by decide) (by decide) toInstr_to (fun _ => rfl)
theorem szInstrS_to : SzSOK Ph ext 71 t_InstrS := szS_gen rfl rfl szInstr_to
theorem eqInstrS_to : EqSOK Ph ext 77 t_InstrS := eqS_gen rfl rfl eqInstr_to
theorem toIntS_to : ToSOK Ph ext 75 t_IntS := toF_gen rfl rfl rfl (by decide)
theorem szIntS_to : SzSOK Ph ext 72 t_IntS := szF_gen rfl rfl
theorem eqIntS_to : EqSOK Ph ext 78 t_IntS := eqF_gen rfl rfl
theorem toMachine_to : ToOK Ph ext 43 t_Machine := genTo_ok (ss := d_Machine) rfl (ofAll ⟨⟨toInstrS_to, rfl⟩, rfl, ⟨toIntS_to, rfl⟩, rfl, rfl, rfl, trivial⟩)
theorem szMachine_to : SzOK Ph ext 41 t_Machine := genSz_ok (ss := d_Machine) rfl (ofAll ⟨szInstrS_to, rfl, szIntS_to, rfl, rfl, rfl, trivial⟩)
theorem eqMachine_to : EqOK Ph ext 45 t_Machine := genEq_ok (ss := d_Machine) rfl (ofAll ⟨eqInstrS_to, rfl, eqIntS_to, rfl, rfl, rfl, trivial⟩)
theorem toPage_to : ToOK Ph ext 12 t_Page := genTo_ok (ss := d_Page) rfl (ofAll ⟨rfl, rfl, rfl, rfl, ⟨toLoadedS_to, rfl⟩, ⟨toMachine_to, nofun⟩, trivial⟩)
theorem szPage_to : SzOK Ph ext 10 t_Page := genSz_ok (ss := d_Page) rfl (ofAll ⟨rfl, rfl, rfl, rfl, szLoadedS_to, szMachine_to, trivial⟩)
theorem eqPage_to : EqOK Ph ext 14 t_Page := genEq_ok (ss := d_Page) rfl (ofAll ⟨rfl, rfl, rfl, rfl, eqLoadedS_to, eqMachine_to, trivial⟩)
theorem toItemS_to : ToSOK Ph ext 53 t_ItemS := toS_gen rfl rfl rfl rfl (by decide) (by decide) toItem_to nofun
theorem szItemS_to : SzSOK Ph ext 52 t_ItemS := szS_gen rfl rfl szItem_to
theorem eqItemS_to : EqSOK Ph ext 55 t_ItemS := eqS_gen rfl rfl eqItem_to
theorem toApplied_to : ToOK Ph ext 80 t_Applied := genTo_ok (ss := d_Applied) rfl (ofAll ⟨rfl, rfl, trivial⟩)
theorem eqApplied_to : EqOK Ph ext 82 t_Applied := genEq_ok (ss := d_Applied) rfl (ofAll ⟨rfl, rfl, trivial⟩)
theorem toAppliedS_to : ToSOK Ph ext 48 t_AppliedS := toS_gen rfl rfl rfl rfl (by decide) (by decide) toApplied_to (fun _ => rfl)
theorem szAppliedS_to : SzSOK Ph ext 46 t_AppliedS := szF_gen rfl rfl
theorem eqAppliedS_to : EqSOK Ph ext 50 t_AppliedS := eqS_gen rfl rfl eqApplied_to
theorem toWrite_to : ToOK Ph ext 81 t_Write := genTo_ok (ss := d_Write) rfl (ofAll ⟨rfl, rfl, ⟨toKey_to, fun _ => rfl⟩, rfl, rfl, trivial⟩)
theorem szWrite_to : SzOK Ph ext 79 t_Write := genSz_ok (ss := d_Write) rfl (ofAll ⟨rfl, rfl, szKey_to, rfl, rfl, trivial⟩)
theorem eqWrite_to : EqOK Ph ext 83 t_Write := genEq_ok (ss := d_Write) rfl (ofAll ⟨rfl, rfl, eqKey_to, rfl, rfl, trivial⟩)
theorem toWriteS_to : ToSOK Ph ext 49 t_WriteS := toS_gen rfl rfl rfl rfl (by decide) (by decide) toWrite_to (fun _ => rfl)
theorem szWriteS_to : SzSOK Ph ext 47 t_WriteS := szS_gen rfl rfl szWrite_to
theorem eqWriteS_to : EqSOK Ph ext 51 t_WriteS := eqS_gen rfl rfl eqWrite_to
theorem toStore_to : ToOK Ph ext 22 t_Store := genTo_ok (ss := d_Store) rfl (ofAll ⟨rfl, ⟨toItemS_to, rfl⟩, rfl, trivial⟩)
theorem szStore_to : SzOK Ph ext 20 t_Store := genSz_ok (ss := d_Store) rfl (ofAll ⟨rfl, szItemS_to, rfl, trivial⟩)
theorem eqStore_to : EqOK Ph ext 24 t_Store := genEq_ok (ss := d_Store) rfl (ofAll ⟨rfl, eqItemS_to, rfl, trivial⟩)
theorem toServer_to : ToOK Ph ext 17 t_Server := genTo_ok (ss := d_Server) rfl (ofAll ⟨⟨toStore_to, nofun⟩, ⟨toAppliedS_to, rfl⟩, ⟨toWriteS_to, rfl⟩, trivial⟩)
theorem szServer_to : SzOK Ph ext 15 t_Server := genSz_ok (ss := d_Server) rfl (ofAll ⟨szStore_to, szAppliedS_to, szWriteS_to, trivial⟩)
theorem eqServer_to : EqOK Ph ext 19 t_Server := genEq_ok (ss := d_Server) rfl (ofAll ⟨eqStore_to, eqAppliedS_to, eqWriteS_to, trivial⟩)
theorem toStoreS_to : ToSOK Ph ext 60 t_StoreS := toS_gen rfl rfl rfl rfl (by decide) (by decide) toStore_to nofun
theorem szStoreS_to : SzSOK Ph ext 57 t_StoreS := szS_gen rfl rfl szStore_to
theorem eqStoreS_to : EqSOK Ph ext 63 t_StoreS := eqS_gen rfl rfl eqStore_to
theorem toByteS_to : ToSOK Ph ext 255 t_ByteS := toF_gen rfl rfl rfl (by decide)
theorem szByteS_to : SzSOK Ph ext 251 t_ByteS := szF_gen rfl rfl
theorem eqByteS_to : EqSOK Ph ext 259 t_ByteS := eqF_gen rfl rfl
theorem toResponse_to : ToOK Ph ext 281 t_Response := genTo_ok (ss := d_Response) rfl (ofAll ⟨rfl, rfl, rfl, ⟨toByteS_to, rfl⟩, rfl, trivial⟩)
theorem szResponse_to : SzOK Ph ext 280 t_Response := genSz_ok (ss := d_Response) rfl (ofAll ⟨rfl, rfl, rfl, szByteS_to, rfl, trivial⟩)
theorem eqResponse_to : EqOK Ph ext 282 t_Response := genEq_ok (ss := d_Response) rfl (ofAll ⟨rfl, rfl, rfl, eqByteS_to, rfl, trivial⟩)
theorem toCached_to : ToOK Ph ext 278 t_Cached := genTo_ok (ss := d_Cached) rfl (ofAll ⟨rfl, rfl, ⟨toResponse_to, nofun⟩, trivial⟩)
theorem szCached_to : SzOK Ph ext 277 t_Cached := genSz_ok (ss := d_Cached) rfl (ofAll ⟨rfl, rfl, szResponse_to, trivial⟩)
theorem eqCached_to : EqOK Ph ext 279 t_Cached := genEq_ok (ss := d_Cached) rfl (ofAll ⟨rfl, rfl, eqResponse_to, trivial⟩)
theorem toCachedS_to : ToSOK Ph ext 273 t_CachedS := toS_gen rfl rfl rfl rfl (by decide) (by decide) toCached_to nofun
theorem szCachedS_to : SzSOK Ph ext 271 t_CachedS := szS_gen rfl rfl szCached_to
theorem eqCachedS_to : EqSOK Ph ext 275 t_CachedS := eqS_gen rfl rfl eqCached_to
theorem toCache_to : ToOK Ph ext 265 t_Cache := genTo_ok (ss := d_Cache) rfl (ofAll ⟨rfl, ⟨toCachedS_to, rfl⟩, trivial⟩)
theorem szCache_to : SzOK Ph ext 262 t_Cache := genSz_ok (ss := d_Cache) rfl (ofAll ⟨rfl, szCachedS_to, trivial⟩)
theorem eqCache_to : EqOK Ph ext 268 t_Cache := genEq_ok (ss := d_Cache) rfl (ofAll ⟨rfl, eqCachedS_to, trivial⟩)
theorem toCacheS_to : ToSOK Ph ext 253 t_CacheS := toS_gen rfl rfl rfl rfl (by decide) (by decide) toCache_to nofun
theorem szCacheS_to : SzSOK Ph ext 249 t_CacheS := szS_gen rfl rfl szCache_to
theorem eqCacheS_to : EqSOK Ph ext 257 t_CacheS := eqS_gen rfl rfl eqCache_to
theorem toIndexDef_to : ToOK Ph ext 274 t_IndexDef := genTo_ok (ss := d_IndexDef) rfl (ofAll ⟨rfl, rfl, trivial⟩)
theorem szIndexDef_to : SzOK Ph ext 272 t_IndexDef := genSz_ok (ss := d_IndexDef) rfl (ofAll ⟨rfl, rfl, trivial⟩)
theorem eqIndexDef_to : EqOK Ph ext 276 t_IndexDef := genEq_ok (ss := d_IndexDef) rfl (ofAll ⟨rfl, rfl, trivial⟩)
theorem toIndexDefS_to : ToSOK Ph ext 266 t_IndexDefS := toS_gen rfl rfl rfl rfl (by decide) (by decide) toIndexDef_to (fun _ => rfl)
theorem szIndexDefS_to : SzSOK Ph ext 263 t_IndexDefS := szS_gen rfl rfl szIndexDef_to
theorem eqIndexDefS_to : EqSOK Ph ext 269 t_IndexDefS := eqS_gen rfl rfl eqIndexDef_to
theorem toRegistration_to : ToOK Ph ext 231 t_Registration := genTo_ok (ss := d_Registration) rfl (ofAll ⟨rfl, rfl, rfl, rfl, trivial⟩)
theorem szRegistration_to : SzOK Ph ext 227 t_Registration := genSz_ok (ss := d_Registration) rfl (ofAll ⟨rfl, rfl, rfl, rfl, trivial⟩)
theorem eqRegistration_to : EqOK Ph ext 235 t_Registration := genEq_ok (ss := d_Registration) rfl (ofAll ⟨rfl, rfl, rfl, rfl, trivial⟩)
theorem toCacheSet_to : ToOK Ph ext 232 t_CacheSet := genTo_ok (ss := d_CacheSet) rfl (ofAll ⟨⟨toCacheS_to, rfl⟩, trivial⟩)
theorem szCacheSet_to : SzOK Ph ext 228 t_CacheSet := genSz_ok (ss := d_CacheSet) rfl (ofAll ⟨szCacheS_to, trivial⟩)
theorem eqCacheSet_to : EqOK Ph ext 236 t_CacheSet := genEq_ok (ss := d_CacheSet) rfl (ofAll ⟨eqCacheS_to, trivial⟩)
theorem toDatabase_to : ToOK Ph ext 254 t_Database := genTo_ok (ss := d_Database) rfl (ofAll ⟨rfl, rfl, ⟨toStoreS_to, rfl⟩, ⟨toIndexDefS_to, rfl⟩, trivial⟩)
theorem szDatabase_to : SzOK Ph ext 250 t_Database := genSz_ok (ss := d_Database) rfl (ofAll ⟨rfl, rfl, szStoreS_to, szIndexDefS_to, trivial⟩)
theorem eqDatabase_to : EqOK Ph ext 258 t_Database := genEq_ok (ss := d_Database) rfl (ofAll ⟨rfl, rfl, eqStoreS_to, eqIndexDefS_to, trivial⟩)
theorem toDisk_to : ToOK Ph ext 233 t_Disk := genTo_ok (ss := d_Disk) rfl (ofAll ⟨⟨toDatabase_to, nofun⟩, ⟨toByteS_to, rfl⟩, rfl, trivial⟩)
theorem szDisk_to : SzOK Ph ext 229 t_Disk := genSz_ok (ss := d_Disk) rfl (ofAll ⟨szDatabase_to, szByteS_to, rfl, trivial⟩)
theorem eqDisk_to : EqOK Ph ext 237 t_Disk := genEq_ok (ss := d_Disk) rfl (ofAll ⟨eqDatabase_to, eqByteS_to, rfl, trivial⟩)
theorem toOutbox_to : ToOK Ph ext 267 t_Outbox := genTo_ok (ss := d_Outbox) rfl (ofAll ⟨rfl, rfl, ⟨toWriteS_to, rfl⟩, trivial⟩)
theorem szOutbox_to : SzOK Ph ext 264 t_Outbox := genSz_ok (ss := d_Outbox) rfl (ofAll ⟨rfl, rfl, szWriteS_to, trivial⟩)
theorem eqOutbox_to : EqOK Ph ext 270 t_Outbox := genEq_ok (ss := d_Outbox) rfl (ofAll ⟨rfl, rfl, eqWriteS_to, trivial⟩)
theorem toSync_to : ToOK Ph ext 256 t_Sync := genTo_ok (ss := d_Sync) rfl (ofAll ⟨⟨toOutbox_to, nofun⟩, rfl, rfl, trivial⟩)
theorem szSync_to : SzOK Ph ext 252 t_Sync := genSz_ok (ss := d_Sync) rfl (ofAll ⟨szOutbox_to, rfl, rfl, trivial⟩)
theorem eqSync_to : EqOK Ph ext 260 t_Sync := genEq_ok (ss := d_Sync) rfl (ofAll ⟨eqOutbox_to, rfl, rfl, trivial⟩)
theorem toReplica_to : ToOK Ph ext 234 t_Replica := genTo_ok (ss := d_Replica) rfl (ofAll ⟨⟨toStore_to, nofun⟩, rfl, ⟨toSync_to, nofun⟩, trivial⟩)
theorem szReplica_to : SzOK Ph ext 230 t_Replica := genSz_ok (ss := d_Replica) rfl (ofAll ⟨szStore_to, rfl, szSync_to, trivial⟩)
theorem eqReplica_to : EqOK Ph ext 238 t_Replica := genEq_ok (ss := d_Replica) rfl (ofAll ⟨eqStore_to, rfl, eqSync_to, trivial⟩)
theorem toBucket_to : ToOK Ph ext 201 t_Bucket := genTo_ok (ss := d_Bucket) rfl (ofAll ⟨rfl, rfl, ⟨toRegistration_to, fun _ => rfl⟩, ⟨toCacheSet_to, nofun⟩, ⟨toDisk_to, nofun⟩, ⟨toReplica_to, nofun⟩, rfl, rfl, trivial⟩)
theorem szBucket_to : SzOK Ph ext 198 t_Bucket := genSz_ok (ss := d_Bucket) rfl (ofAll ⟨rfl, rfl, szRegistration_to, szCacheSet_to, szDisk_to, szReplica_to, rfl, rfl, trivial⟩)
theorem eqBucket_to : EqOK Ph ext 205 t_Bucket := genEq_ok (ss := d_Bucket) rfl (ofAll ⟨rfl, rfl, eqRegistration_to, eqCacheSet_to, eqDisk_to, eqReplica_to, rfl, rfl, trivial⟩)
theorem toBucketS_to : ToSOK Ph ext 167 t_BucketS := toS_gen rfl rfl rfl rfl (by decide) (by decide) toBucket_to nofun
theorem szBucketS_to : SzSOK Ph ext 163 t_BucketS := szS_gen rfl rfl szBucket_to
theorem eqBucketS_to : EqSOK Ph ext 171 t_BucketS := eqS_gen rfl rfl eqBucket_to
theorem toPageS_to : ToSOK Ph ext 134 t_PageS := toS_gen rfl rfl rfl rfl (by decide) (by decide) toPage_to nofun
theorem szPageS_to : SzSOK Ph ext 128 t_PageS := szS_gen rfl rfl szPage_to
theorem eqPageS_to : EqSOK Ph ext 140 t_PageS := eqS_gen rfl rfl eqPage_to
theorem toLock_to : ToOK Ph ext 202 t_Lock := genTo_ok (ss := d_Lock) rfl (ofAll ⟨rfl, rfl, rfl, rfl, trivial⟩)
theorem szLock_to : SzOK Ph ext 199 t_Lock := genSz_ok (ss := d_Lock) rfl (ofAll ⟨rfl, rfl, rfl, rfl, trivial⟩)
theorem eqLock_to : EqOK Ph ext 206 t_Lock := genEq_ok (ss := d_Lock) rfl (ofAll ⟨rfl, rfl, rfl, rfl, trivial⟩)
theorem toLockS_to : ToSOK Ph ext 168 t_LockS := toS_gen rfl rfl rfl rfl (by decide) (by decide) toLock_to (fun _ => rfl)
theorem szLockS_to : SzSOK Ph ext 164 t_LockS := szS_gen rfl rfl szLock_to
theorem eqLockS_to : EqSOK Ph ext 172 t_LockS := eqS_gen rfl rfl eqLock_to
theorem toMail_to : ToOK Ph ext 203 t_Mail := genTo_ok (ss := d_Mail) rfl (ofAll ⟨rfl, rfl, rfl, trivial⟩)
theorem eqMail_to : EqOK Ph ext 207 t_Mail := genEq_ok (ss := d_Mail) rfl (ofAll ⟨rfl, rfl, rfl, trivial⟩)
theorem toMailS_to : ToSOK Ph ext 169 t_MailS := toS_gen rfl rfl rfl rfl (by decide) (by decide) toMail_to (fun _ => rfl)
theorem szMailS_to : SzSOK Ph ext 165 t_MailS := szF_gen rfl rfl
theorem eqMailS_to : EqSOK Ph ext 173 t_MailS := eqS_gen rfl rfl eqMail_to
theorem toStringS_to : ToSOK Ph ext 204 t_StringS := toF_gen rfl rfl rfl (by decide)
theorem szStringS_to : SzSOK Ph ext 200 t_StringS := fun _ h _ a b => szStringS_ok (Has_rows h).1 (strs h) a b
theorem eqStringS_to : EqSOK Ph ext 208 t_StringS := eqF_gen rfl rfl
theorem toSite_to : ToOK Ph ext 170 t_Site := genTo_ok (ss := d_Site) rfl (ofAll ⟨rfl, rfl, ⟨toStringS_to, rfl⟩, rfl, trivial⟩)
theorem szSite_to : SzOK Ph ext 166 t_Site := genSz_ok (ss := d_Site) rfl (ofAll ⟨rfl, rfl, szStringS_to, rfl, trivial⟩)
theorem eqSite_to : EqOK Ph ext 174 t_Site := genEq_ok (ss := d_Site) rfl (ofAll ⟨rfl, rfl, eqStringS_to, rfl, trivial⟩)
theorem toSiteS_to : ToSOK Ph ext 137 t_SiteS := toS_gen rfl rfl rfl rfl (by decide) (by decide) toSite_to nofun
theorem szSiteS_to : SzSOK Ph ext 131 t_SiteS := szS_gen rfl rfl szSite_to
theorem eqSiteS_to : EqSOK Ph ext 143 t_SiteS := eqS_gen rfl rfl eqSite_to
theorem toServerS_to : ToSOK Ph ext 138 t_ServerS := toS_gen rfl rfl rfl rfl (by decide) (by decide) toServer_to nofun
theorem szServerS_to : SzSOK Ph ext 132 t_ServerS := szS_gen rfl rfl szServer_to
theorem eqServerS_to : EqSOK Ph ext 144 t_ServerS := eqS_gen rfl rfl eqServer_to
theorem toStorage_to : ToOK Ph ext 133 t_Storage := genTo_ok (ss := d_Storage) rfl (ofAll ⟨⟨toBucketS_to, rfl⟩, trivial⟩)
theorem szStorage_to : SzOK Ph ext 127 t_Storage := genSz_ok (ss := d_Storage) rfl (ofAll ⟨szBucketS_to, trivial⟩)
theorem eqStorage_to : EqOK Ph ext 139 t_Storage := genEq_ok (ss := d_Storage) rfl (ofAll ⟨eqBucketS_to, trivial⟩)
theorem toLockTable_to : ToOK Ph ext 135 t_LockTable := genTo_ok (ss := d_LockTable) rfl (ofAll ⟨⟨toLockS_to, rfl⟩, trivial⟩)
theorem szLockTable_to : SzOK Ph ext 129 t_LockTable := genSz_ok (ss := d_LockTable) rfl (ofAll ⟨szLockS_to, trivial⟩)
theorem eqLockTable_to : EqOK Ph ext 141 t_LockTable := genEq_ok (ss := d_LockTable) rfl (ofAll ⟨eqLockS_to, trivial⟩)
theorem toChannel_to : ToOK Ph ext 136 t_Channel := genTo_ok (ss := d_Channel) rfl (ofAll ⟨⟨toMailS_to, rfl⟩, trivial⟩)
theorem szChannel_to : SzOK Ph ext 130 t_Channel := genSz_ok (ss := d_Channel) rfl (ofAll ⟨szMailS_to, trivial⟩)
theorem eqChannel_to : EqOK Ph ext 142 t_Channel := genEq_ok (ss := d_Channel) rfl (ofAll ⟨eqMailS_to, trivial⟩)
theorem toWorld_to : ToOK Ph ext 106 t_World := genTo_ok (ss := d_World) rfl (ofAll ⟨rfl, rfl, rfl, ⟨toStorage_to, nofun⟩, ⟨toPageS_to, rfl⟩, rfl, ⟨toLockTable_to, nofun⟩, ⟨toChannel_to, nofun⟩, ⟨toSiteS_to, rfl⟩, ⟨toServerS_to, rfl⟩, trivial⟩)
theorem szWorld_to : SzOK Ph ext 104 t_World := genSz_ok (ss := d_World) rfl (ofAll ⟨rfl, rfl, rfl, szStorage_to, szPageS_to, rfl, szLockTable_to, szChannel_to, szSiteS_to, szServerS_to, trivial⟩)
theorem eqWorld_to : EqOK Ph ext 108 t_World := genEq_ok (ss := d_World) rfl (ofAll ⟨rfl, rfl, rfl, eqStorage_to, eqPageS_to, rfl, eqLockTable_to, eqChannel_to, eqSiteS_to, eqServerS_to, trivial⟩)
theorem markText_ok : TxOK Ph ext mText 432 := txF_ok rfl
theorem markAppliedS_to : MkOK Ph ext mText 448 t_AppliedS := markF_ok markText_ok rfl rfl ⟨rfl, ⟨rfl, trivial⟩⟩
theorem markByteS_to : MkOK Ph ext mText 474 t_ByteS := markF_ok markText_ok rfl rfl ⟨rfl, trivial⟩
theorem markCachedS_to : MkOK Ph ext mText 485 t_CachedS := markF_ok markText_ok rfl rfl ⟨rfl, ⟨rfl, ⟨rfl, ⟨rfl, ⟨rfl, ⟨rfl, markByteS_to, ⟨rfl, trivial⟩⟩⟩⟩⟩⟩⟩
theorem markCacheS_to : MkOK Ph ext mText 471 t_CacheS := markF_ok markText_ok rfl rfl ⟨rfl, ⟨rfl, markCachedS_to, trivial⟩⟩
theorem markFieldS_to : MkOK Ph ext mText 475 t_FieldS := markF_ok markText_ok rfl rfl ⟨rfl, ⟨rfl, trivial⟩⟩
theorem markItemS_to : MkOK Ph ext mText 447 t_ItemS := markF_ok markText_ok rfl rfl ⟨rfl, ⟨rfl, ⟨rfl, ⟨rfl, markFieldS_to, trivial⟩⟩⟩⟩
theorem markStoreS_to : MkOK Ph ext mText 472 t_StoreS := markF_ok markText_ok rfl rfl ⟨rfl, ⟨rfl, markItemS_to, ⟨rfl, trivial⟩⟩⟩
theorem markIndexDefS_to : MkOK Ph ext mText 473 t_IndexDefS := markF_ok markText_ok rfl rfl ⟨rfl, ⟨rfl, trivial⟩⟩
theorem markWriteS_to : MkOK Ph ext mText 449 t_WriteS := markF_ok markText_ok rfl rfl ⟨rfl, ⟨rfl, ⟨rfl, ⟨rfl, ⟨rfl, ⟨rfl, ⟨rfl, trivial⟩⟩⟩⟩⟩⟩⟩
theorem markBucketS_to : MkOK Ph ext mText 441 t_BucketS := markF_ok markText_ok rfl rfl ⟨rfl, ⟨rfl, ⟨rfl, ⟨rfl, ⟨rfl, ⟨rfl, ⟨rfl, markCacheS_to, ⟨rfl, ⟨rfl, ⟨rfl, markStoreS_to, ⟨rfl, markIndexDefS_to, ⟨rfl, markByteS_to, ⟨rfl, ⟨rfl, ⟨rfl, markItemS_to, ⟨rfl, ⟨rfl, ⟨rfl, ⟨rfl, ⟨rfl, markWriteS_to, ⟨rfl, ⟨rfl, ⟨rfl, ⟨rfl, trivial⟩⟩⟩⟩⟩⟩⟩⟩⟩⟩⟩⟩⟩⟩⟩⟩⟩⟩⟩⟩⟩⟩⟩⟩
theorem markMailS_to : MkOK Ph ext mText 446 t_MailS := markF_ok markText_ok rfl rfl ⟨rfl, ⟨rfl, ⟨rfl, trivial⟩⟩⟩
theorem markChannel_to : MsOK Ph ext mText 429 t_Channel := markG_ok (ss := [.l t_MailS 446]) rfl rfl ⟨markMailS_to, trivial⟩
theorem markInstrS_to : MkOK Ph ext mText 443 t_InstrS := markF_ok markText_ok rfl rfl ⟨rfl, ⟨rfl, ⟨rfl, ⟨rfl, trivial⟩⟩⟩⟩
theorem markIntS_to : MkOK Ph ext mText 444 t_IntS := markF_ok markText_ok rfl rfl ⟨rfl, trivial⟩
theorem markLoadedS_to : MkOK Ph ext mText 442 t_LoadedS := markF_ok markText_ok rfl rfl ⟨rfl, ⟨rfl, trivial⟩⟩
theorem markLockS_to : MkOK Ph ext mText 445 t_LockS := markF_ok markText_ok rfl rfl ⟨rfl, ⟨rfl, ⟨rfl, ⟨rfl, trivial⟩⟩⟩⟩
theorem markLockTable_to : MsOK Ph ext mText 428 t_LockTable := markG_ok (ss := [.l t_LockS 445]) rfl rfl ⟨markLockS_to, trivial⟩
theorem markPageS_to : MkOK Ph ext mText 427 t_PageS := markF_ok markText_ok rfl rfl ⟨rfl, ⟨rfl, ⟨rfl, ⟨rfl, ⟨rfl, markLoadedS_to, ⟨rfl, markInstrS_to, ⟨rfl, ⟨rfl, markIntS_to, ⟨rfl, ⟨rfl, ⟨rfl, trivial⟩⟩⟩⟩⟩⟩⟩⟩⟩⟩⟩
theorem markServerS_to : MkOK Ph ext mText 431 t_ServerS := markF_ok markText_ok rfl rfl ⟨rfl, ⟨rfl, markItemS_to, ⟨rfl, ⟨rfl, markAppliedS_to, ⟨rfl, markWriteS_to, trivial⟩⟩⟩⟩⟩
theorem markStringS_to : MkOK Ph ext mText 421 t_StringS := markF_ok markText_ok rfl rfl ⟨rfl, trivial⟩
theorem markSiteS_to : MkOK Ph ext mText 430 t_SiteS := markF_ok markText_ok rfl rfl ⟨rfl, ⟨rfl, ⟨rfl, markStringS_to, ⟨rfl, trivial⟩⟩⟩⟩
theorem markStorage_to : MsOK Ph ext mText 426 t_Storage := markG_ok (ss := [.l t_BucketS 441]) rfl rfl ⟨markBucketS_to, trivial⟩
theorem markWorld_to : MsOK Ph ext mText 420 t_World := markG_ok (ss := [.k [.int .i64, .bool, .int .i64], .s t_Storage 426, .l t_PageS 427, .k [.int .i64], .s t_LockTable 428, .s t_Channel 429, .l t_SiteS 430, .l t_ServerS 431]) rfl rfl ⟨rfl, ⟨markStorage_to, ⟨markPageS_to, ⟨rfl, ⟨markLockTable_to, ⟨markChannel_to, ⟨markSiteS_to, ⟨markServerS_to, trivial⟩⟩⟩⟩⟩⟩⟩⟩
theorem heldAppliedS_to : HeldOK Ph ext mText 469 t_AppliedS := heldF_ok markText_ok rfl ⟨rfl, ⟨rfl, trivial⟩⟩
theorem heldByteS_to : HeldOK Ph ext mText 483 t_ByteS := heldF_ok markText_ok rfl ⟨rfl, trivial⟩
theorem heldCachedS_to : HeldOK Ph ext mText 494 t_CachedS := heldF_ok markText_ok rfl ⟨rfl, ⟨rfl, ⟨rfl, ⟨rfl, ⟨rfl, ⟨rfl, heldByteS_to, ⟨rfl, trivial⟩⟩⟩⟩⟩⟩⟩
theorem heldCacheS_to : HeldOK Ph ext mText 480 t_CacheS := heldF_ok markText_ok rfl ⟨rfl, ⟨rfl, heldCachedS_to, trivial⟩⟩
theorem heldFieldS_to : HeldOK Ph ext mText 484 t_FieldS := heldF_ok markText_ok rfl ⟨rfl, ⟨rfl, trivial⟩⟩
theorem heldItemS_to : HeldOK Ph ext mText 468 t_ItemS := heldF_ok markText_ok rfl ⟨rfl, ⟨rfl, ⟨rfl, ⟨rfl, heldFieldS_to, trivial⟩⟩⟩⟩
theorem heldStoreS_to : HeldOK Ph ext mText 481 t_StoreS := heldF_ok markText_ok rfl ⟨rfl, ⟨rfl, heldItemS_to, ⟨rfl, trivial⟩⟩⟩
theorem heldIndexDefS_to : HeldOK Ph ext mText 482 t_IndexDefS := heldF_ok markText_ok rfl ⟨rfl, ⟨rfl, trivial⟩⟩
theorem heldWriteS_to : HeldOK Ph ext mText 470 t_WriteS := heldF_ok markText_ok rfl ⟨rfl, ⟨rfl, ⟨rfl, ⟨rfl, ⟨rfl, ⟨rfl, ⟨rfl, trivial⟩⟩⟩⟩⟩⟩⟩
theorem heldBucketS_to : HeldOK Ph ext mText 462 t_BucketS := heldF_ok markText_ok rfl ⟨rfl, ⟨rfl, ⟨rfl, ⟨rfl, ⟨rfl, ⟨rfl, ⟨rfl, heldCacheS_to, ⟨rfl, ⟨rfl, ⟨rfl, heldStoreS_to, ⟨rfl, heldIndexDefS_to, ⟨rfl, heldByteS_to, ⟨rfl, ⟨rfl, ⟨rfl, heldItemS_to, ⟨rfl, ⟨rfl, ⟨rfl, ⟨rfl, ⟨rfl, heldWriteS_to, ⟨rfl, ⟨rfl, ⟨rfl, ⟨rfl, trivial⟩⟩⟩⟩⟩⟩⟩⟩⟩⟩⟩⟩⟩⟩⟩⟩⟩⟩⟩⟩⟩⟩⟩⟩
theorem heldMailS_to : HeldOK Ph ext mText 467 t_MailS := heldF_ok markText_ok rfl ⟨rfl, ⟨rfl, ⟨rfl, trivial⟩⟩⟩
theorem heldChannel_to : HsOK Ph ext mText 438 t_Channel := heldG_ok (ss := [.l t_MailS 467]) rfl ⟨heldMailS_to, trivial⟩
theorem heldInstrS_to : HeldOK Ph ext mText 464 t_InstrS := heldF_ok markText_ok rfl ⟨rfl, ⟨rfl, ⟨rfl, ⟨rfl, trivial⟩⟩⟩⟩
theorem heldIntS_to : HeldOK Ph ext mText 465 t_IntS := heldF_ok markText_ok rfl ⟨rfl, trivial⟩
theorem heldLoadedS_to : HeldOK Ph ext mText 463 t_LoadedS := heldF_ok markText_ok rfl ⟨rfl, ⟨rfl, trivial⟩⟩
theorem heldLockS_to : HeldOK Ph ext mText 466 t_LockS := heldF_ok markText_ok rfl ⟨rfl, ⟨rfl, ⟨rfl, ⟨rfl, trivial⟩⟩⟩⟩
theorem heldLockTable_to : HsOK Ph ext mText 437 t_LockTable := heldG_ok (ss := [.l t_LockS 466]) rfl ⟨heldLockS_to, trivial⟩
theorem heldPageS_to : HeldOK Ph ext mText 436 t_PageS := heldF_ok markText_ok rfl ⟨rfl, ⟨rfl, ⟨rfl, ⟨rfl, ⟨rfl, heldLoadedS_to, ⟨rfl, heldInstrS_to, ⟨rfl, ⟨rfl, heldIntS_to, ⟨rfl, ⟨rfl, ⟨rfl, trivial⟩⟩⟩⟩⟩⟩⟩⟩⟩⟩⟩
theorem heldServerS_to : HeldOK Ph ext mText 440 t_ServerS := heldF_ok markText_ok rfl ⟨rfl, ⟨rfl, heldItemS_to, ⟨rfl, ⟨rfl, heldAppliedS_to, ⟨rfl, heldWriteS_to, trivial⟩⟩⟩⟩⟩
theorem heldStringS_to : HeldOK Ph ext mText 422 t_StringS := heldF_ok markText_ok rfl ⟨rfl, trivial⟩
theorem heldSiteS_to : HeldOK Ph ext mText 439 t_SiteS := heldF_ok markText_ok rfl ⟨rfl, ⟨rfl, ⟨rfl, heldStringS_to, ⟨rfl, trivial⟩⟩⟩⟩
theorem heldStorage_to : HsOK Ph ext mText 435 t_Storage := heldG_ok (ss := [.l t_BucketS 462]) rfl ⟨heldBucketS_to, trivial⟩
theorem heldWorld_to : HsOK Ph ext mText 425 t_World := heldG_ok (ss := [.k [.int .i64, .bool, .int .i64], .s t_Storage 435, .l t_PageS 436, .k [.int .i64], .s t_LockTable 437, .s t_Channel 438, .l t_SiteS 439, .l t_ServerS 440]) rfl ⟨rfl, ⟨heldStorage_to, ⟨heldPageS_to, ⟨rfl, ⟨heldLockTable_to, ⟨heldChannel_to, ⟨heldSiteS_to, ⟨heldServerS_to, trivial⟩⟩⟩⟩⟩⟩⟩⟩
end
end Gi
